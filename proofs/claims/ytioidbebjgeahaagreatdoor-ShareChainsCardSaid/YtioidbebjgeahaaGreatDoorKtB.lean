/- Texts that the proof needs: NatDivB, NatGcd, NatPub, NatApi, NatApi2, NatO, RatPlain, CirSound, NatWrap, RatBox, RatSum, RatSums, RatProd, RatQ, RatRun. -/
import Derived.Maps.AppendAt
import Derived.Deep.RegionHeld3
import Derived.RangeFuncBox
import Derived.Laws.AppendOwnNone
import Derived.OneCell
import Derived.Deep.LoopGhost
import Derived.LaidEql
import Derived.Test.YtioidbebjgeahaaGreatDoorCards
import Derived.Test.YtioidbebjgeahaaGreatDoorTie
import Derived.ProofKit
import Derived.OpenShut
import Derived.Deep.DeepHandedRow
import Derived.Deep.DeepWitnessRowRef
import Derived.Deep.DeepLaidRun
import Derived.Lib.LaidTab
import Derived.Stop.LaidErr
import Derived.LaidMore
import Derived.LaidSub
import Derived.WalkLawsBesides
import Derived.WalkSpells
import Derived.Deep.QuietTactic
import Derived.BigQuiet
import Derived.StillTailTactics
import Derived.Laws.OwnMore
import Derived.Deep.DeepCutAuto
import Derived.Test.YtioidbebjgeahaaGreatDoorKtA
set_option maxHeartbeats 2000000
set_option maxRecDepth 100000
namespace Go.Proofs.YtioidbebjgeahaaGreatDoor
section
open Go.RowKit Go.Shelf
attribute [local go_sem] Oper.semAt_some
namespace Nt
theorem alloc_at_old (w:World) (o:Obj) {k:Nat} {x:Obj} (h:w.heap[k]? = some x):(w.alloc o).heap[k]? = some x :=
 (Below.heap_alloc w o k (Array.getElem?_eq_some_iff.1 h).1).trans h
theorem alloc_at_new (w:World) (o:Obj) {k:Nat} (h:k=w.heap.size):(w.alloc o).heap[k]? = some o:=by
 subst h;exact heap_alloc_new w o
theorem five (w:World) (o1 o2 o3 o4 o5:Obj) :
 (((((w.alloc o1).alloc o2).alloc o3).alloc o4).alloc o5).heap[w.heap.size]? = some o1∧(((((w.alloc o1).alloc o2).alloc o3).alloc o4).alloc o5).heap[w.heap.size+1]? = some o2 ∧
 (((((w.alloc o1).alloc o2).alloc o3).alloc o4).alloc o5).heap[w.heap.size+1+1]? = some o3∧(((((w.alloc o1).alloc o2).alloc o3).alloc o4).alloc o5).heap[w.heap.size+1+1+1]? = some o4 ∧
 (((((w.alloc o1).alloc o2).alloc o3).alloc o4).alloc o5).heap[w.heap.size+1+1+1+1]? = some o5∧(((((w.alloc o1).alloc o2).alloc o3).alloc o4).alloc o5).heap.size=w.heap.size+5 ∧
 Below w.heap.size w (((((w.alloc o1).alloc o2).alloc o3).alloc o4).alloc o5):=by
 refine⟨?_,?_,?_,?_,?_,by simp,?_⟩
 · exact alloc_at_old _ _ (alloc_at_old _ _ (alloc_at_old _ _ (alloc_at_old _ _ (alloc_at_new _ _ rfl))))
 · exact alloc_at_old _ _ (alloc_at_old _ _ (alloc_at_old _ _ (alloc_at_new _ _ (by simp))))
 · exact alloc_at_old _ _ (alloc_at_old _ _ (alloc_at_new _ _ (by simp)))
 · exact alloc_at_old _ _ (alloc_at_new _ _ (by simp))
 · exact alloc_at_new _ _ (by simp)
 · exact(((((Below.refl _ w).alloc (Nat.le_refl _) _).alloc (by simp) _).alloc (by simp;omega) _).alloc (by simp;omega) _).alloc (by simp;omega) _
structure KeptBut (S:Nat→Prop) (w w':World):Prop where
 os:w'.os=w.os
 tape:w'.tape=w.tape
 output:w'.output=w.output
 size:w.heap.size≤w'.heap.size
 block:∀k,k<w.heap.size→¬S k→w'.heap[k]? = w.heap[k]?
theorem KeptBut.refl (S:Nat→Prop) (w:World):KeptBut S w w:=⟨rfl,rfl,rfl,Nat.le_refl _,fun _ _ _=>rfl⟩
theorem KeptBut.below {S:Nat→Prop} {w w' w'':World} (h:KeptBut S w w') (hb:Below w'.heap.size w' w''):KeptBut S w w'' :=
 ⟨hb.os.trans h.os,hb.tape.trans h.tape,hb.output.trans h.output,Nat.le_trans h.size hb.size,fun k hk hs=>(hb.block k (Nat.lt_of_lt_of_le hk h.size)).trans (h.block k hk hs)⟩
theorem KeptBut.setCell {S:Nat→Prop} {w w':World} (h:KeptBut S w w') {p:Addr} (hp:w.heap.size≤p.block∨S p.block) (v:Value):KeptBut S w (w'.setCell p v) :=
 ⟨h.os,h.tape,h.output,by simpa [World.setCell] using h.size,fun k hk hs=>(Below.heap_setCell _ _ _ _ (fun e=>by subst e;rcases hp with hp | hp;(· omega);(· exact hs hp))).trans (h.block k hk hs)⟩
theorem KeptBut.grown {S:Nat→Prop} {w w' w'':World} {row:Option Nat} (h:KeptBut S w w') (hg:w'.grownBy w'' row) (hr:∀k,row=some k→w.heap.size≤k∨S k):KeptBut S w w'' :=
 ⟨hg.os.trans h.os,hg.tape.trans h.tape,hg.output.trans h.output,Nat.le_trans h.size hg.size,fun k hk hs =>
   (hg.block k (Nat.lt_of_lt_of_le hk h.size) (fun e=>by rcases hr k e.symm with h1 | h1;(· omega);(· exact hs h1))).trans (h.block k hk hs)⟩
theorem KeptBut.to {S:Nat→Prop} {B:Nat} {w0 w w':World} (h:KeptBut S w w') (h0:Below B w0 w) (hB:B≤w.heap.size) (hS:∀k,S k→B≤k):Below B w0 w' :=
 h0.trans ⟨h.os,h.tape,h.output,h.size,fun k hk=>h.block k (by omega) (fun hs=>by have:=hS k hs;omega)⟩
def Box (t:TypeId) (W:World) (b:Nat) (v:Value):Prop:=W.heap[b]? = some (.cells #[v] t (0,0))
theorem Box.cell {t:TypeId} {W:World} {b:Nat} {v:Value} (h:Box t W b v):W.cell? ⟨b,0,none⟩=some v:=by
 unfold Box at h;simp[World.cell?,h]
theorem Box.frozen {t:TypeId} {W:World} {b:Nat} {v:Value} (h:Box t W b v):W.frozen? ⟨b,0,none⟩=false:=by
 unfold Box at h;simp[World.frozen?,h]
theorem Box.lt {t:TypeId} {W:World} {b:Nat} {v:Value} (h:Box t W b v):b<W.heap.size:=(Array.getElem?_eq_some_iff.1 h).1
theorem Box.set {t:TypeId} {W:World} {b:Nat} {v:Value} (h:Box t W b v) (u:Value):Box t (W.setCell ⟨b,0,none⟩ u) b u:=by
 unfold Box at h ⊢;simp[World.setCell,Array.getElem?_modify,h]
theorem Box.other {t:TypeId} {W:World} {b:Nat} {v:Value} (h:Box t W b v) (p:Addr) (u:Value) (hp:b≠p.block):Box t (W.setCell p u) b v:=by
 unfold Box at h ⊢;rw[Below.heap_setCell _ _ _ _ hp];exact h
theorem Box.below {t:TypeId} {W W':World} {b n:Nat} {v:Value} (h:Box t W b v) (hb:Below n W W') (hn:b<n):Box t W' b v:=by
 unfold Box at h ⊢;rw[hb.block b hn];exact h
theorem Row.other {t:TypeId} {W:World} {g:Nat} {zs:List Nat} (h:Row t W g zs) (p:Addr) (u:Value) (hp:g≠p.block):Row t (W.setCell p u) g zs:=by
 unfold Row at h ⊢;rw[Below.heap_setCell _ _ _ _ hp];exact h
theorem Row.below {t:TypeId} {W W':World} {g n:Nat} {zs:List Nat} (h:Row t W g zs) (hb:Below n W W') (hn:g<n):Row t W' g zs:=by
 unfold Row at h ⊢;rw[hb.block g hn];exact h
theorem run_append_sl (t ty e:TypeId) (i:TypeInfo) (B:Nat) (w:World) (ht:Tryz.prog.underlying t=some (.slice e)) (hi:Tryz.prog.info? e=some i) (hz:i.zero=some (.int .u64 0)) (hs:i.size=1) (hby:i.bytes=8)
 (v sv:Value) (n:Nat) (xs ys:List Nat) (hown:Own e B w v n xs) (hsl:Sl w sv ys) (hb:n+ys.length≤1000000) (hB:B≤w.heap.size) :
 ∃v' w',(Builtin.append_ #[t,t] ty #[v,sv]).run Tryz.prog w=.ok v' w'∧Own e B w' v' (n+ys.length) (xs++ys)∧w.grownBy w' v.ownBlock:=by
 rcases hsl.shape with⟨rfl,rfl⟩ | ⟨b,off,cap,rfl,hb',_,hc⟩
 · refine⟨v,w,run_append_owned_none w B t ty e i 1 ht hi v n _ hown,?_,World.grownBy.refl _ _⟩
   simpa using hown
 · obtain ⟨v',w',h1,h2,h3,_⟩:=run_append_own w B t ty e i (.int .u64 0) 1 8 ht hi hz hs hby rfl (by decide) v n _ hown ⟨b,off,none⟩ ys.length cap (lvals ys) (by simp[lvals])
    (fun j u hj=>by
      simp only[lvals,List.getElem?_map,Option.map_eq_some_iff]at hj;obtain⟨y,hy,rfl⟩:=hj;have hjl:=(List.getElem?_eq_some_iff.1 hy).1;have:=hc j hjl;rw[lim_lt _ _ hjl,(List.getElem?_eq_some_iff.1 hy).2]at this;rw[Lib.add_plain];exact this)
    (fun u hu=>by simp only[lvals,List.mem_map]at hu;obtain⟨y,_,rfl⟩:=hu;rfl) (by unfold maxLen;omega) (by omega) hB
   refine⟨v',w',h1,?_,h3⟩;unfold Own;rw[lvals,List.map_append];exact h2
theorem wpListIn_append_sl {F:Fence} {N:Nat} (w:World) {ops:Array Oper} {rest:List Oper} {o:Oper} {a:Act} {Q:Exit→Act→World→Prop}
 (hg:o.guard=none) (s x:Operand) (t:TypeId) (hop:o.op=Op.call { callee:=Callee.builtin Builtin.append,args:=#[s,x],argTypes:=#[t,t] }) (e:TypeId) (i:TypeInfo) (B:Nat)
 (ht:Tryz.prog.underlying t=some (.slice e)) (hi:Tryz.prog.info? e=some i) (hz:i.zero=some (.int .u64 0)) (hsz:i.size=1) (hby:i.bytes=8)
 (v sv:Value) (n:Nat) (xs ys:List Nat) (hs:a.eval s=v) (hx:a.eval x=sv) (hown:Own e B w v n xs) (hsl:Sl w sv ys) (hb:n+ys.length≤1000000) (hB:B≤w.heap.size)
 (hK:∀v' w',Own e B w' v' (n+ys.length) (xs++ys)→w.grownBy w' v.ownBlock→wpListIn F N Tryz.prog ops Q rest (a.put o.dst v') w') :
 wpListIn F N Tryz.prog ops Q (o::rest) a w:=by
 refine wpListIn_plain hg fun K hK'=>?_;obtain⟨v',w',hrun,r1,r2⟩:=run_append_sl t o.type e i B w ht hi hz hsz hby v sv n xs ys hown hsl hb hB;unfold Oper.wpIn;refine⟨?_,?_⟩
 · simp[Oper.about,hop,resolve,Target.leads,Sem.run_pure]
 · rw[Oper.semAt_plain F _ _ (by rw[hop];intro c hc';cases hc')];simp[execOp,hop,resolve,invoke,builtin,hs,hx,hrun,Result.andThen];exact hK' _ _ (hK v' w' r1 r2)
theorem Sl.kept {A B:World} {row:Option Nat} {v:Value} {xs:List Nat} (h:Sl A v xs) (hg:A.grownBy B row) (hr:∀r,row=some r→∃o:Obj,A.heap[r]? = some o∧o.isCells=false):Sl B v xs:=by
 obtain⟨a,cap,rfl,hn,hs⟩:=h;refine⟨a,cap,rfl,hn,fun ad e=>?_⟩;obtain⟨h1,h2,h3,h4⟩:=hs ad e;exact⟨h1,Nat.lt_of_lt_of_le h2 hg.size,h3,fun i hi=>cell_kept (h4 i hi) hg hr⟩
theorem Num.kept {A B:World} {row:Option Nat} {v:Value} {n:Nat} (h:Num A v n) (hg:A.grownBy B row) (hr:∀r,row=some r→∃o:Obj,A.heap[r]? = some o∧o.isCells=false):Num B v n:=by
 obtain⟨xs,h1,h2,h3⟩:=h;exact⟨xs,h1,h2,h3.kept hg hr⟩
theorem Sl.setCell {W:World} {v:Value} {xs:List Nat} {B:Nat} (h:Sl W v xs) (hf:From B v) (p:Addr) (hp:p.block<B) (u:Value):Sl (W.setCell p u) v xs:=by
 obtain⟨a,cap,rfl,hn,hs⟩:=h;refine⟨a,cap,rfl,hn,fun ad e=>?_⟩;obtain⟨h1,h2,h3,h4⟩:=hs ad e;subst e;have hB:B≤ad.block:=hf;refine⟨h1,by simpa [World.setCell] using h2,h3,fun i hi=>?_⟩;rw[←h4 i hi];exact World.cell?_of_block (w:=W) (a:=⟨ad.block,ad.off+i,none⟩) (Below.heap_setCell _ _ _ _ (by show ad.block≠p.block;omega))
theorem Num.setCell {W:World} {v:Value} {n B:Nat} (h:Num W v n) (hf:From B v) (p:Addr) (hp:p.block<B) (u:Value):Num (W.setCell p u) v n:=by
 obtain⟨xs,h1,h2,h3⟩:=h;exact⟨xs,h1,h2,h3.setCell hf p hp u⟩
theorem From.mono {B B':Nat} {v:Value} (h:From B v) (hb:B'≤B):From B' v:=by
 unfold From at h ⊢
 split
 · exact Nat.le_trans hb h
 · trivial
theorem Num.shape {W:World} {v:Value} {n:Nat} (h:Num W v n):∃a l c,v=.slice a l c:=by
 obtain⟨xs,_,_,a,c,h,_⟩:=h;exact⟨a,_,c,h⟩
def divStep (xs:List Nat) (M:Nat) (s:Nat×List Nat) (x:Place xs.length):Nat×List Nat :=
 if lim xs x.1+1000000000*s.1<M then (lim xs x.1+1000000000*s.1,s.2)
 else ((lim xs x.1+1000000000*s.1)%M,s.2.set x.1 ((lim xs x.1+1000000000*s.1)/M))
def divSt (xs:List Nat) (M:Nat) (pre:List (Place xs.length)):Nat×List Nat:=pre.foldl (divStep xs M) (0,List.replicate xs.length 0)
theorem divSt_snoc (xs:List Nat) (M:Nat) (pre:List (Place xs.length)) (x:Place xs.length):divSt xs M (pre++[x])=divStep xs M (divSt xs M pre) x:=by
 simp[divSt,List.foldl_append]
def DivI (w W1:World) (xs:List Nat) (M:Nat) (pre:List (Place xs.length)) (W:World):Prop :=
 (∃rv,Box 157 W (w.heap.size+1+1+1) rv∧Num W rv (divSt xs M pre).1∧From W1.heap.size rv)∧Row 150 W (w.heap.size+1) (divSt xs M pre).2 ∧
 (divSt xs M pre).1<M∧(divSt xs M pre).2.length=xs.length∧InR (divSt xs M pre).2∧KeptBut (fun k=>k=w.heap.size+1∨k=w.heap.size+1+1+1) W1 W
theorem divStep_plain (xs:List Nat) (M:Nat) (p:Nat) (hp:p<xs.length) (s:Nat×List Nat) (hM:0<M) (hz:s.2.length=xs.length) (h0:∀j,j≤p→lim s.2 j=0)
 (h4:lv s.2*M+1000000000^(p+1)*s.1+lo xs (p+1)=lv xs) :
 (divStep xs M s ⟨p,hp⟩).1<M∧(divStep xs M s ⟨p,hp⟩).2.length=xs.length∧(∀j,j<p→lim (divStep xs M s ⟨p,hp⟩).2 j=0) ∧
 lv (divStep xs M s ⟨p,hp⟩).2*M+1000000000^p*(divStep xs M s ⟨p,hp⟩).1+lo xs p=lv xs:=by
 obtain⟨r,zs⟩:=s;dsimp only at hz h0 h4;rw[lo_succ,Nat.pow_succ]at h4;unfold divStep;dsimp only;generalize lim xs p=x at h4 ⊢;have key:1000000000^p*(x+1000000000*r)=1000000000^p*x+1000000000^p*1000000000*r:=by rw[Nat.mul_add,Nat.mul_assoc]
 split
 · rename_i hlt;exact⟨hlt,hz,fun j hj=>h0 j (by omega),by dsimp only;omega⟩
 · rename_i hge;have hs:=lv_set zs p ((x+1000000000*r)/M) (by omega);rw[h0 p (Nat.le_refl _)]at hs;refine⟨Nat.mod_lt _ hM,by simpa using hz,fun j hj=>by rw[lim_set_ne _ _ _ _ (by omega)];exact h0 j (by omega),?_⟩;dsimp only;have e1:lv (zs.set p ((x+1000000000*r)/M))=lv zs+1000000000^p*((x+1000000000*r)/M):=by omega
   have e2:1000000000^p*(x+1000000000*r)=1000000000^p*(M*((x+1000000000*r)/M))+1000000000^p*((x+1000000000*r)%M):=by rw[←Nat.mul_add,Nat.div_add_mod]
   have e3:1000000000^p*((x+1000000000*r)/M)*M=1000000000^p*(M*((x+1000000000*r)/M)):=by rw[Nat.mul_assoc,Nat.mul_comm M]
   rw[e1,Nat.add_mul,e3];omega
theorem divSt_back (xs:List Nat) (M:Nat) (hM:0<M) (k:Nat) (hk:k≤xs.length) :
 (divSt xs M (back xs.length k)).1<M∧(divSt xs M (back xs.length k)).2.length=xs.length∧(∀j,j<xs.length-k→lim (divSt xs M (back xs.length k)).2 j=0) ∧
 lv (divSt xs M (back xs.length k)).2*M+1000000000^(xs.length-k)*(divSt xs M (back xs.length k)).1+lo xs (xs.length-k)=lv xs:=by
 induction k with
 | zero =>
   refine⟨hM,by simp[divSt,back_zero],fun j hj=>by simp only[divSt,back_zero,List.foldl_nil];exact lim_zeros _ _,?_⟩;simp only[divSt,back_zero,List.foldl_nil,Nat.sub_zero];rw[lv_zeros _ (fun j hj=>lim_zeros _ _),lo_all _ _ (Nat.le_refl _)];omega
 | succ k ih =>
   obtain⟨_,h2,h3,h4⟩:=ih (by omega);rw[back_succ _ _ (by omega),divSt_snoc];have e1:xs.length-(k+1)=xs.length-1-k:=by omega
   have e2:xs.length-k=xs.length-1-k+1:=by omega
   rw[e1];rw[e2]at h3 h4;exact divStep_plain xs M _ _ _ hM h2 (fun j hj=>h3 j (by omega)) h4
theorem divSt_end (xs:List Nat) (M:Nat) (hM:0<M):lv (divSt xs M (back xs.length xs.length)).2=lv xs/M∧(divSt xs M (back xs.length xs.length)).1=lv xs%M:=by
 obtain⟨h1,_,_,h4⟩:=divSt_back xs M hM xs.length (Nat.le_refl _);rw[Nat.sub_self,Nat.pow_zero,Nat.one_mul,lo_zero,Nat.add_zero]at h4;constructor
 · rw[←h4,Nat.mul_comm,Nat.mul_add_div hM,Nat.div_eq_of_lt h1,Nat.add_zero]
 · rw[←h4,Nat.mul_comm,Nat.mul_add_mod,Nat.mod_eq_of_lt h1]
theorem div_walk (w:World) (a:Option Addr) (cap:Nat) (xs:List Nat) (mc:Option Addr) (ml mcap M:Nat) (hl:xs.length≤200) (hx:Hid (InR xs)) (b:Nat) (hb:b<w.heap.size)
 (ha:Hid (SlAt w b (.slice a xs.length cap) xs)) (hM:Hid (Num w (.slice mc ml mcap) M)) (hM0:0<M) (hsM:Hid (Small (M*1000000000))) :
 Calls Tryz.prog 167 #[.slice a xs.length cap,.slice mc ml mcap] w fun e w' =>
  (∃v u,e=.returned (.tuple #[v,u])∧Num w' v (lv xs/M)∧Num w' u (lv xs%M))∧Below w.heap.size w w':=by
 have hmk:=run_make_num xs.length (by omega);refine(callsIn_wide (n:=9)).1 ?_;refine callsIn_of_wp_marks Tryz.func167 rfl trivial ?_ rfl;simp only[Tryz.ntmps167,List.size_toArray,List.length_cons,List.length_nil,Nat.reduceAdd,Nat.reduceSub,Array.replicate_succ,Array.replicate_zero,List.push_toArray,List.append_toArray,List.nil_append,List.cons_append]
 gi_wp2_with (first
  | (refine⟨trivial,?_⟩;gi_at_call 183;refine(back_make Fence.wide _ trivial rfl _ _ _ _).mono ?_;rintro e w' ⟨rfl,rfl⟩)
  | (gi_at_call 183;refine(back_make Fence.wide _ trivial rfl _ _ _ _).mono ?_;rintro e w' ⟨rfl,rfl⟩))
 obtain⟨f1,f2,f3,f4,f5,f6,f7⟩:=five w (.cells #[.slice mc ml mcap] 157) (.cells (madeCells #[.int .u64 0] xs.length) 150) (.cells #[.slice (some ⟨w.heap.size+1,0,none⟩) xs.length xs.length] 157) (.cells #[.slice none 0 0] 157) (.cells #[.slice a xs.length cap] 157);generalize ((((w.alloc (.cells #[.slice mc ml mcap] 157)).alloc (.cells (madeCells #[.int .u64 0] xs.length) 150)).alloc (.cells #[.slice (some ⟨w.heap.size+1,0,none⟩) xs.length xs.length] 157)).alloc (.cells #[.slice none 0 0] 157)).alloc (.cells #[.slice a xs.length cap] 157)=W1 at f1 f2 f3 f4 f5 f6 f7 ⊢;rw[madeZero]at f2;have hbx:W1.cell? ⟨w.heap.size+1+1+1+1,0,none⟩=some (.slice a xs.length cap):=Box.cell f5;have hsl:SlAt W1 b (.slice a xs.length cap) xs:=ha.out.keep (c:=b) (Keep2.of_below f7 hb hb);have hMW:Num W1 (.slice mc ml mcap) M:=hM.out.below f7
 refine wpIn_rangeFunc_ownF rfl (by decide) (gf:=211) (lb:=#[.pointer (some ⟨w.heap.size+1+1+1+1,0,none⟩)]) rfl trivial (enters_of Tryz.func211 (by kernel_rfl) rfl)
  (back_stops Fence.wide _ trivial rfl (by decide) (w.heap.size+1+1+1+1) b _ xs (by omega) W1 (by omega) (by omega) hbx hsl) (fun h k=>h.trans k)
  (fun W l o o' hl h ho hw=>?kb) (Below.refl _ _) (fun _=>rfl)
  (DivI w W1 xs M) (fun _ _ _=>False)
  (fun s A B row hs hg hr=>?own)
  (fun _ _ _ _ _ hs _ _=>hs)
  ⟨⟨_,f4,⟨[],⟨fun x hx=>absurd hx (by simp),by simp⟩,rfl,Sl.nil _⟩,trivial⟩,f2,hM0,by simp[divSt],InR.zeros _,KeptBut.refl _ _⟩
  (fun x=>{ tmps:=#[.slice a xs.length cap,.slice mc ml mcap,undef,.pointer (some ⟨w.heap.size,0,none⟩),.slice none 0 0,.slice none 0 0,.pointer (some ⟨w.heap.size+1+1,0,none⟩),.pointer (some ⟨w.heap.size+1+1+1,0,none⟩),
    .int .i64 (x.1:Int),.int .u64 (lim xs x.1),undef,.slice a xs.length cap,.int .i64 xs.length,.slice (some ⟨w.heap.size+1,0,none⟩) xs.length xs.length,.slice a xs.length cap,
    .func (.func 211) #[] #[.pointer (some ⟨w.heap.size+1+1+1+1,0,none⟩)],.int .i64 (x.1:Int),.int .u64 (lim xs x.1),
    undef,undef,undef,undef,undef,undef,undef,undef,undef,undef,undef,undef,undef,undef,undef,undef,undef,undef,undef,undef,undef,undef,undef,undef,undef,undef],defers:=[] })
  ?assign ?body ?done ?stop
 case kb =>
  have h1:=(Array.getElem?_eq_some_iff.1 h).1;exact⟨World.putObj_heap_other (by omega),World.putObj_heap_other (by omega)⟩
 case own =>
  obtain⟨⟨rv,s1,s2,s2f⟩,s3,s4,s5,s6,s7⟩:=hs;have hr':=fun r e=>(hr r e).2;exact⟨⟨rv,block_kept s1 hg hr',s2.kept hg hr',s2f⟩,block_kept s3 hg hr',s4,s5,s6,s7.grown hg (fun k e=>.inl (hr k e).1)⟩
 case assign =>
  intro l x W K hK
  gi_wp2
  exact hK
 case body =>
  rintro l pre x W ⟨⟨rv,s1,⟨rs,c1,c2,c3⟩,s2f⟩,s3,s4,s5,s6,s7⟩ hlen;obtain⟨i0,hi,hz0,hz1,hz2⟩:=info_parts infoU;have hsz:=s7.size;have hb0:w.heap.size<W.heap.size:=by omega
  have hb1:w.heap.size+1<W.heap.size:=by omega
  have hb2:w.heap.size+1+1<W.heap.size:=by omega
  have hb3:w.heap.size+1+1+1<W.heap.size:=by omega
  have hcr:=Box.cell s1;have hfr:=Box.frozen s1;have hlim:=hx.out.lim x.1;have hbxM:Box 157 W w.heap.size (.slice mc ml mcap):=(s7.block w.heap.size (by omega) (by omega)).trans f1;have hbxQ:Box 157 W (w.heap.size+1+1) (.slice (some ⟨w.heap.size+1,0,none⟩) xs.length xs.length):=(s7.block (w.heap.size+1+1) (by omega) (by omega)).trans f3;have hcM:=Box.cell (show Box 157 W w.heap.size (.slice mc ml mcap) from(s7.block w.heap.size (by omega) (by omega)).trans f1);have hown:Own 150 W.heap.size (W.alloc (.cells #[.int .u64 (lim xs x.1)] 150)) (.slice (some ⟨W.heap.size,0,none⟩) 1 1) 1 [lim xs x.1]:=World.ownsRow_lit W #[.int .u64 (lim xs x.1)] 1 (Nat.le_refl _) (by unfold maxLen;omega) rfl;have hslr:Sl (W.alloc (.cells #[.int .u64 (lim xs x.1)] 150)) rv rs:=c3.below ((Below.refl _ _).alloc (Nat.le_refl _) _);obtain⟨ar,capr,hrv,_⟩:=c3.addr;subst hrv;have C1:=Lib.hid c1;have C2:=Lib.hid c2;have S3:=Lib.hid s3;have S4:=Lib.hid s4;have S5:=Lib.hid s5;have S6:=Lib.hid s6;have S7:=Lib.hid s7;have hrl:rs.length≤200:=c1.len_le (small_of_le hsM.out (by omega));have F6:=Lib.hid f6;replace hsz:=Lib.hid hsz;clear c1 c2 s3 s4 s5 s6 s7 hsl hMW hmk f1 f2 f3 f4 f5 f6 hbx c3
  gi_wp2_with (gi_at_builtin;refine wpListIn_append_sl _ rfl _ _ 157 rfl 150 i0 W.heap.size Tryz.underlying157 hi hz0 hz1 hz2 _ _ 1 [lim xs x.1] rs rfl rfl hown hslr (by omega) (by simp) ?_;intro v1 w1 hown1 hgr1)
  refine⟨trivial,?_⟩;refine(CallsIn.inRound l (callsIn_wide.2 (trim_any w1 v1 (lim xs x.1::rs) (by simp;omega) hown1.sl))).mono ?_;rintro e w2 ⟨v2,k2,rfl,ht2,hs2,hf2,rfl⟩;have F2:=hf2 _ hown1.from
  have N2:Num w1 v2 (lim xs x.1+1000000000*(divSt xs M pre).1):=⟨_,ht2.canon (fun y hy=>by
   rcases List.mem_cons.1 hy with h | h
   · rw[h];exact hlim
   · exact C1.out.1 y h),by rw[ht2.lv,lv,C2.out],hs2⟩
  have hB1:Below W.heap.size W w1:=((Below.refl W.heap.size W).alloc (Nat.le_refl _) _).grown hgr1 (by simp) (fun k e=>by cases e;exact Nat.le_refl _);have s1':Box 157 w1 (w.heap.size+1+1+1) (.slice ar rs.length capr):=s1.below hB1 hb3;have hxM1:=hbxM.below hB1 hb0;have hcM1:=hxM1.cell;have hcr1:=s1'.cell;have hfr1:=s1'.frozen
  obtain ⟨a2,n2,cap2,e2⟩:∃a n c,v2=.slice a n c:=by
   obtain⟨a,c,h,_⟩:=hs2;exact⟨a,_,c,h⟩
  subst e2;generalize hr1:lim xs x.1+1000000000*(divSt xs M pre).1=r1 at N2
  have hsR:Small r1:=by
   rw[←hr1];exact small_of_le hsM.out (by have:=S4.out;omega)
  have hrM:r1<M*1000000000:=by rw[←hr1];have:=S4.out;omega
  have HR1:=Lib.hid hr1;replace hrM:=Lib.hid hrM;have HB1:=Lib.hid hB1;replace N2:=Lib.hid N2;replace F2:=Lib.hid F2;clear hr1 hB1 hs2 hf2 ht2 hown1 hgr1 hown hslr hcr hfr C1 C2 hi hz0 hz1 hz2 s1
  gi_wp2
  -- the world behind the store of the rest
  have hsz1:=HB1.out.size;have s1'':=s1'.set (.slice a2 n2 cap2);have hB3:Below w.heap.size w (w1.setCell ⟨w.heap.size+1+1+1,0,none⟩ (.slice a2 n2 cap2)):=((S7.out.to f7 f7.size (fun k h=>by omega)).trans (HB1.out.mono (by omega))).setCell (by simp;omega) _;have N3:Num (w1.setCell ⟨w.heap.size+1+1+1,0,none⟩ (.slice a2 n2 cap2)) (.slice a2 n2 cap2) r1:=N2.out.setCell F2.out _ hb3 _;have K3:KeptBut (fun k=>k=w.heap.size+1∨k=w.heap.size+1+1+1) W1 (w1.setCell ⟨w.heap.size+1+1+1,0,none⟩ (.slice a2 n2 cap2)):=(S7.out.below HB1.out).setCell (.inr (.inr rfl)) _;have R3:=((S3.out.below HB1.out hb1).other ⟨w.heap.size+1+1+1,0,none⟩ (.slice a2 n2 cap2) (by simp));have hsz3:W.heap.size≤(w1.setCell ⟨w.heap.size+1+1+1,0,none⟩ (.slice a2 n2 cap2)).heap.size:=by simpa [World.setCell] using hsz1
  have hxM3:=hxM1.other ⟨w.heap.size+1+1+1,0,none⟩ (.slice a2 n2 cap2) (by simp;omega);have hxQ3:=(hbxQ.below HB1.out hb2).other ⟨w.heap.size+1+1+1,0,none⟩ (.slice a2 n2 cap2) (by simp);have KO3:KeepsOthers W (w1.setCell ⟨w.heap.size+1+1+1,0,none⟩ (.slice a2 n2 cap2)):=(KeepsOthers.of_below HB1.out).trans (KeepsOthers.setCell _ _ _);have KK3:Keep2 b (w.heap.size+1+1+1+1) W (w1.setCell ⟨w.heap.size+1+1+1,0,none⟩ (.slice a2 n2 cap2)):=(Keep2.of_below HB1.out (by omega) (by have:=F6.out;have:=hsz.out;omega)).trans (Keep2.setCell _ _ _ (by simp;omega) (by simp));generalize w1.setCell ⟨w.heap.size+1+1+1,0,none⟩ (.slice a2 n2 cap2)=w3 at s1'' hB3 N3 K3 R3 hsz3 hxM3 hxQ3 KO3 KK3 ⊢;clear hxM1 hcM1 s1' hcr1 hfr1 N2 hbxM hbxQ hcM HB1 hsz1;refine⟨trivial,?_⟩;refine(CallsIn.inRound l (callsIn_wide.2 (compare_any w3 _ _ r1 M N3 (hM.out.below hB3) ?sm1 ?sm2))).mono ?_
  case sm1=>exact hsR
  case sm2=>omega
  rintro e w4 ⟨rfl,hb4⟩
  by_cases hlt:r1<M
  · rw[cmpN_lt hlt]
    gi_wp2
    have e:divSt xs M (pre++[x])=(r1,(divSt xs M pre).2):=by rw[divSt_snoc,divStep,HR1.out,if_pos hlt]
    refine⟨KO3.trans (KeepsOthers.of_below hb4),KK3.trans (Keep2.of_below hb4 (by omega) (by have:=F6.out;have:=hsz.out;omega)),?_⟩;unfold DivI;rw[e];exact⟨⟨_,s1''.below hb4 (by omega),N3.below hb4,F2.out.mono hsz.out⟩,R3.below hb4 (by omega),hlt,S5.out,S6.out,K3.below hb4⟩
  · rw [show cmpN r1 M=cmpN r1 M from rfl]
    have hc0:decide (cmpN r1 M<0)=false:=by
     rcases Nat.lt_or_ge M r1 with h | h
     · rw[cmpN_gt h];rfl
     · rw[show r1=M by omega,cmpN_eq];rfl
    generalize cmpN r1 M=cr at hc0 ⊢;have hc1:¬cr<0:=by simpa using hc0
    clear hc0
    gi_wp2
    refine⟨trivial,?_⟩;have hsz4:=hb4.size;have M4:=(hM.out.below hB3).below hb4;have N4:=N3.below hb4;have hcM4:=(hxM3.below hb4 (by omega)).cell;have hcR4:=(s1''.below hb4 (by omega)).cell
    refine (CallsIn.inRound l (callsIn_wide.2 (search_any 999999999 (by omega) (fun k=>decide (r1<M*(k+1))) (.pointer (some ⟨w.heap.size,0,none⟩)) (.pointer (some ⟨w.heap.size+1+1+1,0,none⟩)) w4
     (fun a b hab hbn h=>by
       have h1:M*(a+1)≤M*(b+1):=Nat.mul_le_mul_left _ (by omega);simp only[decide_eq_true_eq]at h ⊢;omega)
     (fun W' i hW' hi=>closure_any W' i hi w.heap.size (w.heap.size+1+1+1) _ _ M r1 ((hW'.cell (p:=⟨w.heap.size,0,none⟩) (by simp;omega)).trans hcM4) ((hW'.cell (p:=⟨w.heap.size+1+1+1,0,none⟩) (by simp;omega)).trans hcR4) (M4.below hW') (N4.below hW') hsM)))).mono ?_
    rintro e w5 ⟨d,rfl,hd1,hd2,hd3,hb5⟩
    have hd:d=r1/M:=by
     have hrM':=hrM.out;refine(Nat.div_eq_of_lt_le ?_ ?_).symm
     · cases d with
       | zero=>simp
       | succ d=>have:=hd2 d (by omega);simp only[decide_eq_false_iff_not]at this;rw[Nat.mul_comm];omega
     · by_cases h:d<999999999
       · have:=hd3 h;simp only[decide_eq_true_eq]at this;rw[Nat.mul_comm];exact this
       · obtain rfl:d=999999999:=by omega
         rw[Nat.mul_comm];exact hrM'
    have hsz5:=hb5.size;have M5:=M4.below hb5;have N5:=N4.below hb5;have hxM5:=(hxM3.below hb4 (by omega)).below hb5 (by omega);have hxQ5:=(hxQ3.below hb4 (by omega)).below hb5 (by omega);have hxR5:=(s1''.below hb4 (by omega)).below hb5 (by omega);have R5:=(R3.below hb4 (by omega)).below hb5 (by omega);have K5:=(K3.below hb4).below hb5;have KO5:=(KO3.trans (KeepsOthers.of_below hb4)).trans (KeepsOthers.of_below hb5);have KK5:=(KK3.trans (Keep2.of_below hb4 (by omega) (by have:=F6.out;have:=hsz.out;omega))).trans (Keep2.of_below hb5 (by omega) (by have:=F6.out;have:=hsz.out;omega));have hB5:=(hB3.trans (hb4.mono (by omega))).trans (hb5.mono (by omega));have hsW5:W.heap.size≤w5.heap.size:=by omega
    clear hsz4 M4 N4 hcM4 hcR4 hd1 hd2 hd3 hb5 hb4 hsz5 N3 R3 K3 s1'' hxM3 hxQ3 KO3 KK3 hB3 hsz3;have hcQ5:=hxQ5.cell;have hcG5:=R5.cell (i:=x.1) (by have:=S5.out;have:=x.2;omega);have hfG5:=R5.frozen x.1;have hxl:x.1<xs.length:=x.2;have hd9:d≤999999999:=by rw[hd];have:=hrM.out;exact Nat.le_of_lt_succ (Nat.div_lt_of_lt_mul (by omega))
    have HD:=Lib.hid hd;clear hd
    gi_wp2
    have hsG:(w5.setCell ⟨w.heap.size+1,x.1,none⟩ (.int .u64 (d:Int))).heap.size=w5.heap.size:=by simp[World.setCell]
    have M6:Num (w5.setCell ⟨w.heap.size+1,x.1,none⟩ (.int .u64 (d:Int))) (.slice mc ml mcap) M:=hM.out.below (hB5.setCell (Nat.le_succ _) _);have N6:=N5.setCell F2.out ⟨w.heap.size+1,x.1,none⟩ hb1 (.int .u64 (d:Int));have hxM6:=hxM5.other ⟨w.heap.size+1,x.1,none⟩ (.int .u64 (d:Int)) (Nat.ne_of_lt (Nat.lt_succ_self _));have hxR6:=hxR5.other ⟨w.heap.size+1,x.1,none⟩ (.int .u64 (d:Int)) (by show w.heap.size+1+1+1≠w.heap.size+1;omega);have R6:=R5.set x.1 d;have K6:=K5.setCell (p:=⟨w.heap.size+1,x.1,none⟩) (.inr (.inl rfl)) (.int .u64 (d:Int));have KO6:=KO5.trans (KeepsOthers.setCell w5 ⟨w.heap.size+1,x.1,none⟩ (.int .u64 (d:Int)));have KK6:=KK5.trans (Keep2.setCell w5 ⟨w.heap.size+1,x.1,none⟩ (.int .u64 (d:Int)) (by simp;omega) (by simp;omega));have hsW6:W.heap.size≤(w5.setCell ⟨w.heap.size+1,x.1,none⟩ (.int .u64 (d:Int))).heap.size:=by omega
    generalize w5.setCell ⟨w.heap.size+1,x.1,none⟩ (.int .u64 (d:Int))=w6 at M6 N6 hxM6 hxR6 R6 K6 KO6 KK6 hsW6 ⊢;have hd1:1≤d:=by rw[HD.out];exact(Nat.one_le_div_iff hM0).2 (by omega)
    have hMd:M*d≤r1:=by rw[HD.out];exact Nat.mul_div_le r1 M
    have hone:=num_one w6 d (by omega) (by omega) (X:=(d:Int)) rfl;have cM:=mul_any (w6.alloc (.cells #[.int .u64 (d:Int)] 150)).drew (.slice mc ml mcap) (.slice (some ⟨w6.heap.size,0,none⟩) 1 1) M d (M6.below ((Below.refl _ _).alloc (Nat.le_refl _) _).drew) hone (small_of_le hsM.out (by omega)) (small_limb (by omega));have hcM6:=hxM6.cell;have hcR6:=hxR6.cell;have hfR6:=hxR6.frozen;have hm6:w.heap.size<w6.heap.size:=by omega
    have hr6:w.heap.size+1+1+1<w6.heap.size:=by omega
    have s1:IntKind.u64.wrap (d:Int)=(d:Int):=IntWalk.u64_in _ (by omega);replace hMd:=Lib.hid hMd;replace N6:=Lib.hid N6;replace hone:=Lib.hid hone;replace R6:=Lib.hid R6;replace K6:=Lib.hid K6;replace KO6:=Lib.hid KO6;replace KK6:=Lib.hid KK6;replace hxR6:=Lib.hid hxR6;clear M6 hxM6 hsG N5 hxM5 hxR5 hxQ5 hcQ5 hcG5 hfG5 R5 K5 KO5 KK5 hB5 hsW5 M5
    gi_region_with (first
     | (refine⟨trivial,?_⟩;gi_at_call 169;refine(CallsIn.inRound l (callsIn_wide.2 cM)).mono ?_;rintro e w7 ⟨v7,rfl,hv7,_,hb7⟩;have hbW7:Below w6.heap.size w6 w7:=((Below.refl w6.heap.size w6).alloc (Nat.le_refl _) _).drew.trans (hb7.mono (by simp));have hcR7:=(hbW7.cell (p:=⟨w.heap.size+1+1+1,0,none⟩) hr6).trans hcR6;replace hb7:=Lib.hid hb7;replace hbW7:=Lib.hid hbW7)
     | (refine⟨trivial,?_⟩;gi_at_call 163;refine(CallsIn.inRound l (callsIn_wide.2 (sub_any w7 (.slice a2 n2 cap2) v7 r1 (M*d) (N6.out.below hbW7.out) hv7 hMd.out hsR))).mono ?_;rintro e w8 ⟨v8,rfl,hv8,hf8,hb8⟩;have hbW8:Below w6.heap.size w6 w8:=hbW7.out.trans (hb8.mono hbW7.out.size);have hcR8:=(hbW8.cell (p:=⟨w.heap.size+1+1+1,0,none⟩) hr6).trans hcR6;have hfR8:=(hbW8.frozen (p:=⟨w.heap.size+1+1+1,0,none⟩) hr6).trans hfR6;obtain⟨a8,n8,cap8,e8⟩:∃a n c,v8=.slice a n c:=hv8.shape;subst e8;replace hf8:=Lib.hid (From.mono hf8 hbW7.out.size);replace hb8:=Lib.hid hb8;replace hbW8:=Lib.hid hbW8;clear hcR7))
    all_goals
     have hbW:=Hid.out (p:=Below w6.heap.size w6 w8) (by assumption);have hf8':=Hid.out (p:=From w6.heap.size (.slice a8 n8 cap8)) (by assumption)
     gi_wp2
     have hq:(d:Nat)<1000000000:=by omega
     have e:divSt xs M (pre++[x])=(r1-M*d,(divSt xs M pre).2.set x.1 d):=by
      rw[divSt_snoc,divStep,HR1.out,if_neg hlt,HD.out,Nat.mod_eq_sub]
     refine⟨(KO6.out.trans (KeepsOthers.of_below hbW)).trans (KeepsOthers.setCell _ _ _),(KK6.out.trans (Keep2.of_below hbW (by omega) (by have:=F6.out;have:=hsz.out;omega))).trans (Keep2.setCell _ _ _ (by show b≠w.heap.size+1+1+1;omega) (by show w.heap.size+1+1+1+1≠w.heap.size+1+1+1;omega)),?_⟩;unfold DivI;rw[e];refine⟨⟨_,(hxR6.out.below hbW (by omega)).set _,hv8.setCell hf8' _ hr6 _,hf8'.mono (by have:=hsz.out;omega)⟩,(R6.out.below hbW (by omega)).other _ _ (by show w.heap.size+1≠w.heap.size+1+1+1;omega),?_,by simpa using S5.out,S6.out.set _ _ hq,(K6.out.below hbW).setCell (.inr (.inr rfl)) _⟩;rw[HD.out,←Nat.mod_eq_sub];exact Nat.mod_lt _ hM0
 case done =>
  rintro D zs W hD rfl ⟨⟨rv,s1,s2,s2f⟩,s3,s4,s5,s6,s7⟩ hK;have hbxQ:Box 157 W (w.heap.size+1+1) (.slice (some ⟨w.heap.size+1,0,none⟩) xs.length xs.length):=(s7.block (w.heap.size+1+1) (by omega) (by omega)).trans f3;have hcQ:=hbxQ.cell;have hcR:=s1.cell;have hBW:Below w.heap.size w W:=s7.to f7 f7.size (fun k h=>by omega);have hst:=divSt_end xs M hM0;have hslq:=s3.sl;rw[s5]at hslq;obtain⟨ar,lr,cr,erv⟩:=s2.shape;subst erv;have hlq:(divSt xs M (back xs.length xs.length)).2.length≤1000000:=by rw[s5];omega
  replace hst:=Lib.hid hst;replace s2:=Lib.hid s2;replace s6:=Lib.hid s6;replace hBW:=Lib.hid hBW;have HK:=Lib.hid hK;clear s1 s3 s4 s5 s7 f1 f2 f3 f4 f5 f6 hsl hMW hmk hbx hbxQ hK
  gi_wp2
  refine wpIn_wide.2 ?_
  go_region_held3 (fun w'=>w'.cell? ⟨w.heap.size+1+1,0,none⟩=some (.slice (some ⟨w.heap.size+1,0,none⟩) xs.length xs.length)∧w'.cell? ⟨w.heap.size+1+1+1,0,none⟩=some (.slice ar lr cr))
   (first
     | go_keep
     | (go_split_ands
        refine⟨?_,?_⟩
        · assumption
        · assumption))
   ((go_at_call 180;refine(trim_any W.drew (.slice (some ⟨w.heap.size+1,0,none⟩) xs.length xs.length) _ hlq hslq).mono ?_;rintro e w' ⟨v,k,rfl,ht,hs,hf,rfl⟩))
  gi_wp2
  refine⟨by simp,.inl ⟨_,_,rfl,run_takeDeferred (show W.drew.heap[D]? = _ from HK.out),?_⟩⟩;have hr':∀r,(some D)=some r→∃o:Obj,W.drew.heap[r]? = some o∧o.isCells=false:=fun r e=>by cases e;exact⟨_,HK.out,rfl⟩
  have hg:=grownBy_putObj' W.drew D (.deferred none)
  have hN1:Num (W.drew.putObj D (.deferred none)) v (lv xs/M):=by
   rw[←hst.out.1];exact⟨_,ht.canon s6.out,ht.lv,Sl.kept hs hg hr'⟩
  have hN2:Num (W.drew.putObj D (.deferred none)) (.slice ar lr cr) (lv xs%M):=by
   rw[←hst.out.2];exact Num.kept (show Num W.drew _ _ from s2.out) hg hr'
  obtain⟨av,lv',cv,ev⟩:=hN1.shape;subst ev;refine⟨.tuple #[.slice av lv' cv,.slice ar lr cr],by simp[results,Tryz.results167,go_sem],⟨_,_,rfl,hN1,hN2⟩,?_⟩;exact(hBW.out.drew).grown hg hBW.out.size (fun k e=>by cases e;exact Nat.le_trans f7.size hD)
 case stop =>
  rintro D c pre W _ _ h _;exact h.elim
theorem div_any (w:World) (v u:Value) (n m:Nat) (hn:Num w v n) (hm:Num w u m) (hbn:Small n) (hbm:Small (m*1000000000)) (hm0:0<m) (h0:0<w.heap.size) :
 Calls Tryz.prog 167 #[v,u] w fun e w' =>
  (∃q r,e=.returned (.tuple #[q,r])∧Num w' q (n/m)∧Num w' r (n%m))∧Below w.heap.size w w':=by
 obtain⟨xs,hx,rfl,hsx⟩:=hn;obtain⟨mc,ml,mcap,rfl⟩:=hm.shape;have hl:=hx.len_le (k:=200) hbn;obtain⟨b,hb,hat⟩:=SlAt.of hsx h0;obtain⟨a,cap,rfl,_⟩:=hsx.addr;exact div_walk w a cap xs mc ml mcap m hl hx.1 b hb hat hm hm0 hbm
end Nt
end
section
open Go.RowKit Go.Shelf
namespace Nt
theorem lv_nil_iff {xs:List Nat} (h:Canon xs):xs.length=0↔lv xs=0:=by
 constructor
 · intro e;rw[List.length_eq_zero_iff.1 e];rfl
 · intro e;have:=h.len_le (k:=0) (by rw[e];decide);omega
theorem Num.open {W:World} {v:Value} {n:Nat} (h:Num W v n):∃a l c,v=.slice a l c∧(l=0↔n=0):=by
 obtain⟨xs,h1,h2,a,c,h3,_⟩:=h;exact⟨a,_,c,h3,by rw[←h2];exact lv_nil_iff h1⟩
def GcdRel (w:World) (N G:Nat) (g:Nat) (v u:Value) (wr:World):Prop :=
 ∃n,Num wr v n∧Num wr u g∧Nat.gcd n g=G∧n≤N∧g≤N∧Below w.heap.size w wr
theorem gcd_any (w:World) (v u:Value) (n m N:Nat) (hn:Num w v n) (hm:Num w u m) (hnN:n≤N) (hmN:m≤N) (hN:Small (N*1000000000)) (h0:0<w.heap.size) :
 Calls Tryz.prog 166 #[v,u] w fun e w'=>(∃q,e=.returned q∧Num w' q (Nat.gcd n m))∧Below w.heap.size w w':=by
 have hrel0:GcdRel w N (Nat.gcd n m) m v u w:=⟨n,hn,hm,rfl,hnN,hmN,Below.refl _ _⟩;obtain⟨a,l,c,rfl,hl0⟩:=hn.open;obtain⟨a2,l2,c2,rfl,hl2⟩:=hm.open;replace hl0:=Lib.hid hl0;replace hl2:=Lib.hid hl2;clear hn hm;go_enter Tryz.func166,Tryz.ntmps166;go_wp2
 go_loopg [0,1] m (fun g v u wr=>GcdRel w N (Nat.gcd n m) g v u wr)
 case atStart=>exact hrel0
 case round =>
  clear hl0 hl2 hrel0;obtain⟨k,h1,h2,h3,h4,h5,h6⟩:=hrel;obtain⟨a1,l1,c1,rfl,_⟩:=h1.open;obtain⟨a2,l2,c2,rfl,hl2⟩:=h2.open
  by_cases hg:gk=0
  · have hl:=hl2.2 hg;subst hl;replace h1:=Lib.hid h1;replace h3:=Lib.hid h3;replace hg:=Lib.hid hg;replace h6:=Lib.hid h6;clear h2 hl2;go_wp2;go_ret;refine⟨⟨_,rfl,?_⟩,h6.out⟩;rw[←h3.out,hg.out,Nat.gcd_zero_right];exact h1.out
  · have hl:0<l2:=by
     rcases Nat.eq_zero_or_pos l2 with h | h
     · exact absurd (hl2.1 h) hg
     · exact h
    have hsz:=h6.size;have hc:=div_any wr _ _ k gk h1 h2 (small_of_le hN (by omega)) (small_of_le hN (Nat.mul_le_mul_right _ h5)) (by omega) (by omega);replace h1:=Lib.hid h1;replace h2:=Lib.hid h2;replace h3:=Lib.hid h3;replace hg:=Lib.hid hg;replace h6:=Lib.hid h6;clear hl2
    go_wp2_with (go_at_call 167;refine hc.mono ?_;rintro e w2 ⟨⟨q,r,rfl,hq,hr⟩,hb⟩;replace hq:=Lib.hid hq;replace hr:=Lib.hid hr;replace hb:=Lib.hid hb)
    go_roundg (k%gk)
    case measure=>exact Nat.mod_lt _ (by have:=hg.out;omega)
    case rel =>
     refine⟨gk,h2.out.below hb.out,hr.out,?_,h5,?_,h6.out.trans (hb.out.mono hsz)⟩
     · rw[←h3.out,Nat.gcd_comm gk,←Nat.gcd_rec,Nat.gcd_comm]
     · have:=Nat.mod_lt k (show gk>0 by have:=hg.out;omega);omega
end Nt
end
section
open Go.RowKit Go.Shelf
namespace Nt
def val (s:ByteArray):Nat:=dval s.data.toList
theorem val_num (n:Nat):val (num n)=n:=dval_decDigits n
theorem num_val {s:ByteArray} (h:isN s=true):num (val s)=s:=by
 obtain⟨n,_,rfl⟩:=num_of_isN h;rw[val_num]
theorem val_lt {s:ByteArray} (h:isN s=true):val s<Lim:=by
 obtain⟨n,hn,rfl⟩:=num_of_isN h;rw[val_num];exact hn
theorem dig_of_isN {s:ByteArray} (h:isN s=true):∀c∈s.data.toList,isDig c:=((isNL_iff _).1 h).2.2.1
theorem size_of_isN {s:ByteArray} (h:isN s=true):s.size≤300:=by
 have:=((isNL_iff _).1 h).2.1
 simpa using this
theorem pow_sq (a b:Nat) (h:a+a≤9*b):10^a*10^a≤1000000000^b:=by
 have e:(1000000000:Nat)=10^9:=rfl;rw[←Nat.pow_add,e,←Nat.pow_mul];exact Nat.pow_le_pow_right (by omega) h
theorem lim_sq:Lim*Lim≤1000000000^67:=by
 unfold Lim;exact pow_sq mxd 67 (by rw[mxd_eq];omega)
theorem small_of_sq {n:Nat} (h:n<1000000000^67*1000000000):Small n:=by
 have:1000000000^67*1000000000≤1000000000^200:=by
  rw[←Nat.pow_succ];exact Nat.pow_le_pow_right (by omega) (by omega)
 exact Nat.lt_of_lt_of_le h this
theorem lim_le:Lim≤Lim*Lim:=Nat.le_mul_of_pos_left _ (Nat.pow_pos (by omega))
theorem small_lim {n:Nat} (h:n<Lim):Small n:=small_of_sq (by have:=lim_sq;have:=lim_le;omega)
theorem small_lim9 {n:Nat} (h:n<Lim):Small (n*1000000000):=small_of_sq (by have:=lim_sq;have:=lim_le;omega)
theorem small_add {n m:Nat} (h:n<Lim) (k:m<Lim):Small (n+m):=small_of_sq (by have:=lim_sq;have:=lim_le;omega)
theorem small_mul {n m:Nat} (h:n<Lim) (k:m<Lim):Small (n*m):=small_of_sq (by
 have:=lim_sq;have h1:n*m≤Lim*Lim:=Nat.mul_le_mul (by omega) (by omega);omega)
def strL (k:Nat):ByteArray:=if k<Lim then num k else ⟨#[]⟩
def errL (k:Nat):Int:=if k<Lim then 0 else 2
theorem limited_eq (k:Nat):limited (Lib.decDigits k)=.tuple #[.string (strL k),.int .i64 (errL k)]:=by
 have h:300<(Lib.decDigits k).length↔¬k<Lim:=by
  have e:(Lib.decDigits k).length≤300↔k<Lim:=by
   have:=decDigits_len_iff k mxd (by rw[mxd_eq];omega);rw[←mxd_eq];exact this
  omega
 unfold limited strL errL
 by_cases hk:k<Lim
 · rw[if_neg (by rw[h];exact fun c=>c hk),if_pos hk,if_pos hk];rfl
 · rw[if_pos (h.2 hk),if_neg hk,if_neg hk]
def opS (k:Nat) (s t:ByteArray):ByteArray:=if isN s=true∧isN t=true then strL k else ⟨#[]⟩
def opE (k:Nat) (s t:ByteArray):Int:=if isN s=true∧isN t=true then errL k else 1
def OpPost (k:Nat) (s t:ByteArray) (w:World) (e:Ending) (w':World):Prop:=e=.returned (.tuple #[.string (opS k s t),.int .i64 (opE k s t)])∧Below w.heap.size w w'
theorem op_bad {k:Nat} {s t:ByteArray} (h:isN s=false∨isN t=false):opS k s t=⟨#[]⟩∧opE k s t=1:=by
 have:¬(isN s=true∧isN t=true):=by rintro⟨h1,h2⟩;rcases h with h | h<;>simp_all
 unfold opS opE;rw[if_neg this,if_neg this];exact⟨rfl,rfl⟩
theorem op_good {k:Nat} {s t:ByteArray} (h1:isN s=true) (h2:isN t=true):opS k s t=strL k∧opE k s t=errL k:=by
 unfold opS opE;rw[if_pos ⟨h1,h2⟩,if_pos ⟨h1,h2⟩];exact⟨rfl,rfl⟩
theorem parse_num (s:ByteArray) (w:World) (h:isN s=true):Calls Tryz.prog 161 #[.string s] w (PostNumV w.heap.size w (val s)) :=
 parse_any s w (by have:=size_of_isN h;omega) (dig_of_isN h)
theorem gcd_lt {n m:Nat} (hn:n<Lim) (hm:m<Lim):Nat.gcd n m<Lim:=by
 rcases Nat.eq_zero_or_pos n with h | h
 · rw[h,Nat.gcd_zero_left];exact hm
 · exact Nat.lt_of_le_of_lt (Nat.gcd_le_left m h) hn
theorem small_sum9 {n m:Nat} (h:n<Lim) (k:m<Lim):Small ((n+m)*1000000000):=by
 have:1000000000^68*1000000000≤1000000000^200:=by
  rw[←Nat.pow_succ];exact Nat.pow_le_pow_right (by omega) (by omega)
 have h1:=lim_sq;have h2:=lim_le;have h3:1000000000^68=1000000000^67*1000000000:=Nat.pow_succ ..;unfold Small;omega
theorem apply_add (s t:ByteArray) (w:World) (hE:Env w) (hs:isN s=true) (ht:isN t=true) :
 Calls Tryz.prog 159 #[.string s,.string t,.func (.func 160) #[] #[]] w (OpPost (val s+val t) s t w):=by
 have hss:=size_of_isN hs;have hts:=size_of_isN ht;have hEnv:=Lib.hid hE;have HG:=Lib.hid (op_good (k:=val s+val t) hs ht);have c1:=is_any s w (by omega);rw[hs]at c1;have HS:=Lib.hid hs;have HT:=Lib.hid ht;clear hs ht;have hs:=HS.out;have ht:=HT.out;replace hs:=Lib.hid hs;replace ht:=Lib.hid ht;replace hE:=Lib.hid hE;go_enter Tryz.func159,Tryz.ntmps159
 go_wp2_with fail
 refine c1.mono ?_;rintro e w1 ⟨rfl,hb1⟩;have hbA1:=Lib.hid hb1;clear hb1
 go_wp2_with fail
 have c2:=is_any t w1 (by omega);rw[ht.out]at c2;refine c2.mono ?_;rintro e w2 ⟨rfl,hb2⟩;have hbA2:=Lib.hid (hbA1.out.trans (hb2.mono hbA1.out.size));clear hb2 c1 c2 hbA1
 go_wp2_with fail
 refine(parse_num s w2 hs.out).mono ?_;rintro e w3 ⟨v1,rfl,hn1,_,hb3⟩;have hbA3:=Lib.hid (hbA2.out.trans (hb3.mono hbA2.out.size));replace hn1:=Lib.hid hn1;clear hb3 hbA2
 go_wp2_with fail
 refine(parse_num t w3 ht.out).mono ?_;rintro e w4 ⟨v2,rfl,hn2,_,hb2⟩;have hbA2:=Lib.hid (hbA3.out.trans (hb2.mono hbA3.out.size));replace hb2:=Lib.hid hb2;replace hn2:=Lib.hid hn2;clear hbA3
 go_wp2_with fail
 have hs':=hs.out;have ht':=ht.out;refine(add_any _ v1 v2 (val s) (val t) (hn1.out.below hb2.out) hn2.out (small_lim (val_lt hs.out)) (small_lim (val_lt ht.out))).mono ?_;rintro e w5 ⟨v3,rfl,hn3,_,hb3⟩;have hbA5:=Lib.hid (hbA2.out.trans (hb3.mono hbA2.out.size));replace hn3:=Lib.hid hn3;clear hb3 hbA2 hb2 hn1 hn2 hs' ht'
 go_wp2_with fail
 have ct:=text_any w5 v3 _ hn3.out (small_add (val_lt hs.out) (val_lt ht.out)) (hE.out.below hbA5.out);refine ct.mono ?_;rintro e w6 ⟨rfl,hb6⟩;rw[limited_eq];have hbA6:=Lib.hid (hbA5.out.trans (hb6.mono hbA5.out.size));clear ct hb6 hbA5 hn3;go_wp2;go_ret2;exact⟨by rw[HG.out.1,HG.out.2];rfl,hbA6.out⟩
theorem apply_sub (s t:ByteArray) (w:World) (hE:Env w) (hs:isN s=true) (ht:isN t=true) (hle:val t≤val s) :
 Calls Tryz.prog 159 #[.string s,.string t,.func (.func 163) #[] #[]] w (OpPost (val s-val t) s t w):=by
 have hss:=size_of_isN hs;have hts:=size_of_isN ht;have hEnv:=Lib.hid hE;have HG:=Lib.hid (op_good (k:=val s-val t) hs ht);have c1:=is_any s w (by omega);rw[hs]at c1;have HS:=Lib.hid hs;have HT:=Lib.hid ht;clear hs ht;have hs:=HS.out;have ht:=HT.out;replace hs:=Lib.hid hs;replace ht:=Lib.hid ht;replace hE:=Lib.hid hE;go_enter Tryz.func159,Tryz.ntmps159
 go_wp2_with fail
 refine c1.mono ?_;rintro e w1 ⟨rfl,hb1⟩;have hbA1:=Lib.hid hb1;clear hb1
 go_wp2_with fail
 have c2:=is_any t w1 (by omega);rw[ht.out]at c2;refine c2.mono ?_;rintro e w2 ⟨rfl,hb2⟩;have hbA2:=Lib.hid (hbA1.out.trans (hb2.mono hbA1.out.size));clear hb2 c1 c2 hbA1
 go_wp2_with fail
 refine(parse_num s w2 hs.out).mono ?_;rintro e w3 ⟨v1,rfl,hn1,_,hb3⟩;have hbA3:=Lib.hid (hbA2.out.trans (hb3.mono hbA2.out.size));replace hn1:=Lib.hid hn1;clear hb3 hbA2
 go_wp2_with fail
 refine(parse_num t w3 ht.out).mono ?_;rintro e w4 ⟨v2,rfl,hn2,_,hb2⟩;have hbA2:=Lib.hid (hbA3.out.trans (hb2.mono hbA3.out.size));replace hb2:=Lib.hid hb2;replace hn2:=Lib.hid hn2;clear hbA3
 go_wp2_with fail
 have hs':=hs.out;have ht':=ht.out;refine(sub_any _ v1 v2 (val s) (val t) (hn1.out.below hb2.out) hn2.out hle (small_lim (val_lt hs.out))).mono ?_;rintro e w5 ⟨v3,rfl,hn3,_,hb3⟩;have hbA5:=Lib.hid (hbA2.out.trans (hb3.mono hbA2.out.size));replace hn3:=Lib.hid hn3;clear hb3 hbA2 hb2 hn1 hn2 hs' ht'
 go_wp2_with fail
 have ct:=text_any w5 v3 _ hn3.out (small_lim (by have:=val_lt hs.out;omega)) (hE.out.below hbA5.out);refine ct.mono ?_;rintro e w6 ⟨rfl,hb6⟩;rw[limited_eq];have hbA6:=Lib.hid (hbA5.out.trans (hb6.mono hbA5.out.size));clear ct hb6 hbA5 hn3;go_wp2;go_ret2;exact⟨by rw[HG.out.1,HG.out.2];rfl,hbA6.out⟩
theorem apply_mul (s t:ByteArray) (w:World) (hE:Env w) (hs:isN s=true) (ht:isN t=true) :
 Calls Tryz.prog 159 #[.string s,.string t,.func (.func 169) #[] #[]] w (OpPost (val s*val t) s t w):=by
 have hss:=size_of_isN hs;have hts:=size_of_isN ht;have hEnv:=Lib.hid hE;have HG:=Lib.hid (op_good (k:=val s*val t) hs ht);have c1:=is_any s w (by omega);rw[hs]at c1;have HS:=Lib.hid hs;have HT:=Lib.hid ht;clear hs ht;have hs:=HS.out;have ht:=HT.out;replace hs:=Lib.hid hs;replace ht:=Lib.hid ht;replace hE:=Lib.hid hE;go_enter Tryz.func159,Tryz.ntmps159
 go_wp2_with fail
 refine c1.mono ?_;rintro e w1 ⟨rfl,hb1⟩;have hbA1:=Lib.hid hb1;clear hb1
 go_wp2_with fail
 have c2:=is_any t w1 (by omega);rw[ht.out]at c2;refine c2.mono ?_;rintro e w2 ⟨rfl,hb2⟩;have hbA2:=Lib.hid (hbA1.out.trans (hb2.mono hbA1.out.size));clear hb2 c1 c2 hbA1
 go_wp2_with fail
 refine(parse_num s w2 hs.out).mono ?_;rintro e w3 ⟨v1,rfl,hn1,_,hb3⟩;have hbA3:=Lib.hid (hbA2.out.trans (hb3.mono hbA2.out.size));replace hn1:=Lib.hid hn1;clear hb3 hbA2
 go_wp2_with fail
 refine(parse_num t w3 ht.out).mono ?_;rintro e w4 ⟨v2,rfl,hn2,_,hb2⟩;have hbA2:=Lib.hid (hbA3.out.trans (hb2.mono hbA3.out.size));replace hb2:=Lib.hid hb2;replace hn2:=Lib.hid hn2;clear hbA3
 go_wp2_with fail
 have hs':=hs.out;have ht':=ht.out;refine(mul_any _ v1 v2 (val s) (val t) (hn1.out.below hb2.out) hn2.out (small_lim (val_lt hs.out)) (small_lim (val_lt ht.out))).mono ?_;rintro e w5 ⟨v3,rfl,hn3,_,hb3⟩;have hbA5:=Lib.hid (hbA2.out.trans (hb3.mono hbA2.out.size));replace hn3:=Lib.hid hn3;clear hb3 hbA2 hb2 hn1 hn2 hs' ht'
 go_wp2_with fail
 have ct:=text_any w5 v3 _ hn3.out (small_mul (val_lt hs.out) (val_lt ht.out)) (hE.out.below hbA5.out);refine ct.mono ?_;rintro e w6 ⟨rfl,hb6⟩;rw[limited_eq];have hbA6:=Lib.hid (hbA5.out.trans (hb6.mono hbA5.out.size));clear ct hb6 hbA5 hn3;go_wp2;go_ret2;exact⟨by rw[HG.out.1,HG.out.2];rfl,hbA6.out⟩
theorem apply_gcd (s t:ByteArray) (w:World) (hE:Env w) (hs:isN s=true) (ht:isN t=true) :
 Calls Tryz.prog 159 #[.string s,.string t,.func (.func 166) #[] #[]] w (OpPost (Nat.gcd (val s) (val t)) s t w):=by
 have hss:=size_of_isN hs;have hts:=size_of_isN ht;have hEnv:=Lib.hid hE;have HG:=Lib.hid (op_good (k:=Nat.gcd (val s) (val t)) hs ht);have c1:=is_any s w (by omega);rw[hs]at c1;have HS:=Lib.hid hs;have HT:=Lib.hid ht;clear hs ht;have hs:=HS.out;have ht:=HT.out;replace hs:=Lib.hid hs;replace ht:=Lib.hid ht;replace hE:=Lib.hid hE;go_enter Tryz.func159,Tryz.ntmps159
 go_wp2_with fail
 refine c1.mono ?_;rintro e w1 ⟨rfl,hb1⟩;have hbA1:=Lib.hid hb1;clear hb1
 go_wp2_with fail
 have c2:=is_any t w1 (by omega);rw[ht.out]at c2;refine c2.mono ?_;rintro e w2 ⟨rfl,hb2⟩;have hbA2:=Lib.hid (hbA1.out.trans (hb2.mono hbA1.out.size));clear hb2 c1 c2 hbA1
 go_wp2_with fail
 refine(parse_num s w2 hs.out).mono ?_;rintro e w3 ⟨v1,rfl,hn1,_,hb3⟩;have hbA3:=Lib.hid (hbA2.out.trans (hb3.mono hbA2.out.size));replace hn1:=Lib.hid hn1;clear hb3 hbA2
 go_wp2_with fail
 refine(parse_num t w3 ht.out).mono ?_;rintro e w4 ⟨v2,rfl,hn2,_,hb2⟩;have hbA2:=Lib.hid (hbA3.out.trans (hb2.mono hbA3.out.size));replace hb2:=Lib.hid hb2;replace hn2:=Lib.hid hn2;clear hbA3
 go_wp2_with fail
 have hs':=hs.out;have ht':=ht.out;refine(gcd_any _ v1 v2 (val s) (val t) (val s+val t) (hn1.out.below hb2.out) hn2.out (Nat.le_add_right _ _) (Nat.le_add_left _ _) (small_sum9 (val_lt hs.out) (val_lt ht.out)) (by have:=hbA2.out.size;have:=hE.out.pos;omega)).mono ?_;rintro e w5 ⟨⟨v3,rfl,hn3⟩,hb3⟩;have hbA5:=Lib.hid (hbA2.out.trans (hb3.mono hbA2.out.size));replace hn3:=Lib.hid hn3;clear hb3 hbA2 hb2 hn1 hn2 hs' ht'
 go_wp2_with fail
 have ct:=text_any w5 v3 _ hn3.out (small_lim (gcd_lt (val_lt hs.out) (val_lt ht.out))) (hE.out.below hbA5.out);refine ct.mono ?_;rintro e w6 ⟨rfl,hb6⟩;rw[limited_eq];have hbA6:=Lib.hid (hbA5.out.trans (hb6.mono hbA5.out.size));clear ct hb6 hbA5 hn3;go_wp2;go_ret2;exact⟨by rw[HG.out.1,HG.out.2];rfl,hbA6.out⟩
end Nt
end
section
open Go.RowKit Go.Shelf
namespace Nt
theorem apply_bad (f:Nat) (k:Nat) (s t:ByteArray) (w:World) (hs:s.size≤140737488355328) (ht:t.size≤140737488355328) (hb:isN s=false∨isN t=false) :
 Calls Tryz.prog 159 #[.string s,.string t,.func (.func f) #[] #[]] w (OpPost k s t w):=by
 have HG:=Lib.hid (op_bad (k:=k) hb);have c1:=is_any s w (by omega)
 cases h1:isN s with
 | false =>
   rw[h1]at c1;clear hb h1;go_enter Tryz.func159,Tryz.ntmps159
   go_wp2_with (go_at_call 155;refine c1.mono ?_;rintro e w1 ⟨rfl,hb1⟩)
   go_ret2;exact⟨by rw[HG.out.1,HG.out.2];rfl,hb1⟩
 | true =>
   have h2:isN t=false:=by rcases hb with h | h;(· rw[h1]at h;cases h);(· exact h)
   rw[h1]at c1;have H2:=Lib.hid h2;clear hb h1 h2;go_enter Tryz.func159,Tryz.ntmps159
   go_wp2_with fail
   refine c1.mono ?_;rintro e w1 ⟨rfl,hb1⟩;replace hb1:=Lib.hid hb1
   go_wp2_with fail
   have c2:=is_any t w1 (by omega);rw[H2.out]at c2;refine c2.mono ?_;rintro e w2 ⟨rfl,hb2⟩;replace hb2:=Lib.hid hb2;go_wp2;go_ret2;exact⟨by rw[HG.out.1,HG.out.2];rfl,hb1.out.trans (hb2.out.mono hb1.out.size)⟩
theorem Add_any (s t:ByteArray) (w:World) (hE:Env w) (hs:s.size≤140737488355328) (ht:t.size≤140737488355328) :
 Calls Tryz.prog 129 #[.string s,.string t] w (OpPost (val s+val t) s t w):=by
 have hc:Calls Tryz.prog 159 #[.string s,.string t,.func (.func 160) #[] #[]] w (OpPost (val s+val t) s t w):=by
  cases h1:isN s with
  | false=>exact apply_bad _ _ s t w hs ht (.inl h1)
  | true =>
    cases h2:isN t with
    | false=>exact apply_bad _ _ s t w hs ht (.inr h2)
    | true=>exact apply_add s t w hE h1 h2
 go_enter Tryz.func129,Tryz.ntmps129
 go_wp2_with (go_at_call 159;refine hc.mono ?_;rintro e w1 ⟨rfl,hb1⟩)
 go_ret2;exact⟨rfl,hb1⟩
theorem Mul_any (s t:ByteArray) (w:World) (hE:Env w) (hs:s.size≤140737488355328) (ht:t.size≤140737488355328) :
 Calls Tryz.prog 135 #[.string s,.string t] w (OpPost (val s*val t) s t w):=by
 have hc:Calls Tryz.prog 159 #[.string s,.string t,.func (.func 169) #[] #[]] w (OpPost (val s*val t) s t w):=by
  cases h1:isN s with
  | false=>exact apply_bad _ _ s t w hs ht (.inl h1)
  | true =>
    cases h2:isN t with
    | false=>exact apply_bad _ _ s t w hs ht (.inr h2)
    | true=>exact apply_mul s t w hE h1 h2
 go_enter Tryz.func135,Tryz.ntmps135
 go_wp2_with (go_at_call 159;refine hc.mono ?_;rintro e w1 ⟨rfl,hb1⟩)
 go_ret2;exact⟨rfl,hb1⟩
theorem Gcd_any (s t:ByteArray) (w:World) (hE:Env w) (hs:s.size≤140737488355328) (ht:t.size≤140737488355328) :
 Calls Tryz.prog 133 #[.string s,.string t] w (OpPost (Nat.gcd (val s) (val t)) s t w):=by
 have hc:Calls Tryz.prog 159 #[.string s,.string t,.func (.func 166) #[] #[]] w (OpPost (Nat.gcd (val s) (val t)) s t w):=by
  cases h1:isN s with
  | false=>exact apply_bad _ _ s t w hs ht (.inl h1)
  | true =>
    cases h2:isN t with
    | false=>exact apply_bad _ _ s t w hs ht (.inr h2)
    | true=>exact apply_gcd s t w hE h1 h2
 go_enter Tryz.func133,Tryz.ntmps133
 go_wp2_with (go_at_call 159;refine hc.mono ?_;rintro e w1 ⟨rfl,hb1⟩)
 go_ret2;exact⟨rfl,hb1⟩
def cmpV (s t:ByteArray):Int:=if isN s=true∧isN t=true then cmpN (val s) (val t) else 0
def cmpE (s t:ByteArray):Int:=if isN s=true∧isN t=true then 0 else 1
theorem Compare_any (s t:ByteArray) (w:World) (hE:Env w) (hs:s.size≤140737488355328) (ht:t.size≤140737488355328) :
 Calls Tryz.prog 130 #[.string s,.string t] w fun e w'=>e=.returned (.tuple #[.int .i64 (cmpV s t),.int .i64 (cmpE s t)])∧Below w.heap.size w w':=by
 have c1:=is_any s w (by omega);replace hE:=Lib.hid hE
 cases h1:isN s with
 | false =>
   have HG:Hid (cmpV s t=0∧cmpE s t=1):=by unfold Hid cmpV cmpE;simp[h1]
   rw[h1]at c1;clear h1;go_enter Tryz.func130,Tryz.ntmps130
   go_wp2_with (go_at_call 155;refine c1.mono ?_;rintro e w1 ⟨rfl,hb1⟩)
   go_ret2;exact⟨by rw[HG.out.1,HG.out.2];rfl,hb1⟩
 | true =>
   cases h2:isN t with
   | false =>
     have HG:Hid (cmpV s t=0∧cmpE s t=1):=by unfold Hid cmpV cmpE;simp[h2]
     rw[h1]at c1;have H2:=Lib.hid h2;clear h1 h2;go_enter Tryz.func130,Tryz.ntmps130
     go_wp2_with fail
     refine c1.mono ?_;rintro e w1 ⟨rfl,hb1⟩;replace hb1:=Lib.hid hb1
     go_wp2_with fail
     have c2:=is_any t w1 (by omega);rw[H2.out]at c2;refine c2.mono ?_;rintro e w2 ⟨rfl,hb2⟩;replace hb2:=Lib.hid hb2;go_wp2;go_ret2;exact⟨by rw[HG.out.1,HG.out.2];rfl,hb1.out.trans (hb2.out.mono hb1.out.size)⟩
   | true =>
     have HG:Hid (cmpV s t=cmpN (val s) (val t)∧cmpE s t=0):=by unfold Hid cmpV cmpE;simp[h1,h2]
     rw[h1]at c1;have H1:=Lib.hid h1;have H2:=Lib.hid h2;clear h1 h2;go_enter Tryz.func130,Tryz.ntmps130
     go_wp2_with fail
     refine c1.mono ?_;rintro e w1 ⟨rfl,hb1⟩;have hbA1:=Lib.hid hb1;clear hb1
     go_wp2_with fail
     have c2:=is_any t w1 (by omega);rw[H2.out]at c2;refine c2.mono ?_;rintro e w2 ⟨rfl,hb2⟩;have hbA2:=Lib.hid (hbA1.out.trans (hb2.mono hbA1.out.size));clear hb2 c1 c2 hbA1
     go_wp2_with fail
     refine(parse_num s w2 H1.out).mono ?_;rintro e w3 ⟨v1,rfl,hn1,_,hb3⟩;have hbA3:=Lib.hid (hbA2.out.trans (hb3.mono hbA2.out.size));replace hn1:=Lib.hid hn1;clear hb3 hbA2
     go_wp2_with fail
     refine(parse_num t w3 H2.out).mono ?_;rintro e w4 ⟨v2,rfl,hn2,_,hb2⟩;have hbA2:=Lib.hid (hbA3.out.trans (hb2.mono hbA3.out.size));replace hb2:=Lib.hid hb2;replace hn2:=Lib.hid hn2;clear hbA3
     go_wp2_with fail
     refine(compare_any w4 v1 v2 (val s) (val t) (hn1.out.below hb2.out) hn2.out (small_lim (val_lt H1.out)) (by have:=hbA2.out.size;have:=hE.out.pos;omega)).mono ?_;rintro e w5 ⟨rfl,hb5⟩;have hbA5:=Lib.hid (hbA2.out.trans (hb5.mono hbA2.out.size));clear hb5 hbA2 hb2 hn1 hn2;go_wp2;go_ret2;exact⟨by rw[HG.out.1,HG.out.2];rfl,hbA5.out⟩
def subS (s t:ByteArray):ByteArray:=if isN s=true∧isN t=true∧val t≤val s then num (val s-val t) else ⟨#[]⟩
def subE (s t:ByteArray):Int:=if isN s=true∧isN t=true then (if val t≤val s then 0 else 10) else 1
theorem Sub_any (s t:ByteArray) (w:World) (hE:Env w) (hs:s.size≤140737488355328) (ht:t.size≤140737488355328) :
 Calls Tryz.prog 131 #[.string s,.string t] w fun e w'=>e=.returned (.tuple #[.string (subS s t),.int .i64 (subE s t)])∧Below w.heap.size w w':=by
 have cc:=Compare_any s t w hE hs ht
 by_cases hg:isN s=true∧isN t=true
 · have e1:cmpV s t=cmpN (val s) (val t):=by unfold cmpV;rw[if_pos hg]
   have e2:cmpE s t=0:=by unfold cmpE;rw[if_pos hg]
   rw[e1,e2]at cc
   by_cases hle:val t≤val s
   · have HG:Hid (subS s t=strL (val s-val t)∧subE s t=errL (val s-val t)):=by
      have:=val_lt hg.1;unfold Hid subS subE strL errL;rw[if_pos ⟨hg.1,hg.2,hle⟩,if_pos hg,if_pos hle,if_pos (by omega),if_pos (by omega)];exact⟨rfl,rfl⟩
     have hc:¬cmpN (val s) (val t)<0:=by unfold cmpN;rw[if_neg (by omega)];split<;>omega
     have HO:=Lib.hid (op_good (k:=val s-val t) hg.1 hg.2);have ha:Hid (∀w1,Env w1→Calls Tryz.prog 159 #[.string s,.string t,.func (.func 163) #[] #[]] w1 (OpPost (val s-val t) s t w1)):=fun w1 h=>apply_sub s t w1 h hg.1 hg.2 hle;replace hE:=Lib.hid hE;generalize cmpN (val s) (val t)=c at cc hc;clear e1 e2 hg hle;go_enter Tryz.func131,Tryz.ntmps131
     go_wp2_with (first
      | (go_at_call 130;refine cc.mono ?_;rintro e w1 ⟨rfl,hb1⟩;replace hb1:=Lib.hid hb1)
      | (go_at_call 159;refine(ha.out _ (by exact hE.out.below hb1.out)).mono ?_;rintro e w2 ⟨rfl,hb2⟩;replace hb2:=Lib.hid hb2))
     go_ret2;exact⟨by rw[HG.out.1,HG.out.2];exact congrArg Ending.returned (by simp[HO.out.1,HO.out.2]),hb1.out.trans (hb2.out.mono hb1.out.size)⟩
   · have HG:Hid (subS s t=⟨#[]⟩∧subE s t=10):=by
      unfold Hid subS subE;rw[if_neg (fun h=>hle h.2.2),if_pos hg,if_neg hle];exact⟨rfl,rfl⟩
     rw[cmpN_lt (by omega)]at cc;replace hE:=Lib.hid hE;clear e1 e2 hg hle;go_enter Tryz.func131,Tryz.ntmps131
     go_wp2_with (go_at_call 130;refine cc.mono ?_;rintro e w1 ⟨rfl,hb1⟩;replace hb1:=Lib.hid hb1)
     go_ret2;exact⟨by rw[HG.out.1,HG.out.2];rfl,hb1.out⟩
 · have e1:cmpV s t=0:=by unfold cmpV;rw[if_neg hg]
   have e2:cmpE s t=1:=by unfold cmpE;rw[if_neg hg]
   rw[e1,e2]at cc
   have hbad:isN s=false∨isN t=false:=by
    cases h1:isN s with
    | false=>exact .inl rfl
    | true=>right;cases h2:isN t with
      | false=>rfl
      | true=>exact absurd ⟨h1,h2⟩ hg
   have HG:Hid (subS s t=⟨#[]⟩∧subE s t=1):=by
    unfold Hid subS subE;rw[if_neg (fun h=>hg ⟨h.1,h.2.1⟩),if_neg hg];exact⟨rfl,rfl⟩
   have HO:=Lib.hid (op_bad (k:=0) hbad);have ha:Hid (∀w1,Calls Tryz.prog 159 #[.string s,.string t,.func (.func 163) #[] #[]] w1 (OpPost 0 s t w1)):=fun w1=>apply_bad _ _ s t w1 hs ht hbad;replace hE:=Lib.hid hE;clear e1 e2 hg hbad;go_enter Tryz.func131,Tryz.ntmps131
   go_wp2_with (first
    | (go_at_call 130;refine cc.mono ?_;rintro e w1 ⟨rfl,hb1⟩;replace hb1:=Lib.hid hb1)
    | (go_at_call 159;refine(ha.out _).mono ?_;rintro e w2 ⟨rfl,hb2⟩;replace hb2:=Lib.hid hb2))
   go_ret2;exact⟨by rw[HG.out.1,HG.out.2];exact congrArg Ending.returned (by simp[HO.out.1,HO.out.2]),hb1.out.trans (hb2.out.mono hb1.out.size)⟩
end Nt
end
section
open Go.RowKit Go.Shelf
namespace Nt
def divQ (s t:ByteArray):ByteArray:=if isN s=true∧isN t=true∧val t≠0 then num (val s/val t) else ⟨#[]⟩
def divR (s t:ByteArray):ByteArray:=if isN s=true∧isN t=true∧val t≠0 then num (val s%val t) else ⟨#[]⟩
def divE (s t:ByteArray):Int:=if isN s=true∧isN t=true then (if val t=0 then 15 else 0) else 1
def DivPost (s t:ByteArray) (w:World) (e:Ending) (w':World):Prop:=e=.returned (.tuple #[.string (divQ s t),.string (divR s t),.int .i64 (divE s t)])∧Below w.heap.size w w'
theorem zero_iff {t:ByteArray} (h:isN t=true):t.toList=[48]↔val t=0:=by
 obtain⟨n,_,rfl⟩:=num_of_isN h;rw[val_num,Lib.toList_data];constructor
 · intro e;have h:=val_num n;unfold val at h;rw[e]at h;rw[←h];rfl
 · intro e;subst e
   show Lib.decDigits 0=[48]
   rw[Lib.decDigits_one (by omega)];rfl
theorem Div_any (s t:ByteArray) (w:World) (hE:Env w) (hs:s.size≤140737488355328) (ht:t.size≤140737488355328) :
 Calls Tryz.prog 134 #[.string s,.string t] w (DivPost s t w):=by
 have c1:=is_any s w (by omega);replace hE:=Lib.hid hE
 cases h1:isN s with
 | false =>
   have HG:Hid (divQ s t=⟨#[]⟩∧divR s t=⟨#[]⟩∧divE s t=1):=by unfold Hid divQ divR divE;simp[h1]
   rw[h1]at c1;clear h1;go_enter Tryz.func134,Tryz.ntmps134
   go_wp2_with (go_at_call 155;refine c1.mono ?_;rintro e w1 ⟨rfl,hb1⟩)
   go_ret3
   exact⟨by rw[HG.out.1,HG.out.2.1,HG.out.2.2];rfl,hb1⟩
 | true =>
   cases h2:isN t with
   | false =>
     have HG:Hid (divQ s t=⟨#[]⟩∧divR s t=⟨#[]⟩∧divE s t=1):=by unfold Hid divQ divR divE;simp[h2]
     rw[h1]at c1;have H2:=Lib.hid h2;clear h1 h2;go_enter Tryz.func134,Tryz.ntmps134
     go_wp2_with fail
     refine c1.mono ?_;rintro e w1 ⟨rfl,hb1⟩;replace hb1:=Lib.hid hb1
     go_wp2_with fail
     have c2:=is_any t w1 (by omega);rw[H2.out]at c2;refine c2.mono ?_;rintro e w2 ⟨rfl,hb2⟩;replace hb2:=Lib.hid hb2;go_wp2
     go_ret3
     exact⟨by rw[HG.out.1,HG.out.2.1,HG.out.2.2];rfl,hb1.out.trans (hb2.out.mono hb1.out.size)⟩
   | true =>
     rw[h1]at c1;have H1:=Lib.hid h1;have H2:=Lib.hid h2
     by_cases hz:val t=0
     · have HG:Hid (divQ s t=⟨#[]⟩∧divR s t=⟨#[]⟩∧divE s t=15):=by unfold Hid divQ divR divE;simp[h1,h2,hz]
       have hb:(t.toList==[48])=true:=by rw[beq_iff_eq];exact(zero_iff h2).2 hz
       clear h1 h2 hz;go_enter Tryz.func134,Tryz.ntmps134
       go_wp2_with fail
       refine c1.mono ?_;rintro e w1 ⟨rfl,hb1⟩;replace hb1:=Lib.hid hb1
       go_wp2_with fail
       have c2:=is_any t w1 (by omega);rw[H2.out]at c2;refine c2.mono ?_;rintro e w2 ⟨rfl,hb2⟩;replace hb2:=Lib.hid hb2;go_wp2
       go_ret3
       exact⟨by rw[HG.out.1,HG.out.2.1,HG.out.2.2];rfl,hb1.out.trans (hb2.out.mono hb1.out.size)⟩
     · have hq:val s/val t<Lim:=Nat.lt_of_le_of_lt (Nat.div_le_self _ _) (val_lt h1);have hr:val s%val t<Lim:=Nat.lt_of_le_of_lt (Nat.mod_le _ _) (val_lt h1);have HG:Hid (divQ s t=num (val s/val t)∧divR s t=num (val s%val t)∧divE s t=0):=by unfold Hid divQ divR divE;simp[h1,h2,hz]
       have HL:Hid (limited (Lib.decDigits (val s/val t))=.tuple #[.string (num (val s/val t)),.int .i64 0]∧limited (Lib.decDigits (val s%val t))=.tuple #[.string (num (val s%val t)),.int .i64 0]):=by
        unfold Hid;rw[limited_eq,limited_eq];unfold strL errL;rw[if_pos hq,if_pos hr,if_pos hq,if_pos hr];exact⟨rfl,rfl⟩
       have hb:(t.toList==[48])=false:=by rw[beq_eq_false_iff_ne];exact fun h=>hz ((zero_iff h2).1 h)
       replace hz:=Lib.hid hz;replace hq:=Lib.hid hq;replace hr:=Lib.hid hr;clear h1 h2;go_enter Tryz.func134,Tryz.ntmps134
       go_wp2_with fail
       refine c1.mono ?_;rintro e w1 ⟨rfl,hb1⟩;have hbA1:=Lib.hid hb1;clear hb1
       go_wp2_with fail
       have c2:=is_any t w1 (by omega);rw[H2.out]at c2;refine c2.mono ?_;rintro e w2 ⟨rfl,hb2⟩;have hbA2:=Lib.hid (hbA1.out.trans (hb2.mono hbA1.out.size));clear hb2 c1 c2 hbA1
       go_wp2_with fail
       refine(parse_num s w2 H1.out).mono ?_;rintro e w3 ⟨v1,rfl,hn1,_,hb3⟩;have hbA3:=Lib.hid (hbA2.out.trans (hb3.mono hbA2.out.size));replace hn1:=Lib.hid hn1;clear hb3 hbA2
       go_wp2_with fail
       refine(parse_num t w3 H2.out).mono ?_;rintro e w4 ⟨v2,rfl,hn2,_,hb2⟩;have hbA2:=Lib.hid (hbA3.out.trans (hb2.mono hbA3.out.size));replace hb2:=Lib.hid hb2;replace hn2:=Lib.hid hn2;clear hbA3
       go_wp2_with fail
       refine(div_any w4 v1 v2 (val s) (val t) (hn1.out.below hb2.out) hn2.out (small_lim (val_lt H1.out)) (small_lim9 (val_lt H2.out)) (Nat.pos_of_ne_zero hz.out) (by have:=hbA2.out.size;have:=hE.out.pos;omega)).mono ?_;rintro e w5 ⟨⟨q,r,rfl,hnq,hnr⟩,hb5⟩;have hbA5:=Lib.hid (hbA2.out.trans (hb5.mono hbA2.out.size));replace hnq:=Lib.hid hnq;replace hnr:=Lib.hid hnr;clear hb5 hbA2 hb2 hn1 hn2
       go_wp2_with fail
       refine(text_any w5 q _ hnq.out (small_lim hq.out) (hE.out.below hbA5.out)).mono ?_;rintro e w6 ⟨rfl,hb6⟩;rw[HL.out.1];have hbA6:=Lib.hid (hbA5.out.trans (hb6.mono hbA5.out.size));replace hb6:=Lib.hid hb6;clear hbA5
       go_wp2_with fail
       refine(text_any w6 r _ (hnr.out.below hb6.out) (small_lim hr.out) (hE.out.below hbA6.out)).mono ?_;rintro e w7 ⟨rfl,hb7⟩;rw[HL.out.2];have hbA7:=Lib.hid (hbA6.out.trans (hb7.mono hbA6.out.size));clear hb7 hb6 hbA6;go_wp2
       go_ret3
       exact⟨by rw[HG.out.1,HG.out.2.1,HG.out.2.2];rfl,hbA7.out⟩
theorem parse10:∀(l:List UInt8) (a:Nat),(∀c∈l,isDig c)→a<18446744073709551616→Lib.parseUint10 a l=if a*10^l.length+dval l<18446744073709551616 then .ok (a*10^l.length+dval l) else .range:=by
 intro l
 induction l with
 | nil =>
   intro a _ ha;simp only[Lib.parseUint10,List.length_nil,Nat.pow_zero,Nat.mul_one,dval_nil,Nat.add_zero];rw[if_pos ha]
 | cons c l ih =>
   intro a h ha;have h1:=h c (by simp);have hp:1≤10^l.length:=Nat.pow_pos (by omega)
   have e:a*10^(c::l).length+dval (c::l)=(a*10+(c.toNat-48))*10^l.length+dval l:=by
    rw[dval_cons,List.length_cons,Nat.pow_succ,Nat.add_mul,Nat.mul_assoc a 10,Nat.mul_comm 10];omega
   rw[e];have hge:a*10+(c.toNat-48)≤(a*10+(c.toNat-48))*10^l.length:=Nat.le_mul_of_pos_right _ hp;rw[Lib.parseUint10,if_pos (show 48≤c.toNat∧c.toNat≤57 from h1)]
   by_cases c1:1844674407370955162≤a
   · rw[if_pos c1,if_neg (by omega)]
   · rw [if_neg c1]
     by_cases c2:18446744073709551616≤a*10+(c.toNat-48)
     · rw[if_pos c2,if_neg (by omega)]
     · rw[if_neg c2];exact ih _ (fun d hd=>h d (by simp[hd])) (by omega)
theorem atoi_num (n:Nat):Lib.atoiAll (num n).data.toList=if n≤9223372036854775807 then .ok (n:Int) else .range:=by
 have hd:=decDigits_dig n;have hv:=dval_decDigits n
 show Lib.atoiAll (Lib.decDigits n)=_
 cases hl:Lib.decDigits n with
 | nil=>exact absurd hl (decDigits_ne n)
 | cons c r =>
   rw[hl]at hd hv;have h1:=hd c (by simp);have h2:=h1.1;have hp:=parse10 (c::r) 0 hd (by omega);rw[Nat.zero_mul,Nat.zero_add,hv]at hp;unfold Lib.atoiAll;simp only[Lib.parseMag];have hneg:¬c.toNat=45:=by omega
   have hneg2:¬(c.toNat=43∨c.toNat=45):=by omega
   rw[if_neg hneg2,if_neg (by simp),hp]
   by_cases hle:n≤9223372036854775807
   · rw[if_pos (by omega),if_pos hle];simp only[hneg];rw[if_neg (by omega),if_neg (by simp),if_neg (by simp)]
   · rw [if_neg hle]
     by_cases h64:n<18446744073709551616
     · rw[if_pos h64];simp only[hneg];rw[if_pos ⟨by simp,by omega⟩]
     · rw[if_neg h64]
theorem num_lit (l:List UInt8) (n:Nat) (h:isNL l=true) (hv:dval l=n):num n=⟨l.toArray⟩:=by
 have:=num_val (s:=⟨l.toArray⟩) h;rw[←this];exact congrArg num hv.symm
end Nt
end
section
open Go.RowKit Go.Shelf
namespace Nt
def T:Option Nat→ByteArray | some n=>num n | none=>⟨#[]⟩
def Ok (x:Option Nat):Prop:=∀n,x=some n→n<Lim
def limO (k:Nat):Option Nat:=if k<Lim then some k else none
def apO (f:Nat→Nat→Nat):Option Nat→Option Nat→Option Nat | some a,some b=>limO (f a b) | _,_=>none
def apE (f:Nat→Nat→Nat):Option Nat→Option Nat→Int | some a,some b=>if f a b<Lim then 0 else 2 | _,_=>1
def sumO (x y:Option Nat):Option Nat:=apO (·+·) x y
def sumE (x y:Option Nat):Int:=apE (·+·) x y
def mulO (x y:Option Nat):Option Nat:=apO (·*·) x y
def mulE (x y:Option Nat):Int:=apE (·*·) x y
def gcdO (x y:Option Nat):Option Nat:=apO Nat.gcd x y
def gcdE (x y:Option Nat):Int:=apE Nat.gcd x y
def subO:Option Nat→Option Nat→Option Nat | some a,some b=>if b≤a then some (a-b) else none | _,_=>none
def subX:Option Nat→Option Nat→Int | some a,some b=>if b≤a then 0 else 10 | _,_=>1
def quoO:Option Nat→Option Nat→Option Nat | some a,some b=>if b=0 then none else some (a/b) | _,_=>none
def remO:Option Nat→Option Nat→Option Nat | some a,some b=>if b=0 then none else some (a%b) | _,_=>none
def quoX:Option Nat→Option Nat→Int | some _,some b=>if b=0 then 15 else 0 | _,_=>1
def cmpO:Option Nat→Option Nat→Int | some a,some b=>cmpN a b | _,_=>0
def cmpX:Option Nat→Option Nat→Int | some _,some _=>0 | _,_=>1
theorem ok_some {n:Nat} (h:n<Lim):Ok (some n):=fun _ e=>by cases e;exact h
theorem isN_T {x:Option Nat} (h:Ok x):isN (T x)=x.isSome:=by
 cases x with
 | none=>rfl
 | some n=>exact isN_num (h n rfl)
theorem size_T {x:Option Nat} (h:Ok x):(T x).size≤140737488355328:=by
 cases x with
 | none=>exact Nat.zero_le _
 | some n =>
   have h1:isN (T (some n))=true:=isN_T h;have h2:=((isNL_iff _).1 h1).2.1;have h3:(T (some n)).size=(T (some n)).data.toList.length:=Lib.size_eq _;omega
theorem isOk (x:Option Nat) (h:Ok x) (w:World):Calls Tryz.prog 155 #[.string (T x)] w fun e w'=>e=.returned (.bool x.isSome)∧Below w.heap.size w w':=by
 have:=is_any (T x) w (by have:=size_T h;omega)
 rwa [isN_T h]at this
theorem opS_T (f:Nat→Nat→Nat) {x y:Option Nat} (hx:Ok x) (hy:Ok y):opS (f (val (T x)) (val (T y))) (T x) (T y)=T (apO f x y)∧opE (f (val (T x)) (val (T y))) (T x) (T y)=apE f x y:=by
 cases x with
 | none=>exact op_bad (.inl rfl)
 | some a =>
   cases y with
   | none=>exact op_bad (.inr rfl)
   | some b =>
     have h:=op_good (k:=f (val (T (some a))) (val (T (some b)))) (isN_T hx) (isN_T hy);have ha:val (T (some a))=a:=val_num a;have hb:val (T (some b))=b:=val_num b;rw[ha,hb]at h ⊢;rw[h.1,h.2]
     show strL (f a b)=T (limO (f a b))∧errL (f a b)=if f a b<Lim then 0 else 2
     unfold limO strL errL
     by_cases hl:f a b<Lim
     · rw[if_pos hl,if_pos hl,if_pos hl];exact⟨rfl,rfl⟩
     · rw[if_neg hl,if_neg hl,if_neg hl];exact⟨rfl,rfl⟩
theorem addT (x y:Option Nat) (w:World) (hE:Env w) (hx:Ok x) (hy:Ok y):Calls Tryz.prog 129 #[.string (T x),.string (T y)] w fun e w'=>e=.returned (.tuple #[.string (T (sumO x y)),.int .i64 (sumE x y)])∧Below w.heap.size w w':=by
 refine(Add_any (T x) (T y) w hE (size_T hx) (size_T hy)).mono ?_;rintro e w' ⟨rfl,hb⟩;have:=opS_T (·+·) hx hy;exact⟨by rw[this.1,this.2];rfl,hb⟩
theorem mulT (x y:Option Nat) (w:World) (hE:Env w) (hx:Ok x) (hy:Ok y):Calls Tryz.prog 135 #[.string (T x),.string (T y)] w fun e w'=>e=.returned (.tuple #[.string (T (mulO x y)),.int .i64 (mulE x y)])∧Below w.heap.size w w':=by
 refine(Mul_any (T x) (T y) w hE (size_T hx) (size_T hy)).mono ?_;rintro e w' ⟨rfl,hb⟩;have:=opS_T (·*·) hx hy;exact⟨by rw[this.1,this.2];rfl,hb⟩
theorem gcdT (x y:Option Nat) (w:World) (hE:Env w) (hx:Ok x) (hy:Ok y):Calls Tryz.prog 133 #[.string (T x),.string (T y)] w fun e w'=>e=.returned (.tuple #[.string (T (gcdO x y)),.int .i64 (gcdE x y)])∧Below w.heap.size w w':=by
 refine(Gcd_any (T x) (T y) w hE (size_T hx) (size_T hy)).mono ?_;rintro e w' ⟨rfl,hb⟩;have:=opS_T Nat.gcd hx hy;exact⟨by rw[this.1,this.2];rfl,hb⟩
theorem subT (x y:Option Nat) (w:World) (hE:Env w) (hx:Ok x) (hy:Ok y):Calls Tryz.prog 131 #[.string (T x),.string (T y)] w fun e w'=>e=.returned (.tuple #[.string (T (subO x y)),.int .i64 (subX x y)])∧Below w.heap.size w w':=by
 refine(Sub_any (T x) (T y) w hE (size_T hx) (size_T hy)).mono ?_;rintro e w' ⟨rfl,hb⟩;refine⟨?_,hb⟩;have h1:=isN_T hx;have h2:=isN_T hy
 cases x with
 | none=>unfold subS subE;rw[h1];rfl
 | some a =>
   cases y with
   | none=>unfold subS subE;rw[h2];simp;exact⟨rfl,rfl⟩
   | some b =>
     have ha:val (T (some a))=a:=val_num a;have hb:val (T (some b))=b:=val_num b;unfold subS subE subO subX;rw[h1,h2,ha,hb]
     by_cases h:b≤a
     · simp[h,T]
     · simp[h,T]
theorem divT (x y:Option Nat) (w:World) (hE:Env w) (hx:Ok x) (hy:Ok y):Calls Tryz.prog 134 #[.string (T x),.string (T y)] w fun e w'=>e=.returned (.tuple #[.string (T (quoO x y)),.string (T (remO x y)),.int .i64 (quoX x y)])∧Below w.heap.size w w':=by
 refine(Div_any (T x) (T y) w hE (size_T hx) (size_T hy)).mono ?_;rintro e w' ⟨rfl,hb⟩;refine⟨?_,hb⟩;have h1:=isN_T hx;have h2:=isN_T hy
 cases x with
 | none=>unfold divQ divR divE;rw[h1];rfl
 | some a =>
   cases y with
   | none=>unfold divQ divR divE;rw[h2];simp;exact⟨rfl,rfl,rfl⟩
   | some b =>
     have ha:val (T (some a))=a:=val_num a;have hb:val (T (some b))=b:=val_num b;unfold divQ divR divE quoO remO quoX;rw[h1,h2,ha,hb]
     by_cases h:b=0
     · simp[h,T]
     · simp[h,T]
theorem cmpT (x y:Option Nat) (w:World) (hE:Env w) (hx:Ok x) (hy:Ok y):Calls Tryz.prog 130 #[.string (T x),.string (T y)] w fun e w'=>e=.returned (.tuple #[.int .i64 (cmpO x y),.int .i64 (cmpX x y)])∧Below w.heap.size w w':=by
 refine(Compare_any (T x) (T y) w hE (size_T hx) (size_T hy)).mono ?_;rintro e w' ⟨rfl,hb⟩;refine⟨?_,hb⟩;have h1:=isN_T hx;have h2:=isN_T hy
 cases x with
 | none=>unfold cmpV cmpE;rw[h1];rfl
 | some a =>
   cases y with
   | none=>unfold cmpV cmpE;rw[h2];simp;exact⟨rfl,rfl⟩
   | some b =>
     have ha:val (T (some a))=a:=val_num a;have hb:val (T (some b))=b:=val_num b;unfold cmpV cmpE cmpO cmpX;rw[h1,h2,ha,hb];simp
theorem T_zero:T (some 0)=⟨#[48]⟩:=num_lit [48] 0 (by decide) (by decide)
theorem toL_zero:(T (some 0)).toList=[48]:=by rw[T_zero,Lib.toList_data]
theorem one_lt_Lim:1<Lim:=by
 have e:num 1=⟨#[49]⟩:=num_lit [49] 1 (by decide) (by decide);exact(isN_num_iff 1).1 (by rw[e];decide)
theorem gcd_ltL {a b:Nat} (ha:a<Lim) (hb:b<Lim):Nat.gcd a b<Lim:=by
 rcases Nat.eq_zero_or_pos a with rfl | h
 · rwa [Nat.gcd_zero_left]
 · exact Nat.lt_of_le_of_lt (Nat.gcd_le_left b h) ha
theorem T_one:T (some 1)=⟨#[49]⟩:=num_lit [49] 1 (by decide) (by decide)
end Nt
end
section
open Go.RowKit Go.Shelf
namespace Nt
def sg (g:Bool) (a:Nat):Int:=if g then -(a:Int) else a
theorem sg_natAbs (g:Bool) (a:Nat):(sg g a).natAbs=a:=by cases g<;>simp[sg]
theorem sg_neg (g:Bool) (a:Nat):decide (sg g a<0)=(g&&!decide (a=0)):=by
 rw[Bool.eq_iff_iff]
 cases g
 · simp[sg]
 · simp[sg];omega
theorem sg_self (z:Int):sg (decide (z<0)) z.natAbs=z:=by
 unfold sg
 by_cases h:z<0
 · simp[h];omega
 · simp[h];omega
theorem sg_mul (g h:Bool) (a b:Nat):sg g a*sg h b=sg (g != h) (a*b):=by
 cases g<;>cases h<;>simp[sg,Int.neg_mul,Int.mul_neg]
theorem mk_num (g:Bool) (a b:Nat) (hb:b≠0):(mkRat (sg g a) b).num=sg g (a/Nat.gcd a b):=by
 rw[Rat.num_mkRat,if_neg hb,sg_natAbs,Nat.gcd_comm]
 cases g
 · simp[sg]
 · simp only[sg,if_true];rw[Int.neg_ediv_of_dvd (Int.ofNat_dvd.2 (Nat.gcd_dvd_left a b)),Int.natCast_ediv]
theorem mk_den (g:Bool) (a b:Nat) (hb:b≠0):(mkRat (sg g a) b).den=b/Nat.gcd a b:=by
 rw[Rat.den_mkRat,if_neg hb,sg_natAbs,Nat.gcd_comm]
def qv (q:Rat):Value:=.agg #[.bool (decide (q.num<0)),.string (T (some q.num.natAbs)),.string (T (some q.den))]
def zv:Value:=.agg #[.bool false,.string ⟨#[]⟩,.string ⟨#[]⟩]
def OkQ (q:Rat):Prop:=q.num.natAbs<Lim∧q.den<Lim
theorem qv_mk (g:Bool) (a b:Nat) (hb:b≠0):qv (mkRat (sg g a) b)=.agg #[.bool (g&&!decide (a/Nat.gcd a b=0)),.string (T (some (a/Nat.gcd a b))),.string (T (some (b/Nat.gcd a b)))]:=by
 unfold qv;rw[mk_num g a b hb,mk_den g a b hb,sg_neg,sg_natAbs]
def validB (g:Bool) (n d:ByteArray):Bool :=
 isN n&&(isN d&&(!decide (val d=0)&&(if val n=0 then !g&&decide (val d=1) else decide (Nat.gcd (val n) (val d)=1))))
theorem valid_num (g:Bool) (a b:Nat) (ha:a<Lim) (hb:b<Lim):validB g (num a) (num b)=(!decide (b=0)&&(if a=0 then !g&&decide (b=1) else decide (Nat.gcd a b=1))):=by
 unfold validB;rw[isN_num ha,isN_num hb,val_num,val_num,Bool.true_and,Bool.true_and]
theorem valid_qv {q:Rat} (h:OkQ q):validB (decide (q.num<0)) (T (some q.num.natAbs)) (T (some q.den))=true:=by
 show validB _ (num _) (num _)=true
 rw[valid_num _ _ _ h.1 h.2];have hd:=q.den_nz;have hr:Nat.gcd q.num.natAbs q.den=1:=q.reduced
 by_cases h0:q.num.natAbs=0
 · rw[h0,Nat.gcd_zero_left]at hr;have:¬q.num<0:=by omega
   simp[h0,hr,this]
 · simp[h0,hd,hr]
theorem of_valid {g:Bool} {n d:ByteArray} (h:validB g n d=true):∃q:Rat,OkQ q∧g=decide (q.num<0)∧n=T (some q.num.natAbs)∧d=T (some q.den):=by
 have h1:isN n=true:=by unfold validB at h;simp only[Bool.and_eq_true]at h;exact h.1
 have h2:isN d=true:=by unfold validB at h;simp only[Bool.and_eq_true]at h;exact h.2.1
 obtain⟨a,ha,rfl⟩:=num_of_isN h1;obtain⟨b,hb,rfl⟩:=num_of_isN h2;rw[valid_num g a b ha hb]at h;simp only[Bool.and_eq_true,Bool.not_eq_true',decide_eq_false_iff_not]at h;obtain⟨hb0,h3⟩:=h
 have hcop:Nat.gcd a b=1:=by
  by_cases h0:a=0
  · rw[if_pos h0]at h3;simp at h3;rw[h0,h3.2];rfl
  · rw[if_neg h0]at h3
    simpa using h3
 have hg:g=decide (sg g a<0):=by
  rw[sg_neg]
  by_cases h0:a=0
  · rw[if_pos h0]at h3;simp at h3;rw[h3.1];rfl
  · simp[h0]
 refine⟨⟨sg g a,b,hb0,by rw[sg_natAbs];exact hcop⟩,⟨by show (sg g a).natAbs<Lim;rw[sg_natAbs];exact ha,hb⟩,hg,?_,rfl⟩
 show num a=num (sg g a).natAbs
 rw[sg_natAbs]
@[irreducible] def mx1:Nat:=140
theorem mx1_eq:mx1=140:=by unfold mx1;rfl
def L1:Nat:=10^mx1
theorem size_L1 (n:Nat):(num n).size≤140↔n<L1:=by
 have:=decDigits_len_iff n mx1 (by rw[mx1_eq];omega);have e:(num n).size=(Lib.decDigits n).length:=by simp[num,ByteArray.size]
 rw[e,←mx1_eq];exact this
theorem L1_pos:1≤L1:=Nat.pow_pos (by omega)
theorem L1_sq:2*(L1*L1)<Lim:=by
 have e:L1*L1=10^(mx1+mx1):=by unfold L1;rw[Nat.pow_add]
 have h:10^(mx1+mx1+1)≤Lim:=by
  unfold Lim;exact Nat.pow_le_pow_right (by omega) (by rw[mx1_eq,mxd_eq];omega)
 rw[Nat.pow_succ]at h;rw[e];have h2:0<10^(mx1+mx1):=Nat.pow_pos (by omega);omega
theorem L1_mul {a b:Nat} (ha:a<L1) (hb:b<L1):a*b<L1*L1:=Nat.mul_lt_mul'' ha hb
theorem L1_lim {a:Nat} (h:a<L1):a<Lim:=by
 have h1:=L1_sq;have h2:=L1_pos;have h3:L1*1≤L1*L1:=Nat.mul_le_mul_left _ h2;omega
def ShortQ (q:Rat):Prop:=q.num.natAbs<L1∧q.den<L1
instance (q:Rat):Decidable (ShortQ q):=inferInstanceAs (Decidable (_∧_))
theorem ShortQ.ok {q:Rat} (h:ShortQ q):OkQ q:=⟨L1_lim h.1,L1_lim h.2⟩
theorem add_mk (p q:Rat):mkRat (p.num*q.den+q.num*p.den) (p.den*q.den)=p+q:=(Rat.add_def' p q).symm
theorem sum_same {g:Bool} {x y:Nat} {p q:Rat} (hp:g=decide (p.num<0)) (hq:g=decide (q.num<0)) (hx:x=p.num.natAbs*q.den) (hy:y=q.num.natAbs*p.den) :
 sg g (x+y)=p.num*q.den+q.num*p.den:=by
 rw[←sg_self p.num,←sg_self q.num,←hp,←hq,hx,hy]
 cases g
 · simp[sg]
 · simp only[sg,if_true,Int.natCast_add,Int.natCast_mul,Int.neg_mul];omega
theorem sum_less {g h:Bool} {x y:Nat} {p q:Rat} (hp:g=decide (p.num<0)) (hq:h=decide (q.num<0)) (hx:x=p.num.natAbs*q.den) (hy:y=q.num.natAbs*p.den) (hne:g≠h) (hl:x<y) :
 sg h (y-x)=p.num*q.den+q.num*p.den:=by
 rw[←sg_self p.num,←sg_self q.num,←hp,←hq];have e1:(x:Int)=(p.num.natAbs:Int)*(q.den:Int):=by rw[hx,Int.natCast_mul]
 have e2:(y:Int)=(q.num.natAbs:Int)*(p.den:Int):=by rw[hy,Int.natCast_mul]
 cases g<;>cases h<;>simp only[sg,if_true,Bool.false_eq_true,if_false,Int.neg_mul,ne_eq,not_true_eq_false]at hne ⊢
 all_goals omega
theorem sum_more {g h:Bool} {x y:Nat} {p q:Rat} (hp:g=decide (p.num<0)) (hq:h=decide (q.num<0)) (hx:x=p.num.natAbs*q.den) (hy:y=q.num.natAbs*p.den) (hne:g≠h) (hl:y≤x) :
 sg g (x-y)=p.num*q.den+q.num*p.den:=by
 rw[←sg_self p.num,←sg_self q.num,←hp,←hq];have e1:(x:Int)=(p.num.natAbs:Int)*(q.den:Int):=by rw[hx,Int.natCast_mul]
 have e2:(y:Int)=(q.num.natAbs:Int)*(p.den:Int):=by rw[hy,Int.natCast_mul]
 cases g<;>cases h<;>simp only[sg,if_true,Bool.false_eq_true,if_false,Int.neg_mul,ne_eq,not_true_eq_false]at hne ⊢
 all_goals omega
theorem mul_mk (p q:Rat):mkRat (sg (decide (p.num<0) != decide (q.num<0)) (p.num.natAbs*q.num.natAbs)) (p.den*q.den)=p*q:=by
 rw[←sg_mul,sg_self,sg_self,Rat.mul_def']
theorem div_mk (p q:Rat):mkRat (sg (decide (p.num<0) != decide (q.num<0)) (p.num.natAbs*q.den)) (p.den*q.num.natAbs)=p/q:=by
 have hi:q⁻¹=mkRat (sg (decide (q.num<0)) q.den) q.num.natAbs:=by
  rw[Rat.inv_def];unfold sg
  by_cases hn:q.num<0
  · have e:q.num=-((q.num.natAbs:Nat):Int):=by omega
    rw[decide_eq_true hn,if_pos rfl]
    conv=>lhs;rw[e]
    rw[Rat.divInt_neg',Rat.divInt_ofNat]
  · have e:q.num=((q.num.natAbs:Nat):Int):=by omega
    rw[decide_eq_false hn]
    conv=>lhs;rw[e]
    rw[Rat.divInt_ofNat];rfl
 have hp:p=mkRat (sg (decide (p.num<0)) p.num.natAbs) p.den:=by rw[sg_self,Rat.mkRat_self]
 show _=p*q⁻¹
 rw[hi]
 conv=>rhs;rw[hp]
 rw[Rat.mkRat_mul_mkRat,sg_mul]
end Nt
end
section
open Go.RowKit Go.Shelf
namespace Ci
open Nt
abbrev Lk:=Int×Int×Bool×ByteArray×ByteArray
def lkL (x:Lk):List Value:=[.int .i64 x.1,.int .i64 x.2.1,.bool x.2.2.1,.string x.2.2.2.1,.string x.2.2.2.2]
def InLk (W:World) (A:Option Addr) (l:List Lk):Prop :=
 0<l.length→∃b off,A=some ⟨b,off,none⟩∧b<W.heap.size∧∀j (h:j<l.length),W.cell? ⟨b,off+j*5,none⟩=some (.int .i64 l[j].1)∧W.cell? ⟨b,off+j*5+1,none⟩=some (.int .i64 l[j].2.1) ∧
  W.cell? ⟨b,off+j*5+2,none⟩=some (.bool l[j].2.2.1)∧W.cell? ⟨b,off+j*5+3,none⟩=some (.string l[j].2.2.2.1)∧W.cell? ⟨b,off+j*5+4,none⟩=some (.string l[j].2.2.2.2)
def InStr (W:World) (A:Option Addr) (l:List ByteArray):Prop :=
 0<l.length→∃b off,A=some ⟨b,off,none⟩∧b<W.heap.size∧∀j (h:j<l.length),W.cell? ⟨b,off+j,none⟩=some (.string l[j])
def InInt (W:World) (A:Option Addr) (l:List Int):Prop :=
 0<l.length→∃b off,A=some ⟨b,off,none⟩∧b<W.heap.size∧∀j (h:j<l.length),W.cell? ⟨b,off+j,none⟩=some (.int .i64 l[j])
theorem InLk.below {W W':World} {A:Option Addr} {l:List Lk} (h:InLk W A l) (hb:Below W.heap.size W W'):InLk W' A l:=fun h0=>by
 obtain⟨b,off,e,hl,hc⟩:=h h0;refine⟨b,off,e,Nat.lt_of_lt_of_le hl hb.size,fun j hj=>?_⟩;obtain⟨c1,c2,c3,c4,c5⟩:=hc j hj;exact⟨(hb.cell (p:=⟨b,_,none⟩) hl).trans c1,(hb.cell (p:=⟨b,_,none⟩) hl).trans c2,(hb.cell (p:=⟨b,_,none⟩) hl).trans c3,(hb.cell (p:=⟨b,_,none⟩) hl).trans c4,(hb.cell (p:=⟨b,_,none⟩) hl).trans c5⟩
theorem InStr.below {W W':World} {A:Option Addr} {l:List ByteArray} (h:InStr W A l) (hb:Below W.heap.size W W'):InStr W' A l:=fun h0=>by
 obtain⟨b,off,e,hl,hc⟩:=h h0;exact⟨b,off,e,Nat.lt_of_lt_of_le hl hb.size,fun j hj=>(hb.cell (p:=⟨b,_,none⟩) hl).trans (hc j hj)⟩
theorem InInt.below {W W':World} {A:Option Addr} {l:List Int} (h:InInt W A l) (hb:Below W.heap.size W W'):InInt W' A l:=fun h0=>by
 obtain⟨b,off,e,hl,hc⟩:=h h0;exact⟨b,off,e,Nat.lt_of_lt_of_le hl hb.size,fun j hj=>(hb.cell (p:=⟨b,_,none⟩) hl).trans (hc j hj)⟩
def OkAt (i c:Nat):Prop:=(97≤c∧c≤122)∨(65≤c∧c≤90)∨(i≠0∧(c=95∨(48≤c∧c≤57)))
instance (i c:Nat):Decidable (OkAt i c):=inferInstanceAs (Decidable (_∨_))
def identB (s:ByteArray):Bool:=decide (∀i (h:i<s.size),OkAt i s[i].toNat)&&(decide (0<s.size)&&decide (s.size≤24))
theorem ident_bad {s:ByteArray} {i:Nat} (h:i<s.size) (hb:¬OkAt i s[i].toNat):identB s=false:=by
 unfold identB;rw[decide_eq_false fun hc=>hb (hc i h)];rfl
theorem ident_all {s:ByteArray} (h:∀i (h:i<s.size),OkAt i s[i].toNat):identB s=(decide (0<s.size)&&decide (s.size≤24)):=by
 unfold identB;rw[decide_eq_true h];rfl
abbrev Rw:=Bool×ByteArray×ByteArray
def unitsN (x:Rw):Nat :=
 if validB x.1 x.2.1 x.2.2=false∨x.1=true∨4<x.2.1.size∨4<x.2.2.size then 0
 else if val x.2.2<val x.2.1∨6000%val x.2.2≠0 then 0 else val x.2.1*(6000/val x.2.2)
theorem units_le (x:Rw):unitsN x≤6000:=by
 unfold unitsN
 split
 · omega
 · split
   · omega
   · rename_i h;have h1:val x.2.1≤val x.2.2:=by omega
     exact Nat.le_trans (Nat.mul_le_mul_right _ h1) (Nat.mul_div_le _ _)
def lkP (x:Lk):Rw:=(x.2.2.1,x.2.2.2.1,x.2.2.2.2)
def sumU (l:List Lk) (c:Int):Nat:=((l.filter fun x=>decide (x.1=c)).map fun x=>unitsN (lkP x)).sum
def Rise (a b:Lk):Prop:=a.1<b.1∨(a.1=b.1∧a.2.1<b.2.1)
instance (a b:Lk):Decidable (Rise a b):=inferInstanceAs (Decidable (_∨_))
def Own (n:Nat) (x:Lk):Prop:=(0≤x.1∧x.1<n)∧(0≤x.2.1∧x.2.1<n)∧x.1≠x.2.1∧unitsN (lkP x)≠0
instance (n:Nat) (x:Lk):Decidable (Own n x):=inferInstanceAs (Decidable (_∧_))
def LinkAt (n:Nat) (l:List Lk) (i:Nat) (h:i<l.length):Prop:=Own n l[i]∧(0<i→Rise (l[i-1]'(by omega)) l[i])∧sumU (l.take (i+1)) l[i].1≤6000
instance (n:Nat) (l:List Lk) (i:Nat) (h:i<l.length):Decidable (LinkAt n l i h):=inferInstanceAs (Decidable (_∧_))
def goodB (n:Nat) (l:List Lk):Bool:=decide (∀i (h:i<l.length),LinkAt n l i h)
theorem good_bad {n:Nat} {l:List Lk} {i:Nat} (h:i<l.length) (hb:¬LinkAt n l i h):goodB n l=false:=decide_eq_false fun hc=>hb (hc i h)
theorem good_all {n:Nat} {l:List Lk} (h:∀i (h:i<l.length),LinkAt n l i h):goodB n l=true:=decide_eq_true h
theorem good_at {n:Nat} {l:List Lk} (h:goodB n l=true) {i:Nat} (hi:i<l.length):LinkAt n l i hi:=of_decide_eq_true h i hi
structure SR where
 ps:List ByteArray
 cap:List Lk
 vot:List Lk
def leqB (a b:ByteArray):Bool:=Op.bytesLess a.toList b.toList||a.toList==b.toList
def NameAt (l:List ByteArray) (i:Nat) (h:i<l.length):Prop:=identB l[i]=true∧(0<i→leqB l[i] (l[i-1]'(by omega))=false)
instance (l:List ByteArray) (i:Nat) (h:i<l.length):Decidable (NameAt l i h):=inferInstanceAs (Decidable (_∧_))
def namesB (l:List ByteArray):Bool:=decide (∀i (h:i<l.length),NameAt l i h)
theorem names_bad {l:List ByteArray} {i:Nat} (h:i<l.length) (hb:¬NameAt l i h):namesB l=false:=decide_eq_false fun hc=>hb (hc i h)
theorem names_all {l:List ByteArray} (h:∀i (h:i<l.length),NameAt l i h):namesB l=true:=decide_eq_true h
def soundB (s:SR):Bool:=namesB s.ps&&(decide (s.ps.length≤60)&&(goodB s.ps.length s.cap&&goodB s.ps.length s.vot))
def edges (s:SR):List (Nat×Nat):=s.cap.map fun x=>(x.2.1.toNat,x.1.toNat)
theorem edges_in {s:SR} (h:soundB s=true):InN s.ps.length (edges s):=fun x hx=>by
 unfold soundB at h;simp only[Bool.and_eq_true]at h;obtain⟨_,_,h2,_⟩:=h;obtain⟨y,hy,rfl⟩:=List.mem_map.1 hx;obtain⟨i,hi,rfl⟩:=List.getElem_of_mem hy;obtain⟨⟨a,b,_⟩,_⟩:=good_at h2 hi
 show _<_∧_<_
 simp only[];omega
end Ci
end
section
open Go.ChangeShapes Go.WideShapes Go.ChangeAt Go.RowKit Go.Shelf
namespace Nt
def laidL:List (String×DataW Unit):=Rows.shareSolvesRow.laid
theorem gt_tab:(Tryz.prog.globals[2]?).map (·.type)=some 215:=by kernel_rfl
theorem gt_syn:(Tryz.prog.globals[0]?).map (·.type)=some 136:=by kernel_rfl
theorem gt_rng:(Tryz.prog.globals[1]?).map (·.type)=some 136:=by kernel_rfl
theorem cells_u64:Tryz.prog.cellsOf 150=1:=by kernel_rfl
theorem cells_tab:Tryz.prog.cellsOf 215=20:=by kernel_rfl
theorem cells_str:Tryz.prog.cellsOf 9=1:=by kernel_rfl
theorem cells_es:Tryz.prog.cellsOf 225=1:=by kernel_rfl
theorem star:"*"++"errors.errorString"="*errors.errorString" := by decide
theorem row_es (u:TypeId) (h:Tryz.prog.typeName? 3 u=some "*errors.errorString"):u=223 :=
 typeName_ptr_named (nm := "errors.errorString") (by rw[star]; kernel_rfl) (by kernel_rfl) (by decide) u (by rw[star]; exact h)
theorem env_of {W:World} (h:laidMetH Tryz.prog laidL W):Env W:=by
 have h0:=(laidMetH_iff.1 h).1
 have hT:laidMet Tryz.prog [("internal/strconv.uint64pow10", Lib.tabData .u64 Lib.pow10Tab)] W := by
  have := h0.filter (fun x=>x.1=="internal/strconv.uint64pow10")
  rwa [show (laidL.filter fun x=>x.2.handleName?.isNone).filter (fun x=>x.1=="internal/strconv.uint64pow10")=[("internal/strconv.uint64pow10", Lib.tabData .u64 Lib.pow10Tab)] by kernel_rfl]at this
 have hS:laidMet Tryz.prog [("strconv.ErrSyntax", .iface "*errors.errorString" (.ptr (.agg [.lit (.string [105, 110, 118, 97, 108, 105, 100, 32, 115, 121, 110, 116, 97, 120])])))] W := by
  have := h0.filter (fun x=>x.1=="strconv.ErrSyntax")
  rwa [show (laidL.filter fun x=>x.2.handleName?.isNone).filter (fun x=>x.1=="strconv.ErrSyntax")=[("strconv.ErrSyntax", .iface "*errors.errorString" (.ptr (.agg [.lit (.string [105, 110, 118, 97, 108, 105, 100, 32, 115, 121, 110, 116, 97, 120])])))] by kernel_rfl]at this
 have hR:laidMet Tryz.prog [("strconv.ErrRange", .iface "*errors.errorString" (.ptr (.agg [.lit (.string [118, 97, 108, 117, 101, 32, 111, 117, 116, 32, 111, 102, 32, 114, 97, 110, 103, 101])])))] W := by
  have := h0.filter (fun x=>x.1=="strconv.ErrRange")
  rwa [show (laidL.filter fun x=>x.2.handleName?.isNone).filter (fun x=>x.1=="strconv.ErrRange")=[("strconv.ErrRange", .iface "*errors.errorString" (.ptr (.agg [.lit (.string [118, 97, 108, 117, 101, 32, 111, 117, 116, 32, 111, 102, 32, 114, 97, 110, 103, 101])])))] by kernel_rfl]at this
 refine⟨Lib.tabIs_of_head g_tab gt_tab Tryz.underlying215 Tryz.underlying150 cells_u64 cells_tab hT,?_,?_⟩
 · obtain⟨a0,s0,hv0,-,-,-⟩:=laid_sentinel hS g_syn gt_syn Tryz.underlying136 row_es Tryz.underlying223 Tryz.underlying225 rfl rfl Tryz.underlying9 cells_es cells_str;exact⟨_,_,hv0⟩
 · obtain⟨a0,s0,hv0,-,-,-⟩:=laid_sentinel hR g_rng gt_rng Tryz.underlying136 row_es Tryz.underlying223 Tryz.underlying225 rfl rfl Tryz.underlying9 cells_es cells_str;exact⟨_,_,hv0⟩
noncomputable def laidWorld (os:Os):World :=
 { World.doorLaid Tryz.prog 72 os with heap:=(World.doorLaid Tryz.prog 72 os).heap.modify 5 fun
  | .cells _ t frozen=>.cells (Go.Pinned.utf8FirstZ.map fun(z:Nat)=>Value.int .u8 z).toArray t frozen
  | o=>o }
theorem own:ownKnob Tryz.prog.godebug=none:=by kernel_rfl
theorem laid_met (os:Os) (args:Array Value):laidMetH Tryz.prog laidL ((laidWorld os).forCall (fun _ _=>0) ⟨#[],args,[]⟩).memory :=
 laidMet_of_run3 8 (by kernel_rfl) (by kernel_rfl) (by kernel_rfl)
theorem vars_ok (os:Os) (args:Array Value):((laidWorld os).forCall (fun _ _=>0) ⟨#[],args,[]⟩).variablesRefB Tryz.prog=true:=by kernel_rfl
theorem rest_ok (os:Os) (args:Array Value):(((laidWorld os).forCall (fun _ _=>0) ⟨#[],args,[]⟩).heap.toList.drop Tryz.prog.globals.size).take ((begin Tryz.prog (fun _ _=>0) default).world.heap.size-Tryz.prog.globals.size) =
 (begin Tryz.prog (fun _ _=>0) default).world.heap.toList.drop Tryz.prog.globals.size:=by kernel_rfl
end Nt
end
section
open Go.RowKit Go.Shelf
namespace Nt
def B3 (W:World) (b:Nat) (g:Bool) (n d:ByteArray):Prop:=W.heap[b]? = some (.cells #[.bool g,.string n,.string d] 37 (0,0))
theorem B3.lt {W:World} {b:Nat} {g:Bool} {n d:ByteArray} (h:B3 W b g n d):b<W.heap.size:=(Array.getElem?_eq_some_iff.1 h).1
theorem B3.facts {W:World} {b:Nat} {g:Bool} {n d:ByteArray} (h:B3 W b g n d) :
 W.cell? ⟨b,0,none⟩=some (.bool g)∧W.cell? ⟨b,1,none⟩=some (.string n)∧W.cell? ⟨b,2,none⟩=some (.string d) ∧
 W.frozen? ⟨b,0,none⟩=false∧W.frozen? ⟨b,1,none⟩=false∧W.frozen? ⟨b,2,none⟩=false:=by
 unfold B3 at h;simp[World.cell?,World.frozen?,h]
theorem B3.new (w:World) (g:Bool) (n d:ByteArray):B3 (w.alloc (.cells #[.bool g,.string n,.string d] 37)) w.heap.size g n d:=heap_alloc_new _ _
theorem B3.alloc {W:World} {b:Nat} {g:Bool} {n d:ByteArray} (h:B3 W b g n d) (o:Obj):B3 (W.alloc o) b g n d:=(Below.heap_alloc W o b h.lt).trans h
theorem B3.below {W W':World} {b:Nat} {g:Bool} {n d:ByteArray} (h:B3 W b g n d) (hb:Below W.heap.size W W'):B3 W' b g n d:=(hb.block b h.lt).trans h
theorem B3.other {W:World} {b:Nat} {g:Bool} {n d:ByteArray} (h:B3 W b g n d) {p:Addr} (hp:b≠p.block) (v:Value):B3 (W.setCell p v) b g n d:=(Below.heap_setCell _ _ _ _ hp).trans h
theorem B3.set0 {W:World} {b:Nat} {g:Bool} {n d:ByteArray} (h:B3 W b g n d) (g':Bool):B3 (W.setCell ⟨b,0,none⟩ (.bool g')) b g' n d:=by
 unfold B3 at h ⊢;simp[World.setCell,Array.getElem?_modify,h]
theorem B3.set1 {W:World} {b:Nat} {g:Bool} {n d:ByteArray} (h:B3 W b g n d) (n':ByteArray):B3 (W.setCell ⟨b,1,none⟩ (.string n')) b g n' d:=by
 unfold B3 at h ⊢;simp[World.setCell,Array.getElem?_modify,h]
theorem B3.set2 {W:World} {b:Nat} {g:Bool} {n d:ByteArray} (h:B3 W b g n d) (d':ByteArray):B3 (W.setCell ⟨b,2,none⟩ (.string d')) b g n d':=by
 unfold B3 at h ⊢;simp[World.setCell,Array.getElem?_modify,h]
theorem is_one (n:Nat):((num n).toList==[49])=decide (n=1):=by
 have e:(num 1).toList=[49]:=by rw[show num 1=⟨#[49]⟩ from T_one,Lib.toList_data]
 rw[←e,Bool.eq_iff_iff,beq_iff_eq,decide_eq_true_iff,Lib.toList_data,Lib.toList_data];constructor
 · intro h;have:=congrArg dval h;have e1:dval (num n).data.toList=n:=dval_decDigits n;have e2:dval (num 1).data.toList=1:=dval_decDigits 1
   rwa [e1,e2]at this
 · intro h;rw[h]
theorem is_zero (n:Nat):((num n).toList==[48])=decide (n=0):=by
 have e:(num 0).toList=[48]:=toL_zero;rw[←e,Bool.eq_iff_iff,beq_iff_eq,decide_eq_true_iff,Lib.toList_data,Lib.toList_data];constructor
 · intro h;have:=congrArg dval h;have e1:dval (num n).data.toList=n:=dval_decDigits n;have e2:dval (num 0).data.toList=0:=dval_decDigits 0
   rwa [e1,e2]at this
 · intro h;rw[h]
theorem Valid_bad1 (g:Bool) (n d:ByteArray) (w:World) (hn:n.size≤140737488355328) (h:isN n=false) :
 Calls Tryz.prog 126 #[.agg #[.bool g,.string n,.string d]] w fun e w'=>e=.returned (.bool false)∧Below w.heap.size w w':=by
 go_enter Tryz.func126,Tryz.ntmps126
 go_wp2_with fail
 refine(is_any n _ (by omega)).mono ?_;rintro e w1 ⟨rfl,hb1⟩;rw[h];go_wp2;go_ret;exact⟨rfl,((Below.refl _ w).alloc (Nat.le_refl _) _).trans (hb1.mono (by simp))⟩
theorem Valid_bad2 (g:Bool) (n d:ByteArray) (w:World) (hn:n.size≤140737488355328) (hd:d.size≤140737488355328) (h:isN n=true) (h':isN d=false) :
 Calls Tryz.prog 126 #[.agg #[.bool g,.string n,.string d]] w fun e w'=>e=.returned (.bool false)∧Below w.heap.size w w':=by
 have H:=Lib.hid h';clear h';go_enter Tryz.func126,Tryz.ntmps126
 go_wp2_with fail
 refine(is_any n _ (by omega)).mono ?_;rintro e w1 ⟨rfl,hb1⟩;rw[h];have q1:=(B3.new w g n d).below hb1;obtain⟨a1,a2,a3,a4,a5,a6⟩:=q1.facts;have hB1:=Lib.hid (((Below.refl _ w).alloc (Nat.le_refl _) _).trans (hb1.mono (by simp)));replace q1:=Lib.hid q1;clear hb1
 go_wp2_with fail
 refine(is_any d _ (by omega)).mono ?_;rintro e w2 ⟨rfl,hb2⟩;rw[H.out];have hB2:=Lib.hid (hB1.out.trans (hb2.mono hB1.out.size));clear hb2 hB1;go_wp2;go_ret;exact⟨rfl,hB2.out⟩
theorem T_is_one (n:Nat):((T (some n)).toList==[49])=decide (n=1):=is_one n
theorem T_is_zero (n:Nat):((T (some n)).toList==[48])=decide (n=0):=is_zero n
theorem Valid_zden (g:Bool) (a:Nat) (w:World) (ha:a<Lim) :
 Calls Tryz.prog 126 #[.agg #[.bool g,.string (T (some a)),.string (T (some 0))]] w fun e w'=>e=.returned (.bool false)∧Below w.heap.size w w':=by
 have z:=T_is_zero 0;rw[decide_eq_true rfl]at z;have h0:0<Lim:=by omega
 go_enter Tryz.func126,Tryz.ntmps126
 go_wp2_with fail
 refine(isOk (some a) (ok_some ha) _).mono ?_;rintro e w1 ⟨rfl,hb1⟩;rw[Option.isSome_some];have q1:=(B3.new w g (T (some a)) (T (some 0))).below hb1;obtain⟨a1,a2,a3,a4,a5,a6⟩:=q1.facts;have hB1:=Lib.hid (((Below.refl _ w).alloc (Nat.le_refl _) _).trans (hb1.mono (by simp)));replace q1:=Lib.hid q1;clear hb1
 go_wp2_with fail
 refine(isOk (some 0) (ok_some h0) _).mono ?_;rintro e w2 ⟨rfl,hb2⟩;rw[Option.isSome_some];obtain⟨b1,b2,b3,b4,b5,b6⟩:=(q1.out.below hb2).facts;have hB2:=Lib.hid (hB1.out.trans (hb2.mono hB1.out.size));clear hb2 hB1;go_wp2;go_ret;exact⟨rfl,hB2.out⟩
theorem Valid_znum (g:Bool) (b:Nat) (w:World) (hb:b<Lim) (hb0:b≠0) :
 Calls Tryz.prog 126 #[.agg #[.bool g,.string (T (some 0)),.string (T (some b))]] w fun e w'=>e=.returned (.bool (!g&&decide (b=1)))∧Below w.heap.size w w':=by
 obtain⟨r,hr⟩:∃r,r=decide (b=1):=⟨_,rfl⟩;rw[←hr]
 cases g<;>cases r
 all_goals
  have z:=T_is_zero 0;rw[decide_eq_true rfl]at z;have z2:=T_is_zero b;rw[decide_eq_false hb0]at z2;have z3:=T_is_one b;rw[←hr]at z3;clear hr;have h0:0<Lim:=by omega
  replace hb0:=Lib.hid hb0;go_enter Tryz.func126,Tryz.ntmps126
  go_wp2_with fail
  refine(isOk (some 0) (ok_some h0) _).mono ?_;rintro e w1 ⟨rfl,hb1⟩;rw[Option.isSome_some];have q1:=(B3.new w _ (T (some 0)) (T (some b))).below hb1;obtain⟨a1,a2,a3,a4,a5,a6⟩:=q1.facts;have hB1:=Lib.hid (((Below.refl _ w).alloc (Nat.le_refl _) _).trans (hb1.mono (by simp)));replace q1:=Lib.hid q1;clear hb1
  go_wp2_with fail
  refine(isOk (some b) (ok_some hb) _).mono ?_;rintro e w2 ⟨rfl,hb2⟩;rw[Option.isSome_some];obtain⟨b1,b2,b3,b4,b5,b6⟩:=(q1.out.below hb2).facts;have hB2:=Lib.hid (hB1.out.trans (hb2.mono hB1.out.size));clear hb2 hB1;go_wp2;go_ret;exact⟨rfl,hB2.out⟩
theorem Valid_gcd (g:Bool) (a b:Nat) (w:World) (hE:Env w) (ha:a<Lim) (hb:b<Lim) (ha0:a≠0) (hb0:b≠0) :
 Calls Tryz.prog 126 #[.agg #[.bool g,.string (T (some a)),.string (T (some b))]] w fun e w'=>e=.returned (.bool (decide (Nat.gcd a b=1)))∧Below w.heap.size w w':=by
 have z:=T_is_zero a;rw[decide_eq_false ha0]at z;have z2:=T_is_zero b;rw[decide_eq_false hb0]at z2;have z3:=T_is_one (Nat.gcd a b)
 have hG:Hid (gcdO (some a) (some b)=some (Nat.gcd a b)∧gcdE (some a) (some b)=0):=by
  have:=gcd_ltL ha hb;exact⟨by simp only[gcdO,apO,limO,if_pos this],by simp only[gcdE,apE,if_pos this]⟩
 replace ha0:=Lib.hid ha0;replace hb0:=Lib.hid hb0;replace hE:=Lib.hid hE;go_enter Tryz.func126,Tryz.ntmps126
 go_wp2_with fail
 refine(isOk (some a) (ok_some ha) _).mono ?_;rintro e w1 ⟨rfl,hb1⟩;rw[Option.isSome_some];have q1:=(B3.new w g (T (some a)) (T (some b))).below hb1;obtain⟨a1,a2,a3,a4,a5,a6⟩:=q1.facts;have hB1:=Lib.hid (((Below.refl _ w).alloc (Nat.le_refl _) _).trans (hb1.mono (by simp)));replace q1:=Lib.hid q1;clear hb1
 go_wp2_with fail
 refine(isOk (some b) (ok_some hb) _).mono ?_;rintro e w2 ⟨rfl,hb2⟩;rw[Option.isSome_some];obtain⟨b1,b2,b3,b4,b5,b6⟩:=(q1.out.below hb2).facts;have hB2:=Lib.hid (hB1.out.trans (hb2.mono hB1.out.size));clear hb2 hB1 q1
 go_wp2_with fail
 refine(gcdT (some a) (some b) _ (hE.out.below hB2.out) (ok_some ha) (ok_some hb)).mono ?_;rintro e w3 ⟨rfl,hb3⟩;rw[hG.out.1,hG.out.2];have hB3:=Lib.hid (hB2.out.trans (hb3.mono hB2.out.size));clear hb3 hB2;go_wp2;go_ret;exact⟨rfl,hB3.out⟩
theorem Valid_any (g:Bool) (n d:ByteArray) (w:World) (hE:Env w) (hn:n.size≤140737488355328) (hd:d.size≤140737488355328) :
 Calls Tryz.prog 126 #[.agg #[.bool g,.string n,.string d]] w fun e w'=>e=.returned (.bool (validB g n d))∧Below w.heap.size w w':=by
 cases h1:isN n with
 | false =>
   have e:validB g n d=false:=by unfold validB;rw[h1];rfl
   rw[e];exact Valid_bad1 g n d w hn h1
 | true =>
   cases h2:isN d with
   | false =>
     have e:validB g n d=false:=by unfold validB;rw[h1,h2];rfl
     rw[e];exact Valid_bad2 g n d w hn hd h1 h2
   | true =>
     obtain⟨a,ha,rfl⟩:=num_of_isN h1;obtain⟨b,hb,rfl⟩:=num_of_isN h2;rw[valid_num g a b ha hb]
     by_cases hb0:b=0
     · subst hb0;simp only[decide_true,Bool.not_true,Bool.false_and];exact Valid_zden g a w ha
     · rw [decide_eq_false hb0,Bool.not_false,Bool.true_and]
       by_cases ha0:a=0
       · rw[if_pos ha0];subst ha0;exact Valid_znum g b w hb hb0
       · rw[if_neg ha0];exact Valid_gcd g a b w hE ha hb ha0 hb0
theorem lowest_any (g:Bool) (a b:Nat) (w:World) (hE:Env w) (ha:a<Lim) (hb:b<Lim) (hb0:b≠0) :
 Calls Tryz.prog 124 #[.bool g,.string (T (some a)),.string (T (some b))] w fun e w'=>e=.returned (.tuple #[qv (mkRat (sg g a) b),.int .i64 0])∧Below w.heap.size w w':=by
 have HV:=Lib.hid (qv_mk g a b hb0);obtain⟨G,hGd⟩:∃G,G=Nat.gcd a b:=⟨_,rfl⟩;have hGl:G<Lim:=by rw[hGd];exact gcd_ltL ha hb
 have hG0:G≠0:=by rw[hGd];exact Nat.ne_of_gt (Nat.gcd_pos_of_pos_right a (by omega))
 have hG:Hid (gcdO (some a) (some b)=some G∧gcdE (some a) (some b)=0):=by
  have:=gcd_ltL ha hb;rw[hGd];exact⟨by simp only[gcdO,apO,limO,if_pos this],by simp only[gcdE,apE,if_pos this]⟩
 have hD1:Hid (quoO (some a) (some G)=some (a/G)∧quoX (some a) (some G)=0):=⟨if_neg hG0,if_neg hG0⟩;have hD2:Hid (quoO (some b) (some G)=some (b/G)∧quoX (some b) (some G)=0):=⟨if_neg hG0,if_neg hG0⟩;rw[←hGd]at HV;have z:=T_is_zero (a/G);generalize hx:a/G=x at HV hD1 z;generalize hy:b/G=y at HV hD2;replace hE:=Lib.hid hE;clear hGd hG0 hx hy hb0;have key:(g=false)∨(g=true∧x=0)∨(g=true∧x≠0):=by cases g<;>simp<;>omega
 rcases key with rfl | ⟨rfl,hx0⟩ | ⟨rfl,hx0⟩
 rotate_left
 · rw[decide_eq_true hx0]at HV z;replace hx0:=Lib.hid hx0;go_enter Tryz.func124,Tryz.ntmps124
   go_wp2_with fail
   refine(gcdT (some a) (some b) _ (hE.out.below ((Below.refl _ w).alloc (Nat.le_refl _) _)) (ok_some ha) (ok_some hb)).mono ?_;rintro e w1 ⟨rfl,hb1⟩;rw[hG.out.1,hG.out.2];have q1:=(B3.new w false ⟨#[]⟩ ⟨#[]⟩).below hb1;have hB1:=Lib.hid (((Below.refl _ w).alloc (Nat.le_refl _) _).trans (hb1.mono (by simp)));have hl1:=q1.lt;replace q1:=Lib.hid q1;clear hb1
   go_wp2_with fail
   refine(divT (some a) (some G) _ (hE.out.below (hB1.out.alloc hB1.out.size _)) (ok_some ha) (ok_some hGl)).mono ?_;rintro e w2 ⟨rfl,hb2⟩;rw[hD1.out.1,hD1.out.2];have q2:=(q1.out.alloc _).below hb2;have r2:=(B3.new w1 true ⟨#[]⟩ ⟨#[]⟩).below hb2;have hB2:=Lib.hid ((hB1.out.alloc hB1.out.size _).trans (hb2.mono (by have:=hB1.out.size;simp;omega)));obtain⟨c1,c2,c3,c4,c5,c6⟩:=r2.facts;have hl2:=r2.lt;replace q2:=Lib.hid q2;replace r2:=Lib.hid r2;clear hb2 q1
   go_wp2_with fail
   refine(divT (some b) (some G) _ (hE.out.below (hB2.out.setCell (by have:=hB1.out.size;simpa using this) _)) (ok_some hb) (ok_some hGl)).mono ?_;rintro e w3 ⟨rfl,hb3⟩;rw[hD2.out.1,hD2.out.2];have q3:=(q2.out.other (p:=⟨w1.heap.size,1,none⟩) (by simp;omega) _).below hb3;have r3:=(r2.out.set1 (T (some x))).below hb3;have hB3:=Lib.hid ((hB2.out.setCell (p:=⟨w1.heap.size,1,none⟩) (by have:=hB1.out.size;simpa using this) _).trans (hb3.mono (by have:=hB2.out.size;simpa using this)));have hsz1:=hB1.out.size;obtain⟨d1,d2,d3,d4,d5,d6⟩:=q3.facts;obtain⟨e1,e2,e3,e4,e5,e6⟩:=r3.facts;have hl3:=r3.lt;clear hb3 q2 r2 c1 c2 c3 c4 c5 c6;replace q3:=Lib.hid q3;replace r3:=Lib.hid r3;go_wp2;refine bodyPost_ret (v:=.tuple #[.agg #[.bool false,.string (T (some x)),.string (T (some y))],.int .i64 0]) (by simp[results,Tryz.results124,go_sem,d1,d2,d3]) rfl ⟨by rw[HV.out];rfl,?_⟩
   repeat refine Below.setCell ?_ (by first | exact Nat.le_refl _ | exact hsz1) _
   exact hB3.out
 · rw[decide_eq_false hx0]at HV z;replace hx0:=Lib.hid hx0;go_enter Tryz.func124,Tryz.ntmps124
   go_wp2_with fail
   refine(gcdT (some a) (some b) _ (hE.out.below ((Below.refl _ w).alloc (Nat.le_refl _) _)) (ok_some ha) (ok_some hb)).mono ?_;rintro e w1 ⟨rfl,hb1⟩;rw[hG.out.1,hG.out.2];have q1:=(B3.new w false ⟨#[]⟩ ⟨#[]⟩).below hb1;have hB1:=Lib.hid (((Below.refl _ w).alloc (Nat.le_refl _) _).trans (hb1.mono (by simp)));have hl1:=q1.lt;replace q1:=Lib.hid q1;clear hb1
   go_wp2_with fail
   refine(divT (some a) (some G) _ (hE.out.below (hB1.out.alloc hB1.out.size _)) (ok_some ha) (ok_some hGl)).mono ?_;rintro e w2 ⟨rfl,hb2⟩;rw[hD1.out.1,hD1.out.2];have q2:=(q1.out.alloc _).below hb2;have r2:=(B3.new w1 true ⟨#[]⟩ ⟨#[]⟩).below hb2;have hB2:=Lib.hid ((hB1.out.alloc hB1.out.size _).trans (hb2.mono (by have:=hB1.out.size;simp;omega)));obtain⟨c1,c2,c3,c4,c5,c6⟩:=r2.facts;have hl2:=r2.lt;replace q2:=Lib.hid q2;replace r2:=Lib.hid r2;clear hb2 q1
   go_wp2_with fail
   refine(divT (some b) (some G) _ (hE.out.below (hB2.out.setCell (by have:=hB1.out.size;simpa using this) _)) (ok_some hb) (ok_some hGl)).mono ?_;rintro e w3 ⟨rfl,hb3⟩;rw[hD2.out.1,hD2.out.2];have q3:=(q2.out.other (p:=⟨w1.heap.size,1,none⟩) (by simp;omega) _).below hb3;have r3:=(r2.out.set1 (T (some x))).below hb3;have hB3:=Lib.hid ((hB2.out.setCell (p:=⟨w1.heap.size,1,none⟩) (by have:=hB1.out.size;simpa using this) _).trans (hb3.mono (by have:=hB2.out.size;simpa using this)));have hsz1:=hB1.out.size;obtain⟨d1,d2,d3,d4,d5,d6⟩:=q3.facts;obtain⟨e1,e2,e3,e4,e5,e6⟩:=r3.facts;have hl3:=r3.lt;clear hb3 q2 r2 c1 c2 c3 c4 c5 c6;replace q3:=Lib.hid q3;replace r3:=Lib.hid r3;go_wp2;refine bodyPost_ret (v:=.tuple #[.agg #[.bool true,.string (T (some x)),.string (T (some y))],.int .i64 0]) (by simp[results,Tryz.results124,go_sem,d1,d2,d3]) rfl ⟨by rw[HV.out];rfl,?_⟩
   repeat refine Below.setCell ?_ (by first | exact Nat.le_refl _ | exact hsz1) _
   exact hB3.out
 · go_enter Tryz.func124,Tryz.ntmps124
   go_wp2_with fail
   refine(gcdT (some a) (some b) _ (hE.out.below ((Below.refl _ w).alloc (Nat.le_refl _) _)) (ok_some ha) (ok_some hb)).mono ?_;rintro e w1 ⟨rfl,hb1⟩;rw[hG.out.1,hG.out.2];have q1:=(B3.new w false ⟨#[]⟩ ⟨#[]⟩).below hb1;have hB1:=Lib.hid (((Below.refl _ w).alloc (Nat.le_refl _) _).trans (hb1.mono (by simp)));have hl1:=q1.lt;replace q1:=Lib.hid q1;clear hb1
   go_wp2_with fail
   refine(divT (some a) (some G) _ (hE.out.below (hB1.out.alloc hB1.out.size _)) (ok_some ha) (ok_some hGl)).mono ?_;rintro e w2 ⟨rfl,hb2⟩;rw[hD1.out.1,hD1.out.2];have q2:=(q1.out.alloc _).below hb2;have r2:=(B3.new w1 false ⟨#[]⟩ ⟨#[]⟩).below hb2;have hB2:=Lib.hid ((hB1.out.alloc hB1.out.size _).trans (hb2.mono (by have:=hB1.out.size;simp;omega)));obtain⟨c1,c2,c3,c4,c5,c6⟩:=r2.facts;have hl2:=r2.lt;replace q2:=Lib.hid q2;replace r2:=Lib.hid r2;clear hb2 q1
   go_wp2_with fail
   refine(divT (some b) (some G) _ (hE.out.below (hB2.out.setCell (by have:=hB1.out.size;simpa using this) _)) (ok_some hb) (ok_some hGl)).mono ?_;rintro e w3 ⟨rfl,hb3⟩;rw[hD2.out.1,hD2.out.2];have q3:=(q2.out.other (p:=⟨w1.heap.size,1,none⟩) (by simp;omega) _).below hb3;have r3:=(r2.out.set1 (T (some x))).below hb3;have hB3:=Lib.hid ((hB2.out.setCell (p:=⟨w1.heap.size,1,none⟩) (by have:=hB1.out.size;simpa using this) _).trans (hb3.mono (by have:=hB2.out.size;simpa using this)));have hsz1:=hB1.out.size;obtain⟨d1,d2,d3,d4,d5,d6⟩:=q3.facts;obtain⟨e1,e2,e3,e4,e5,e6⟩:=r3.facts;have hl3:=r3.lt;clear hb3 q2 r2 c1 c2 c3 c4 c5 c6;replace q3:=Lib.hid q3;replace r3:=Lib.hid r3;go_wp2;refine bodyPost_ret (v:=.tuple #[.agg #[.bool false,.string (T (some x)),.string (T (some y))],.int .i64 0]) (by simp[results,Tryz.results124,go_sem,d1,d2,d3]) rfl ⟨by rw[HV.out];rfl,?_⟩
   repeat refine Below.setCell ?_ (by first | exact Nat.le_refl _ | exact hsz1) _
   exact hB3.out
end Nt
end
section
open Go.RowKit Go.Shelf
namespace Nt
theorem infoS:(Tryz.prog.info? 9).map (fun i=>(i.zero,i.size,i.bytes))=some (some (.string ⟨#[]⟩),1,16):=by kernel_rfl
def tvals (ks:List Nat):List Value:=ks.map fun k=>Value.string (T (some k))
def TextsAt (W:World) (v:Value) (ks:List Nat):Prop:=∃g cap,v=.slice (some ⟨g,0,none⟩) ks.length cap∧g<W.heap.size∧∀i (h:i<ks.length),W.cell? ⟨g,i,none⟩=some (.string (T (some ks[i])))
theorem tvals_snoc (ks:List Nat) (k:Nat):tvals ks++[Value.string (T (some k))]=tvals (ks++[k]):=by simp[tvals]
theorem tvals_at {B:Nat} {W:World} {v:Value} {ks:List Nat} (h:W.ownsRow B 9 1 v ks.length (tvals ks)) (h0:ks≠[]):TextsAt W v ks:=by
 rcases id h.2 with⟨rfl,hx⟩ | ⟨g,cap,cur,rfl,hg,hh,hn,hcm,hcs,ht⟩
 · exact absurd (List.length_eq_zero_iff.1 hx) h0
 · refine⟨g,cap,rfl,(Array.getElem?_eq_some_iff.1 hh).1,fun i hi=>?_⟩;rw[World.ownsRow.cellAt h i (by omega)];simp[tvals,hi]
def PairsAt (W:World) (b:Nat) (ps:List (Nat×Nat)):Prop:=∀i (h:i<ps.length),W.cell? ⟨b,i*2,none⟩=some (.string (T (some ps[i].1)))∧W.cell? ⟨b,i*2+1,none⟩=some (.string (T (some ps[i].2)))
def prods (ps:List (Nat×Nat)):List Nat:=ps.map fun p=>p.1*p.2
def PrRel (w:World) (ps:List (Nat×Nat)) (k:Nat) (v:Value) (wr:World):Prop :=
 wr.ownsRow w.heap.size 9 1 v (prods (ps.take k)).length (tvals (prods (ps.take k)))∧Below w.heap.size w wr
theorem ownsRow_belowH {B:Nat} {e:TypeId} {size:Nat} {w w':World} {v:Value} {n:Nat} {xs:List Value} (h:w.ownsRow B e size v n xs) (hb:Below w.heap.size w w'):w'.ownsRow B e size v n xs:=by
 obtain⟨h1,h2⟩:=h;refine⟨h1,?_⟩
 rcases h2 with h2 | ⟨g,cap,cur,hv,hg,hh,r⟩
 · exact Or.inl h2
 · exact Or.inr ⟨g,cap,cur,hv,hg,by rw[hb.block g (Array.getElem?_eq_some_iff.1 hh).1];exact hh,r⟩
theorem one_cell_s (s:ByteArray):∀u∈[Value.string s],u.oneCell'=true:=by
 intro u hu;simp at hu;subst hu;rfl
theorem products_any (w:World) (hE:Env w) (b cap:Nat) (ps:List (Nat×Nat)) (hb:b<w.heap.size) (hl:ps.length≤100) (hp:PairsAt w b ps) (hs:∀p∈ps,p.1<Lim∧p.2<Lim∧p.1*p.2<Lim) :
 Calls Tryz.prog 125 #[.slice (some ⟨b,0,none⟩) ps.length cap] w fun e w'=>(∃v,e=.returned v∧w'.ownsRow w.heap.size 9 1 v (prods ps).length (tvals (prods ps)))∧Below w.heap.size w w':=by
 obtain⟨i0,hi,hz0,hz1,hz2⟩:=info_parts infoS;have HP:=Lib.hid hp;have HS:=Lib.hid hs;replace hE:=Lib.hid hE;clear hp hs;go_enter Tryz.func125,Tryz.ntmps125;go_wp2
 go_loopw [3,10] (fun v i wr=>∃k:Nat,k≤ps.length∧i=.int .i64 (k:Int)∧PrRel w ps k v wr) (fun _ i _=>ps.length-(intOf i).toNat)
 case atStart=>exact⟨0,Nat.zero_le _,rfl,World.ownsRow_nil _ _ _ _,Below.refl _ _⟩
 case round =>
  obtain⟨k,hk,rfl,z1,z2⟩:=hrel;have hsz:=z2.size
  by_cases hlt:k<ps.length
  · obtain ⟨x,hx⟩:∃x,x=ps[k].1:=⟨_,rfl⟩;obtain⟨y,hy⟩:∃y,y=ps[k].2:=⟨_,rfl⟩;obtain⟨hp1,hp2⟩:=HP.out k hlt;obtain⟨s1,s2,s3⟩:=HS.out _ (List.getElem_mem hlt);rw[←hx]at hp1 s1 s3;rw[←hy]at hp2 s2 s3;have c1:=(z2.cell (p:=⟨b,k*2,none⟩) hb).trans hp1;have c2:=(z2.cell (p:=⟨b,k*2+1,none⟩) hb).trans hp2;have hM:Hid (mulO (some x) (some y)=some (x*y)∧mulE (some x) (some y)=0):=⟨by simp only[mulO,apO,limO,if_pos s3],by simp only[mulE,apE,if_pos s3]⟩
    have hN:Hid (prods (ps.take (k+1))=prods (ps.take k)++[x*y]):=by
     unfold Hid prods;rw[List.take_succ_eq_append_getElem hlt,List.map_append,hx,hy];rfl
    have hL:Hid ((prods (ps.take k)).length=k):=by unfold Hid prods;simp;omega
    replace z1:=Lib.hid z1;replace z2:=Lib.hid z2;clear hp1 hp2 hx hy
    go_wp2_with fail
    refine(mulT (some x) (some y) _ (hE.out.below (z2.out.alloc hsz _)) (ok_some s1) (ok_some s2)).mono ?_;rintro e w1 ⟨rfl,hb1⟩;rw[hM.out.1,hM.out.2];have hB1:=Lib.hid ((z2.out.alloc hsz _).trans (hb1.mono (by simp;omega)));have ho:Hid (w1.ownsRow w.heap.size 9 1 u3 (prods (ps.take k)).length (tvals (prods (ps.take k)))):=ownsRow_belowH (z1.out.alloc _) hb1;have hsz1:=hB1.out.size;clear hb1 z1 z2
    go_wp2_with (at_builtin;refine wpList_append_own _ rfl _ _ 22 rfl w.heap.size 9 i0 (.string ⟨#[]⟩) 1 16 Tryz.underlying22 hi hz0 hz1 hz2 rfl (by decide) u3 (prods (ps.take k)).length (tvals (prods (ps.take k))) rfl (ho.out.alloc _) ⟨w1.heap.size,0,none⟩ 1 1 [.string (T (some (x*y)))] rfl rfl (one_new _ _ _) (one_cell_s _) (by have:=hL.out;unfold maxLen;omega) (by have:=hL.out;omega) (by simp;omega) ?_;intro v2 w2 hown2 hgr2 _)
    refine⟨⟨k+1,by omega,by go_num,?_,(hB1.out.alloc (by omega) _).grown hgr2 (by simp;omega) (fun b e=>(ho.out.lt b e).1)⟩,by simp only[intOf];omega⟩;rw[hN.out,←tvals_snoc,List.length_append];exact hown2
  · obtain rfl:k=ps.length:=by omega
    have e:ps.take ps.length=ps:=List.take_of_length_le (Nat.le_refl _);rw[e]at z1;replace z1:=Lib.hid z1;replace z2:=Lib.hid z2;clear e;go_wp2;go_ret;exact⟨⟨_,rfl,z1.out⟩,z2.out⟩
end Nt
end
section
open Go.RowKit Go.Shelf
namespace Nt
theorem blw_drewN {B:Nat} {a w:World} (h:Below B a w) (n:Nat):Below B a (w.drewN n):=⟨h.os,h.tape,h.output,h.size,h.block⟩
def SumBoxes (W:World) (B:Nat) (g1 g2:Bool) (a b c d:Nat):Prop :=
 B3 W B g1 (T (some a)) (T (some b))∧B3 W (B+1) g2 (T (some c)) (T (some d))∧B3 W (B+1+1) false ⟨#[]⟩ ⟨#[]⟩
abbrev sumW (w:World) (g1 g2:Bool) (a b c d:Nat):World :=
 ((w.alloc (.cells #[.bool g1,.string (T (some a)),.string (T (some b))] 37)).alloc (.cells #[.bool g2,.string (T (some c)),.string (T (some d))] 37)).alloc (.cells #[.bool false,.string ⟨#[]⟩,.string ⟨#[]⟩] 37)
theorem SumBoxes.new (w:World) (g1 g2:Bool) (a b c d:Nat):SumBoxes (sumW w g1 g2 a b c d) w.heap.size g1 g2 a b c d:=by
 have e1:(w.alloc (.cells #[.bool g1,.string (T (some a)),.string (T (some b))] 37)).heap.size=w.heap.size+1:=by simp
 have e2:((w.alloc (.cells #[.bool g1,.string (T (some a)),.string (T (some b))] 37)).alloc (.cells #[.bool g2,.string (T (some c)),.string (T (some d))] 37)).heap.size=w.heap.size+1+1:=by simp
 refine⟨((B3.new w _ _ _).alloc _).alloc _,?_,?_⟩
 · have h:=B3.new (w.alloc (.cells #[.bool g1,.string (T (some a)),.string (T (some b))] 37)) g2 (T (some c)) (T (some d));rw[e1]at h;exact h.alloc _
 · have h:=B3.new ((w.alloc (.cells #[.bool g1,.string (T (some a)),.string (T (some b))] 37)).alloc (.cells #[.bool g2,.string (T (some c)),.string (T (some d))] 37)) false ⟨#[]⟩ ⟨#[]⟩;rw[e2]at h;exact h
theorem sumW_below (w:World) (g1 g2:Bool) (a b c d:Nat):Below w.heap.size w (sumW w g1 g2 a b c d) :=
 (((Below.refl _ w).alloc (Nat.le_refl _) _).alloc (by simp) _).alloc (by simp;omega) _
theorem SumBoxes.alloc {W:World} {B:Nat} {g1 g2:Bool} {a b c d:Nat} (h:SumBoxes W B g1 g2 a b c d) (o:Obj):SumBoxes (W.alloc o) B g1 g2 a b c d:=⟨h.1.alloc o,h.2.1.alloc o,h.2.2.alloc o⟩
theorem SumBoxes.below {W W':World} {B:Nat} {g1 g2:Bool} {a b c d:Nat} (h:SumBoxes W B g1 g2 a b c d) (hb:Below W.heap.size W W'):SumBoxes W' B g1 g2 a b c d:=⟨h.1.below hb,h.2.1.below hb,h.2.2.below hb⟩
theorem texts3 {W:World} {v:Value} {x y z:Nat} (h:TextsAt W v [x,y,z]):∃g cap,v=.slice (some ⟨g,0,none⟩) 3 cap∧W.cell? ⟨g,0,none⟩=some (.string (T (some x)))∧W.cell? ⟨g,1,none⟩=some (.string (T (some y)))∧W.cell? ⟨g,2,none⟩=some (.string (T (some z))):=by
 obtain⟨g,cap,rfl,hg,hc⟩:=h;exact⟨g,cap,rfl,hc 0 (by simp),hc 1 (by simp),hc 2 (by simp)⟩
theorem texts2 {W:World} {v:Value} {x y:Nat} (h:TextsAt W v [x,y]):∃g cap,v=.slice (some ⟨g,0,none⟩) 2 cap∧g<W.heap.size∧W.cell? ⟨g,0,none⟩=some (.string (T (some x)))∧W.cell? ⟨g,1,none⟩=some (.string (T (some y))):=by
 obtain⟨g,cap,rfl,hg,hc⟩:=h;exact⟨g,cap,rfl,hg,hc 0 (by simp),hc 1 (by simp)⟩
theorem pairs3 (W:World) (x1 y1 x2 y2 x3 y3:Nat) :
 PairsAt (W.alloc (.cells #[.string (T (some x1)),.string (T (some y1)),.string (T (some x2)),.string (T (some y2)),.string (T (some x3)),.string (T (some y3))] 131)) W.heap.size [(x1,y1),(x2,y2),(x3,y3)]:=by
 intro i hi;have h:=heap_alloc_new W (.cells #[.string (T (some x1)),.string (T (some y1)),.string (T (some x2)),.string (T (some y2)),.string (T (some x3)),.string (T (some y3))] 131)
 match i,hi with
 | 0,_=>simp only[World.cell?,h];exact⟨rfl,rfl⟩
 | 1,_=>simp only[World.cell?,h];exact⟨rfl,rfl⟩
 | 2,_=>simp only[World.cell?,h];exact⟨rfl,rfl⟩
 | n+3,hi=>simp at hi;omega
theorem pairs2 (W:World) (x1 y1 x2 y2:Nat) :
 PairsAt (W.alloc (.cells #[.string (T (some x1)),.string (T (some y1)),.string (T (some x2)),.string (T (some y2))] 131)) W.heap.size [(x1,y1),(x2,y2)]:=by
 intro i hi;have h:=heap_alloc_new W (.cells #[.string (T (some x1)),.string (T (some y1)),.string (T (some x2)),.string (T (some y2))] 131)
 match i,hi with
 | 0,_=>simp only[World.cell?,h];exact⟨rfl,rfl⟩
 | 1,_=>simp only[World.cell?,h];exact⟨rfl,rfl⟩
 | n+2,hi=>simp at hi;omega
theorem sumw_same (g1:Bool) (a b c d:Nat) (w:World) (hE:Env w) (ha:a<L1) (hb:b<L1) (hc:c<L1) (hd:d<L1) (hb0:b≠0) (hd0:d≠0)  :
 Calls Tryz.prog 71 #[.agg #[.bool g1,.string (T (some a)),.string (T (some b))],.agg #[.bool g1,.string (T (some c)),.string (T (some d))]] w fun e w'=>e=.returned (.tuple #[qv (mkRat (sg g1 (a*d+c*b)) (b*d)),.int .i64 0])∧Below w.heap.size w w':=by
 have hbd:b*d≠0:=Nat.mul_ne_zero hb0 hd0;have HS:=Lib.hid (And.intro (L1_mul ha hd) (And.intro (L1_mul hc hb) (And.intro (L1_mul hb hd) L1_sq)))
 have HP:Hid (∀p∈[(a,d),(c,b),(b,d)],p.1<Lim∧p.2<Lim∧p.1*p.2<Lim):=by
  have:=HS.out;intro p hp;simp only[List.mem_cons,List.not_mem_nil,or_false]at hp
  rcases hp with rfl | rfl | rfl
  · exact⟨L1_lim ha,L1_lim hd,by show a*d<Lim;omega⟩
  · exact⟨L1_lim hc,L1_lim hb,by show c*b<Lim;omega⟩
  · exact⟨L1_lim hb,L1_lim hd,by show b*d<Lim;omega⟩
 have hPR:Hid (PairsAt ((sumW w g1 g1 a b c d).alloc (.cells #[.string (T (some a)),.string (T (some d)),.string (T (some c)),.string (T (some b)),.string (T (some b)),.string (T (some d))] 131)) (w.heap.size+1+1+1) [(a,d),(c,b),(b,d)]):=by
  have:=pairs3 (sumW w g1 g1 a b c d) a d c b b d
  rwa [show (sumW w g1 g1 a b c d).heap.size=w.heap.size+1+1+1 by simp]at this
 have hBE:Hid (Below w.heap.size w ((sumW w g1 g1 a b c d).alloc (.cells #[.string (T (some a)),.string (T (some d)),.string (T (some c)),.string (T (some b)),.string (T (some b)),.string (T (some d))] 131))):=(sumW_below w g1 g1 a b c d).alloc (sumW_below w g1 g1 a b c d).size _;have hQE:Hid (SumBoxes ((sumW w g1 g1 a b c d).alloc (.cells #[.string (T (some a)),.string (T (some d)),.string (T (some c)),.string (T (some b)),.string (T (some b)),.string (T (some d))] 131)) w.heap.size g1 g1 a b c d):=(SumBoxes.new w g1 g1 a b c d).alloc _;replace hE:=Lib.hid hE;replace hbd:=Lib.hid hbd;clear ha hb hc hd hb0 hd0
 have hA:Hid (sumO (some (a*d)) (some (c*b))=some (a*d+c*b)∧sumE (some (a*d)) (some (c*b))=0):=by
  have:=HS.out;have h:a*d+c*b<Lim:=by omega
  exact⟨by simp only[sumO,apO,limO,if_pos h],by simp only[sumE,apE,if_pos h]⟩
 go_enter Tryz.func71,Tryz.ntmps71
 go_wp2_with fail
 refine(products_any _ (hE.out.below hBE.out) (w.heap.size+1+1+1) 3 [(a,d),(c,b),(b,d)] (by simp) (by simp) hPR.out HP.out).mono ?_;rintro e w1 ⟨⟨v,rfl,ho⟩,hb1⟩;have hat:TextsAt w1 v [a*d,c*b,b*d]:=tvals_at ho (by simp);obtain⟨lg,lcap,rfl,l0,l1,l2⟩:=texts3 hat;have q1:=hQE.out.below hb1;have hB1:=Lib.hid (hBE.out.trans (hb1.mono hBE.out.size));obtain⟨a1,a2,a3,a4,a5,a6⟩:=q1.1.facts;obtain⟨b1,b2,b3,b4,b5,b6⟩:=q1.2.1.facts;obtain⟨c1,c2,c3,c4,c5,c6⟩:=q1.2.2.facts;have hz1:=q1.2.2.lt;replace q1:=Lib.hid q1;clear hb1 hat ho
 go_wp2_with fail
 show Code.wp _ _ _ _ _
 go_quiet (fail)
 obtain⟨W,hW⟩:∃W,W=w1.drewN nq:=⟨_,rfl⟩;have qW:Hid (SumBoxes W w.heap.size g1 g1 a b c d):=by rw[hW];exact q1.out
 have hBW:Hid (Below w.heap.size w W):=by rw[hW];exact blw_drewN hB1.out nq
 rw[←hW];clear a1 a2 a3 a4 a5 a6 b1 b2 b3 b4 b5 b6 c1 c2 c3 c4 c5 c6 hz1 l0 l1 l2 hW q1 hB1;obtain⟨a1,a2,a3,a4,a5,a6⟩:=qW.out.1.facts;obtain⟨b1,b2,b3,b4,b5,b6⟩:=qW.out.2.1.facts
 go_wp2_with fail
 refine(addT (some (a*d)) (some (c*b)) _ (hE.out.below hBW.out) (ok_some (by have:=HS.out;omega)) (ok_some (by have:=HS.out;omega))).mono ?_;rintro e w2 ⟨rfl,hb2⟩;rw[hA.out.1,hA.out.2];have q2:=qW.out.below hb2;have hB2:=Lib.hid (hBW.out.trans (hb2.mono hBW.out.size));clear a1 a2 a3 a4 a5 a6 b1 b2 b3 b4 b5 b6 hb2;obtain⟨a1,a2,a3,a4,a5,a6⟩:=q2.1.facts;obtain⟨b1,b2,b3,b4,b5,b6⟩:=q2.2.1.facts;replace q2:=Lib.hid q2
 go_wp2_with fail
 refine(lowest_any g1 (a*d+c*b) (b*d) _ (hE.out.below hB2.out) (by have:=HS.out;omega) (by have:=HS.out;omega) hbd.out).mono ?_;rintro e w3 ⟨rfl,hb3⟩;have q3:=q2.out.below hb3;have hB3:=Lib.hid (hB2.out.trans (hb3.mono hB2.out.size));clear a1 a2 a3 a4 a5 a6 b1 b2 b3 b4 b5 b6 hb3;obtain⟨c1,c2,c3,c4,c5,c6⟩:=q3.2.2.facts;replace q3:=Lib.hid q3;unfold qv;go_wp2;refine bodyPost_ret (v:=.tuple #[.agg #[.bool (decide ((mkRat (sg g1 (a*d+c*b)) (b*d)).num<0)),.string (T (some (mkRat (sg g1 (a*d+c*b)) (b*d)).num.natAbs)),.string (T (some (mkRat (sg g1 (a*d+c*b)) (b*d)).den))],.int .i64 0]) (by simp[results,Tryz.results71,go_sem,c1,c2,c3]) rfl ⟨rfl,?_⟩
 repeat refine Below.setCell ?_ (by simp only[];omega) _
 exact hB3.out
theorem sumw_less (g1 g2:Bool) (a b c d:Nat) (w:World) (hE:Env w) (ha:a<L1) (hb:b<L1) (hc:c<L1) (hd:d<L1) (hb0:b≠0) (hd0:d≠0) (hg:(g1==g2)=false) (hl:a*d<c*b) :
 Calls Tryz.prog 71 #[.agg #[.bool g1,.string (T (some a)),.string (T (some b))],.agg #[.bool g2,.string (T (some c)),.string (T (some d))]] w fun e w'=>e=.returned (.tuple #[qv (mkRat (sg g2 (c*b-a*d)) (b*d)),.int .i64 0])∧Below w.heap.size w w':=by
 have hbd:b*d≠0:=Nat.mul_ne_zero hb0 hd0;have HS:=Lib.hid (And.intro (L1_mul ha hd) (And.intro (L1_mul hc hb) (And.intro (L1_mul hb hd) L1_sq)))
 have HP:Hid (∀p∈[(a,d),(c,b),(b,d)],p.1<Lim∧p.2<Lim∧p.1*p.2<Lim):=by
  have:=HS.out;intro p hp;simp only[List.mem_cons,List.not_mem_nil,or_false]at hp
  rcases hp with rfl | rfl | rfl
  · exact⟨L1_lim ha,L1_lim hd,by show a*d<Lim;omega⟩
  · exact⟨L1_lim hc,L1_lim hb,by show c*b<Lim;omega⟩
  · exact⟨L1_lim hb,L1_lim hd,by show b*d<Lim;omega⟩
 have hPR:Hid (PairsAt ((sumW w g1 g2 a b c d).alloc (.cells #[.string (T (some a)),.string (T (some d)),.string (T (some c)),.string (T (some b)),.string (T (some b)),.string (T (some d))] 131)) (w.heap.size+1+1+1) [(a,d),(c,b),(b,d)]):=by
  have:=pairs3 (sumW w g1 g2 a b c d) a d c b b d
  rwa [show (sumW w g1 g2 a b c d).heap.size=w.heap.size+1+1+1 by simp]at this
 have hBE:Hid (Below w.heap.size w ((sumW w g1 g2 a b c d).alloc (.cells #[.string (T (some a)),.string (T (some d)),.string (T (some c)),.string (T (some b)),.string (T (some b)),.string (T (some d))] 131))):=(sumW_below w g1 g2 a b c d).alloc (sumW_below w g1 g2 a b c d).size _;have hQE:Hid (SumBoxes ((sumW w g1 g2 a b c d).alloc (.cells #[.string (T (some a)),.string (T (some d)),.string (T (some c)),.string (T (some b)),.string (T (some b)),.string (T (some d))] 131)) w.heap.size g1 g2 a b c d):=(SumBoxes.new w g1 g2 a b c d).alloc _;replace hE:=Lib.hid hE;replace hbd:=Lib.hid hbd;clear ha hb hc hd hb0 hd0;have hC0:Hid (cmpX (some (a*d)) (some (c*b))=0):=rfl;have hS2:Hid (subO (some (c*b)) (some (a*d))=some (c*b-a*d)∧subX (some (c*b)) (some (a*d))=0):=⟨if_pos (by omega),if_pos (by omega)⟩;have hC:Hid (cmpO (some (a*d)) (some (c*b))=-1):=cmpN_lt hl;replace hl:=Lib.hid hl;go_enter Tryz.func71,Tryz.ntmps71
 go_wp2_with fail
 refine(products_any _ (hE.out.below hBE.out) (w.heap.size+1+1+1) 3 [(a,d),(c,b),(b,d)] (by simp) (by simp) hPR.out HP.out).mono ?_;rintro e w1 ⟨⟨v,rfl,ho⟩,hb1⟩;have hat:TextsAt w1 v [a*d,c*b,b*d]:=tvals_at ho (by simp);obtain⟨lg,lcap,rfl,l0,l1,l2⟩:=texts3 hat;have q1:=hQE.out.below hb1;have hB1:=Lib.hid (hBE.out.trans (hb1.mono hBE.out.size));obtain⟨a1,a2,a3,a4,a5,a6⟩:=q1.1.facts;obtain⟨b1,b2,b3,b4,b5,b6⟩:=q1.2.1.facts;obtain⟨c1,c2,c3,c4,c5,c6⟩:=q1.2.2.facts;have hz1:=q1.2.2.lt;replace q1:=Lib.hid q1;clear hb1 hat ho
 go_wp2_with fail
 show Code.wp _ _ _ _ _
 go_quiet (fail)
 obtain⟨W,hW⟩:∃W,W=w1.drewN nq:=⟨_,rfl⟩;have qW:Hid (SumBoxes W w.heap.size g1 g2 a b c d):=by rw[hW];exact q1.out
 have hBW:Hid (Below w.heap.size w W):=by rw[hW];exact blw_drewN hB1.out nq
 rw[←hW];clear a1 a2 a3 a4 a5 a6 b1 b2 b3 b4 b5 b6 c1 c2 c3 c4 c5 c6 hz1 l0 l1 l2 hW q1 hB1;obtain⟨a1,a2,a3,a4,a5,a6⟩:=qW.out.1.facts;obtain⟨b1,b2,b3,b4,b5,b6⟩:=qW.out.2.1.facts
 go_wp2_with fail
 refine(cmpT (some (a*d)) (some (c*b)) _ (hE.out.below hBW.out) (ok_some (by have:=HS.out;omega)) (ok_some (by have:=HS.out;omega))).mono ?_;rintro e w2 ⟨rfl,hb2⟩;rw[hC.out,hC0.out];have q2:=qW.out.below hb2;have hB2:=Lib.hid (hBW.out.trans (hb2.mono hBW.out.size));clear a1 a2 a3 a4 a5 a6 b1 b2 b3 b4 b5 b6 hb2;obtain⟨a1,a2,a3,a4,a5,a6⟩:=q2.1.facts;obtain⟨b1,b2,b3,b4,b5,b6⟩:=q2.2.1.facts;replace q2:=Lib.hid q2
 go_wp2_with fail
 refine(subT (some (c*b)) (some (a*d)) _ (hE.out.below hB2.out) (ok_some (by have:=HS.out;omega)) (ok_some (by have:=HS.out;omega))).mono ?_;rintro e w3 ⟨rfl,hb3⟩;rw[hS2.out.1,hS2.out.2];have q3:=q2.out.below hb3;have hB3:=Lib.hid (hB2.out.trans (hb3.mono hB2.out.size));clear a1 a2 a3 a4 a5 a6 b1 b2 b3 b4 b5 b6 hb3;obtain⟨a1,a2,a3,a4,a5,a6⟩:=q3.1.facts;obtain⟨b1,b2,b3,b4,b5,b6⟩:=q3.2.1.facts;replace q3:=Lib.hid q3
 go_wp2_with fail
 refine(lowest_any g2 (c*b-a*d) (b*d) _ (hE.out.below hB3.out) (by have:=HS.out;omega) (by have:=HS.out;omega) hbd.out).mono ?_;rintro e w4 ⟨rfl,hb4⟩;have q4:=q3.out.below hb4;have hB4:=Lib.hid (hB3.out.trans (hb4.mono hB3.out.size));clear a1 a2 a3 a4 a5 a6 b1 b2 b3 b4 b5 b6 hb4;obtain⟨c1,c2,c3,c4,c5,c6⟩:=q4.2.2.facts;replace q4:=Lib.hid q4;unfold qv;go_wp2;refine bodyPost_ret (v:=.tuple #[.agg #[.bool (decide ((mkRat (sg g2 (c*b-a*d)) (b*d)).num<0)),.string (T (some (mkRat (sg g2 (c*b-a*d)) (b*d)).num.natAbs)),.string (T (some (mkRat (sg g2 (c*b-a*d)) (b*d)).den))],.int .i64 0]) (by simp[results,Tryz.results71,go_sem,c1,c2,c3]) rfl ⟨rfl,?_⟩
 repeat refine Below.setCell ?_ (by simp only[];omega) _
 exact hB4.out
theorem sumw_more (g1 g2:Bool) (a b c d:Nat) (w:World) (hE:Env w) (ha:a<L1) (hb:b<L1) (hc:c<L1) (hd:d<L1) (hb0:b≠0) (hd0:d≠0) (hg:(g1==g2)=false) (hl:c*b≤a*d) :
 Calls Tryz.prog 71 #[.agg #[.bool g1,.string (T (some a)),.string (T (some b))],.agg #[.bool g2,.string (T (some c)),.string (T (some d))]] w fun e w'=>e=.returned (.tuple #[qv (mkRat (sg g1 (a*d-c*b)) (b*d)),.int .i64 0])∧Below w.heap.size w w':=by
 have hbd:b*d≠0:=Nat.mul_ne_zero hb0 hd0;have HS:=Lib.hid (And.intro (L1_mul ha hd) (And.intro (L1_mul hc hb) (And.intro (L1_mul hb hd) L1_sq)))
 have HP:Hid (∀p∈[(a,d),(c,b),(b,d)],p.1<Lim∧p.2<Lim∧p.1*p.2<Lim):=by
  have:=HS.out;intro p hp;simp only[List.mem_cons,List.not_mem_nil,or_false]at hp
  rcases hp with rfl | rfl | rfl
  · exact⟨L1_lim ha,L1_lim hd,by show a*d<Lim;omega⟩
  · exact⟨L1_lim hc,L1_lim hb,by show c*b<Lim;omega⟩
  · exact⟨L1_lim hb,L1_lim hd,by show b*d<Lim;omega⟩
 have hPR:Hid (PairsAt ((sumW w g1 g2 a b c d).alloc (.cells #[.string (T (some a)),.string (T (some d)),.string (T (some c)),.string (T (some b)),.string (T (some b)),.string (T (some d))] 131)) (w.heap.size+1+1+1) [(a,d),(c,b),(b,d)]):=by
  have:=pairs3 (sumW w g1 g2 a b c d) a d c b b d
  rwa [show (sumW w g1 g2 a b c d).heap.size=w.heap.size+1+1+1 by simp]at this
 have hBE:Hid (Below w.heap.size w ((sumW w g1 g2 a b c d).alloc (.cells #[.string (T (some a)),.string (T (some d)),.string (T (some c)),.string (T (some b)),.string (T (some b)),.string (T (some d))] 131))):=(sumW_below w g1 g2 a b c d).alloc (sumW_below w g1 g2 a b c d).size _;have hQE:Hid (SumBoxes ((sumW w g1 g2 a b c d).alloc (.cells #[.string (T (some a)),.string (T (some d)),.string (T (some c)),.string (T (some b)),.string (T (some b)),.string (T (some d))] 131)) w.heap.size g1 g2 a b c d):=(SumBoxes.new w g1 g2 a b c d).alloc _;replace hE:=Lib.hid hE;replace hbd:=Lib.hid hbd;clear ha hb hc hd hb0 hd0;have hC0:Hid (cmpX (some (a*d)) (some (c*b))=0):=rfl;have hS2:Hid (subO (some (a*d)) (some (c*b))=some (a*d-c*b)∧subX (some (a*d)) (some (c*b))=0):=⟨if_pos (by omega),if_pos (by omega)⟩;obtain⟨cv,hcv,hcv0⟩:∃cv:Int,cv=cmpO (some (a*d)) (some (c*b))∧0≤cv:=⟨_,rfl,by show 0≤cmpN (a*d) (c*b);unfold cmpN;rw[if_neg (by omega)];split<;>omega⟩;have hC:Hid (cmpO (some (a*d)) (some (c*b))=cv):=hcv.symm;clear hcv;replace hl:=Lib.hid hl;go_enter Tryz.func71,Tryz.ntmps71
 go_wp2_with fail
 refine(products_any _ (hE.out.below hBE.out) (w.heap.size+1+1+1) 3 [(a,d),(c,b),(b,d)] (by simp) (by simp) hPR.out HP.out).mono ?_;rintro e w1 ⟨⟨v,rfl,ho⟩,hb1⟩;have hat:TextsAt w1 v [a*d,c*b,b*d]:=tvals_at ho (by simp);obtain⟨lg,lcap,rfl,l0,l1,l2⟩:=texts3 hat;have q1:=hQE.out.below hb1;have hB1:=Lib.hid (hBE.out.trans (hb1.mono hBE.out.size));obtain⟨a1,a2,a3,a4,a5,a6⟩:=q1.1.facts;obtain⟨b1,b2,b3,b4,b5,b6⟩:=q1.2.1.facts;obtain⟨c1,c2,c3,c4,c5,c6⟩:=q1.2.2.facts;have hz1:=q1.2.2.lt;replace q1:=Lib.hid q1;clear hb1 hat ho
 go_wp2_with fail
 show Code.wp _ _ _ _ _
 go_quiet (fail)
 obtain⟨W,hW⟩:∃W,W=w1.drewN nq:=⟨_,rfl⟩;have qW:Hid (SumBoxes W w.heap.size g1 g2 a b c d):=by rw[hW];exact q1.out
 have hBW:Hid (Below w.heap.size w W):=by rw[hW];exact blw_drewN hB1.out nq
 rw[←hW];clear a1 a2 a3 a4 a5 a6 b1 b2 b3 b4 b5 b6 c1 c2 c3 c4 c5 c6 hz1 l0 l1 l2 hW q1 hB1;obtain⟨a1,a2,a3,a4,a5,a6⟩:=qW.out.1.facts;obtain⟨b1,b2,b3,b4,b5,b6⟩:=qW.out.2.1.facts
 go_wp2_with fail
 refine(cmpT (some (a*d)) (some (c*b)) _ (hE.out.below hBW.out) (ok_some (by have:=HS.out;omega)) (ok_some (by have:=HS.out;omega))).mono ?_;rintro e w2 ⟨rfl,hb2⟩;rw[hC.out,hC0.out];have q2:=qW.out.below hb2;have hB2:=Lib.hid (hBW.out.trans (hb2.mono hBW.out.size));clear a1 a2 a3 a4 a5 a6 b1 b2 b3 b4 b5 b6 hb2;obtain⟨a1,a2,a3,a4,a5,a6⟩:=q2.1.facts;obtain⟨b1,b2,b3,b4,b5,b6⟩:=q2.2.1.facts;replace q2:=Lib.hid q2
 go_wp2_with fail
 refine(subT (some (a*d)) (some (c*b)) _ (hE.out.below hB2.out) (ok_some (by have:=HS.out;omega)) (ok_some (by have:=HS.out;omega))).mono ?_;rintro e w3 ⟨rfl,hb3⟩;rw[hS2.out.1,hS2.out.2];have q3:=q2.out.below hb3;have hB3:=Lib.hid (hB2.out.trans (hb3.mono hB2.out.size));clear a1 a2 a3 a4 a5 a6 b1 b2 b3 b4 b5 b6 hb3;obtain⟨a1,a2,a3,a4,a5,a6⟩:=q3.1.facts;obtain⟨b1,b2,b3,b4,b5,b6⟩:=q3.2.1.facts;replace q3:=Lib.hid q3
 go_wp2_with fail
 refine(lowest_any g1 (a*d-c*b) (b*d) _ (hE.out.below hB3.out) (by have:=HS.out;omega) (by have:=HS.out;omega) hbd.out).mono ?_;rintro e w4 ⟨rfl,hb4⟩;have q4:=q3.out.below hb4;have hB4:=Lib.hid (hB3.out.trans (hb4.mono hB3.out.size));clear a1 a2 a3 a4 a5 a6 b1 b2 b3 b4 b5 b6 hb4;obtain⟨c1,c2,c3,c4,c5,c6⟩:=q4.2.2.facts;replace q4:=Lib.hid q4;unfold qv;go_wp2;refine bodyPost_ret (v:=.tuple #[.agg #[.bool (decide ((mkRat (sg g1 (a*d-c*b)) (b*d)).num<0)),.string (T (some (mkRat (sg g1 (a*d-c*b)) (b*d)).num.natAbs)),.string (T (some (mkRat (sg g1 (a*d-c*b)) (b*d)).den))],.int .i64 0]) (by simp[results,Tryz.results71,go_sem,c1,c2,c3]) rfl ⟨rfl,?_⟩
 repeat refine Below.setCell ?_ (by simp only[];omega) _
 exact hB4.out
end Nt
end
section
open Go.RowKit Go.Shelf
namespace Nt
theorem set3_other (W:World) (B b o:Nat) (x y z:Value) (h:b≠B):(((W.setCell ⟨B,0,none⟩ x).setCell ⟨B,1,none⟩ y).setCell ⟨B,2,none⟩ z).cell? ⟨b,o,none⟩=W.cell? ⟨b,o,none⟩ :=
 World.cell?_of_block (w:=W) (a:=⟨b,o,none⟩) (((Below.heap_setCell _ _ _ _ (by exact h)).trans (Below.heap_setCell _ _ _ _ (by exact h))).trans (Below.heap_setCell _ _ _ _ (by exact h)))
theorem product_any (g1 g2:Bool) (a b c d:Nat) (w:World) (hE:Env w) (ha:a<Lim) (hb:b<Lim) (hc:c<Lim) (hd:d<Lim) (hac:a*c<Lim) (hbd:b*d<Lim) (h0:b*d≠0) :
 Calls Tryz.prog 63 #[.agg #[.bool g1,.string (T (some a)),.string (T (some b))],.agg #[.bool g2,.string (T (some c)),.string (T (some d))]] w fun e w'=>e=.returned (.tuple #[qv (mkRat (sg (!(g1==g2)) (a*c)) (b*d)),.int .i64 0])∧Below w.heap.size w w':=by
 have HP:Hid (∀p∈[(a,c),(b,d)],p.1<Lim∧p.2<Lim∧p.1*p.2<Lim):=by
  intro p hp;simp only[List.mem_cons,List.not_mem_nil,or_false]at hp
  rcases hp with rfl | rfl
  · exact⟨ha,hc,hac⟩
  · exact⟨hb,hd,hbd⟩
 have hPR:Hid (PairsAt ((sumW w g1 g2 a b c d).alloc (.cells #[.string (T (some a)),.string (T (some c)),.string (T (some b)),.string (T (some d))] 131)) (w.heap.size+1+1+1) [(a,c),(b,d)]):=by
  have:=pairs2 (sumW w g1 g2 a b c d) a c b d
  rwa [show (sumW w g1 g2 a b c d).heap.size=w.heap.size+1+1+1 by simp]at this
 have hBE:Hid (Below w.heap.size w ((sumW w g1 g2 a b c d).alloc (.cells #[.string (T (some a)),.string (T (some c)),.string (T (some b)),.string (T (some d))] 131))):=(sumW_below w g1 g2 a b c d).alloc (sumW_below w g1 g2 a b c d).size _;have hQE:Hid (SumBoxes ((sumW w g1 g2 a b c d).alloc (.cells #[.string (T (some a)),.string (T (some c)),.string (T (some b)),.string (T (some d))] 131)) w.heap.size g1 g2 a b c d):=(SumBoxes.new w g1 g2 a b c d).alloc _;replace hE:=Lib.hid hE;replace h0:=Lib.hid h0;replace hac:=Lib.hid hac;replace hbd:=Lib.hid hbd;clear ha hb hc hd;go_enter Tryz.func63,Tryz.ntmps63
 go_wp2_with fail
 refine(products_any _ (hE.out.below hBE.out) (w.heap.size+1+1+1) 2 [(a,c),(b,d)] (by simp) (by simp) hPR.out HP.out).mono ?_;rintro e w1 ⟨⟨v,rfl,ho⟩,hb1⟩;have hat:TextsAt w1 v [a*c,b*d]:=tvals_at ho (by simp);obtain⟨lg,lcap,rfl,hlg,l0,l1⟩:=texts2 hat
 have hlb:w.heap.size+1+1+1<lg:=by
  have h1:=(ho.lt lg rfl).1;simp at h1;omega
 have q1:=hQE.out.below hb1;have hB1:=Lib.hid (hBE.out.trans (hb1.mono hBE.out.size));obtain⟨a1,a2,a3,a4,a5,a6⟩:=q1.1.facts;obtain⟨b1,b2,b3,b4,b5,b6⟩:=q1.2.1.facts;obtain⟨c1,c2,c3,c4,c5,c6⟩:=q1.2.2.facts;have hz1:=q1.2.2.lt;replace q1:=Lib.hid q1;clear hb1 hat ho
 go_wp2_with fail
 have hl:=fun W (h:Below w1.heap.size w1 W)=>lowest_any (!(g1==g2)) (a*c) (b*d) W (hE.out.below (hB1.out.trans (h.mono hB1.out.size))) hac.out hbd.out h0.out;simp only[qv]at hl;have q1d:Hid (SumBoxes w1.drew w.heap.size g1 g2 a b c d):=q1.out
 go_region_held3 (fun w'=>w'.cell? ⟨w.heap.size,0,none⟩=some (.bool g1)∧w'.cell? ⟨w.heap.size+1,0,none⟩=some (.bool g2)∧w'.cell? ⟨lg,0,none⟩=some (.string (T (some (a*c))))∧w'.cell? ⟨lg,1,none⟩=some (.string (T (some (b*d))))) (first | exact⟨a1,b1,l0,l1⟩ | exact⟨k1,k2,k3,k4⟩ | exact⟨(set3_other _ _ _ _ _ _ _ (by omega)).trans k1,(set3_other _ _ _ _ _ _ _ (by omega)).trans k2,(set3_other _ _ _ _ _ _ _ (by omega)).trans k3,(set3_other _ _ _ _ _ _ _ (by omega)).trans k4⟩ | go_keep)
  (first | (go_at_call 124;refine(hl _ ?_).mono ?_;(exact(Below.refl _ _).drew);rintro e w2 ⟨rfl,hb2⟩;have q2:=q1d.out.below hb2;obtain⟨c1',c2',c3',c4',c5',c6'⟩:=q2.2.2.facts;have k1:=q2.1.facts.1;have k2:=q2.2.1.facts.1;have k3:=(hb2.cell (p:=⟨lg,0,none⟩) hlg).trans l0;have k4:=(hb2.cell (p:=⟨lg,1,none⟩) hlg).trans l1))
 go_wp2;refine bodyPost_ret (v:=.tuple #[.agg #[.bool (decide ((mkRat (sg (!(g1==g2)) (a*c)) (b*d)).num<0)),.string (T (some (mkRat (sg (!(g1==g2)) (a*c)) (b*d)).num.natAbs)),.string (T (some (mkRat (sg (!(g1==g2)) (a*c)) (b*d)).den))],.int .i64 0]) (by simp[results,Tryz.results63,go_sem,c1',c2',c3']) rfl ⟨rfl,?_⟩
 repeat refine Below.setCell ?_ (by simp only[];omega) _
 exact(hB1.out.drew).trans (hb2.mono hB1.out.size)
theorem opp_any (g:Bool) (n d:ByteArray) (w:World) :
 Calls Tryz.prog 148 #[.agg #[.bool g,.string n,.string d]] w fun e w'=>e=.returned (.agg #[.bool (!g&&!(n.toList==[48])),.string n,.string d])∧Below w.heap.size w w':=by
 cases g with
 | true =>
   go_enter Tryz.func148,Tryz.ntmps148;go_wp2;refine bodyPost_ret (v:=.agg #[.bool false,.string n,.string d]) (by simp[results,Tryz.results148,go_sem]) rfl ⟨rfl,?_⟩
   repeat refine Below.setCell ?_ (by simp only[];omega) _
   exact((Below.refl _ w).alloc (Nat.le_refl _) _).alloc (by simp) _
 | false =>
   cases hz:(n.toList==[48]) with
   | true =>
     go_enter Tryz.func148,Tryz.ntmps148;go_wp2;refine bodyPost_ret (v:=.agg #[.bool false,.string n,.string d]) (by simp[results,Tryz.results148,go_sem]) rfl ⟨rfl,?_⟩
     repeat refine Below.setCell ?_ (by simp only[];omega) _
     exact((Below.refl _ w).alloc (Nat.le_refl _) _).alloc (by simp) _
   | false =>
     go_enter Tryz.func148,Tryz.ntmps148;go_wp2;refine bodyPost_ret (v:=.agg #[.bool true,.string n,.string d]) (by simp[results,Tryz.results148,go_sem]) rfl ⟨rfl,?_⟩
     repeat refine Below.setCell ?_ (by simp only[];omega) _
     exact((Below.refl _ w).alloc (Nat.le_refl _) _).alloc (by simp) _
end Nt
end
section
open Go.RowKit Go.Shelf
namespace Nt
theorem sum_q (p q:Rat) (hp:ShortQ p) (hq:ShortQ q) (w:World) (hE:Env w) :
 Calls Tryz.prog 71 #[qv p,qv q] w fun e w'=>e=.returned (.tuple #[qv (p+q),.int .i64 0])∧Below w.heap.size w w':=by
 by_cases hg:decide (p.num<0)=decide (q.num<0)
 · have h:=sumw_same (decide (p.num<0)) p.num.natAbs p.den q.num.natAbs q.den w hE hp.1 hp.2 hq.1 hq.2 p.den_nz q.den_nz;rw[sum_same rfl hg rfl rfl,add_mk]at h;have e:qv q=.agg #[.bool (decide (p.num<0)),.string (T (some q.num.natAbs)),.string (T (some q.den))]:=by rw[hg];rfl
   rw[e];exact h
 · have hne:(decide (p.num<0)==decide (q.num<0))=false:=by rw[beq_eq_false_iff_ne];exact hg
   rcases Nat.lt_or_ge (p.num.natAbs*q.den) (q.num.natAbs*p.den) with hl | hl
   · have h:=sumw_less (decide (p.num<0)) (decide (q.num<0)) p.num.natAbs p.den q.num.natAbs q.den w hE hp.1 hp.2 hq.1 hq.2 p.den_nz q.den_nz hne hl;rw[sum_less rfl rfl rfl rfl hg hl,add_mk]at h;exact h
   · have h:=sumw_more (decide (p.num<0)) (decide (q.num<0)) p.num.natAbs p.den q.num.natAbs q.den w hE hp.1 hp.2 hq.1 hq.2 p.den_nz q.den_nz hne hl;rw[sum_more rfl rfl rfl rfl hg hl,add_mk]at h;exact h
theorem product_q (p q:Rat) (hp:ShortQ p) (hq:ShortQ q) (w:World) (hE:Env w) :
 Calls Tryz.prog 63 #[qv p,qv q] w fun e w'=>e=.returned (.tuple #[qv (p*q),.int .i64 0])∧Below w.heap.size w w':=by
 have h1:=L1_mul hp.1 hq.1;have h2:=L1_mul hp.2 hq.2;have h3:=L1_sq;have h:=product_any (decide (p.num<0)) (decide (q.num<0)) p.num.natAbs p.den q.num.natAbs q.den w hE (L1_lim hp.1) (L1_lim hp.2) (L1_lim hq.1) (L1_lim hq.2) (by omega) (by omega) (Nat.mul_ne_zero p.den_nz q.den_nz);have e:=mul_mk p q;rw[show (decide (p.num<0) != decide (q.num<0))=!(decide (p.num<0)==decide (q.num<0)) from rfl]at e;rw[e]at h;exact h
theorem quotient_q (p q:Rat) (hp:ShortQ p) (hq:ShortQ q) (h0:q.num≠0) (w:World) (hE:Env w) :
 Calls Tryz.prog 63 #[qv p,.agg #[.bool (decide (q.num<0)),.string (T (some q.den)),.string (T (some q.num.natAbs))]] w fun e w'=>e=.returned (.tuple #[qv (p/q),.int .i64 0])∧Below w.heap.size w w':=by
 have h1:=L1_mul hp.1 hq.2;have h2:=L1_mul hp.2 hq.1;have h3:=L1_sq;have h:=product_any (decide (p.num<0)) (decide (q.num<0)) p.num.natAbs p.den q.den q.num.natAbs w hE (L1_lim hp.1) (L1_lim hp.2) (L1_lim hq.2) (L1_lim hq.1) (by omega) (by omega) (Nat.mul_ne_zero p.den_nz (by omega));have e:=div_mk p q;rw[show (decide (p.num<0) != decide (q.num<0))=!(decide (p.num<0)==decide (q.num<0)) from rfl]at e;rw[e]at h;exact h
theorem neg_qv (q:Rat):(.agg #[.bool (!decide (q.num<0)&&!((T (some q.num.natAbs)).toList==[48])),.string (T (some q.num.natAbs)),.string (T (some q.den))]:Value)=qv (-q):=by
 unfold qv;rw[T_is_zero];have e1:(-q).num=-q.num:=rfl;have e2:(-q).den=q.den:=rfl;rw[e1,e2,Int.natAbs_neg]
 have e3:(!decide (q.num<0)&&!decide (q.num.natAbs=0))=decide (-q.num<0):=by
  generalize q.num=z;rw[Bool.eq_iff_iff];simp;omega
 rw[e3]
theorem opp_q (q:Rat) (w:World) :
 Calls Tryz.prog 148 #[qv q] w fun e w'=>e=.returned (qv (-q))∧Below w.heap.size w w':=by
 refine(opp_any (decide (q.num<0)) (T (some q.num.natAbs)) (T (some q.den)) w).mono ?_;rintro e w' ⟨rfl,hb⟩;exact⟨by rw[neg_qv],hb⟩
theorem ShortQ.neg {q:Rat} (h:ShortQ q):ShortQ (-q):=⟨by show (-q.num).natAbs<L1;rw[Int.natAbs_neg];exact h.1,h.2⟩
abbrev twoW (w:World) (g1 g2:Bool) (n1 d1 n2 d2:ByteArray):World :=
 ((w.alloc (.cells #[.bool g1,.string n1,.string d1] 37)).alloc (.cells #[.bool g2,.string n2,.string d2] 37)).alloc (.cells #[.bool false,.string ⟨#[]⟩,.string ⟨#[]⟩] 37)
def TwoBoxes (W:World) (B:Nat) (g1 g2:Bool) (n1 d1 n2 d2:ByteArray):Prop:=B3 W B g1 n1 d1∧B3 W (B+1) g2 n2 d2∧B3 W (B+1+1) false ⟨#[]⟩ ⟨#[]⟩
theorem TwoBoxes.new (w:World) (g1 g2:Bool) (n1 d1 n2 d2:ByteArray):TwoBoxes (twoW w g1 g2 n1 d1 n2 d2) w.heap.size g1 g2 n1 d1 n2 d2:=by
 have e1:(w.alloc (.cells #[.bool g1,.string n1,.string d1] 37)).heap.size=w.heap.size+1:=by simp
 have e2:((w.alloc (.cells #[.bool g1,.string n1,.string d1] 37)).alloc (.cells #[.bool g2,.string n2,.string d2] 37)).heap.size=w.heap.size+1+1:=by simp
 refine⟨((B3.new w _ _ _).alloc _).alloc _,?_,?_⟩
 · have h:=B3.new (w.alloc (.cells #[.bool g1,.string n1,.string d1] 37)) g2 n2 d2;rw[e1]at h;exact h.alloc _
 · have h:=B3.new ((w.alloc (.cells #[.bool g1,.string n1,.string d1] 37)).alloc (.cells #[.bool g2,.string n2,.string d2] 37)) false ⟨#[]⟩ ⟨#[]⟩;rw[e2]at h;exact h
theorem twoW_below (w:World) (g1 g2:Bool) (n1 d1 n2 d2:ByteArray):Below w.heap.size w (twoW w g1 g2 n1 d1 n2 d2) :=
 (((Below.refl _ w).alloc (Nat.le_refl _) _).alloc (by simp) _).alloc (by simp;omega) _
theorem TwoBoxes.below {W W':World} {B:Nat} {g1 g2:Bool} {n1 d1 n2 d2:ByteArray} (h:TwoBoxes W B g1 g2 n1 d1 n2 d2) (hb:Below W.heap.size W W'):TwoBoxes W' B g1 g2 n1 d1 n2 d2:=⟨h.1.below hb,h.2.1.below hb,h.2.2.below hb⟩
theorem divc_q (p q:Rat) (hp:ShortQ p) (hq:ShortQ q) (h0:q.num≠0) (w:World) (hE:Env w) :
 Calls Tryz.prog 146 #[qv p,qv q] w fun e w'=>e=.returned (.tuple #[qv (p/q),.int .i64 0])∧Below w.heap.size w w':=by
 have hc:=fun W (h:Env W)=>quotient_q p q hp hq h0 W h;have hQE:=Lib.hid (TwoBoxes.new w (decide (p.num<0)) (decide (q.num<0)) (T (some p.num.natAbs)) (T (some p.den)) (T (some q.num.natAbs)) (T (some q.den)));have hBE:=Lib.hid (twoW_below w (decide (p.num<0)) (decide (q.num<0)) (T (some p.num.natAbs)) (T (some p.den)) (T (some q.num.natAbs)) (T (some q.den)));simp only[qv]at hc ⊢;replace hE:=Lib.hid hE;replace hc:=Lib.hid hc;clear hp hq h0;go_enter Tryz.func146,Tryz.ntmps146
 go_wp2_with fail
 refine(hc.out _ (hE.out.below hBE.out)).mono ?_;rintro e w1 ⟨rfl,hb1⟩;have q1:=hQE.out.below hb1;have hB1:=Lib.hid (hBE.out.trans (hb1.mono hBE.out.size));obtain⟨c1,c2,c3,c4,c5,c6⟩:=q1.2.2.facts;have hz1:=q1.2.2.lt;clear hb1;replace q1:=Lib.hid q1;go_wp2;refine bodyPost_ret (v:=.tuple #[.agg #[.bool (decide ((p/q).num<0)),.string (T (some (p/q).num.natAbs)),.string (T (some (p/q).den))],.int .i64 0]) (by simp[results,Tryz.results146,go_sem,c1,c2,c3]) rfl ⟨rfl,?_⟩
 repeat refine Below.setCell ?_ (by simp only[];omega) _
 exact hB1.out
theorem TwoBoxes.six {W:World} {B:Nat} {g1 g2:Bool} {n1 d1 n2 d2:ByteArray} (h:TwoBoxes W B g1 g2 n1 d1 n2 d2) :
 W.cell? ⟨B,0,none⟩=some (.bool g1)∧W.cell? ⟨B,1,none⟩=some (.string n1)∧W.cell? ⟨B,2,none⟩=some (.string d1) ∧
 W.cell? ⟨B+1,0,none⟩=some (.bool g2)∧W.cell? ⟨B+1,1,none⟩=some (.string n2)∧W.cell? ⟨B+1,2,none⟩=some (.string d2) :=
 ⟨h.1.facts.1,h.1.facts.2.1,h.1.facts.2.2.1,h.2.1.facts.1,h.2.1.facts.2.1,h.2.1.facts.2.2.1⟩
theorem TwoBoxes.six_set {W:World} {B:Nat} {g1 g2:Bool} {n1 d1 n2 d2:ByteArray} (h:TwoBoxes W B g1 g2 n1 d1 n2 d2) (x y z:Value) :
 (((W.setCell ⟨B+1+1,0,none⟩ x).setCell ⟨B+1+1,1,none⟩ y).setCell ⟨B+1+1,2,none⟩ z).cell? ⟨B,0,none⟩=some (.bool g1)∧(((W.setCell ⟨B+1+1,0,none⟩ x).setCell ⟨B+1+1,1,none⟩ y).setCell ⟨B+1+1,2,none⟩ z).cell? ⟨B,1,none⟩=some (.string n1)∧(((W.setCell ⟨B+1+1,0,none⟩ x).setCell ⟨B+1+1,1,none⟩ y).setCell ⟨B+1+1,2,none⟩ z).cell? ⟨B,2,none⟩=some (.string d1) ∧
 (((W.setCell ⟨B+1+1,0,none⟩ x).setCell ⟨B+1+1,1,none⟩ y).setCell ⟨B+1+1,2,none⟩ z).cell? ⟨B+1,0,none⟩=some (.bool g2)∧(((W.setCell ⟨B+1+1,0,none⟩ x).setCell ⟨B+1+1,1,none⟩ y).setCell ⟨B+1+1,2,none⟩ z).cell? ⟨B+1,1,none⟩=some (.string n2)∧(((W.setCell ⟨B+1+1,0,none⟩ x).setCell ⟨B+1+1,1,none⟩ y).setCell ⟨B+1+1,2,none⟩ z).cell? ⟨B+1,2,none⟩=some (.string d2):=by
 obtain⟨h1,h2,h3,h4,h5,h6⟩:=h.six;exact⟨(set3_other _ _ _ _ _ _ _ (by omega)).trans h1,(set3_other _ _ _ _ _ _ _ (by omega)).trans h2,(set3_other _ _ _ _ _ _ _ (by omega)).trans h3,(set3_other _ _ _ _ _ _ _ (by omega)).trans h4,(set3_other _ _ _ _ _ _ _ (by omega)).trans h5,(set3_other _ _ _ _ _ _ _ (by omega)).trans h6⟩
theorem subc_w (g1 g2 g3:Bool) (n1 d1 n2 d2:ByteArray) (r:Bool) (n d:ByteArray) (E:Int) (w:World) (hE:Env w)
 (ho:∀W,Calls Tryz.prog 148 #[.agg #[.bool g2,.string n2,.string d2]] W fun e w'=>e=.returned (.agg #[.bool g3,.string n2,.string d2])∧Below W.heap.size W w')
 (hc:∀W,Env W→Calls Tryz.prog 71 #[.agg #[.bool g1,.string n1,.string d1],.agg #[.bool g3,.string n2,.string d2]] W fun e w'=>e=.returned (.tuple #[.agg #[.bool r,.string n,.string d],.int .i64 E])∧Below W.heap.size W w') :
 Calls Tryz.prog 147 #[.agg #[.bool g1,.string n1,.string d1],.agg #[.bool g2,.string n2,.string d2]] w fun e w'=>e=.returned (.tuple #[.agg #[.bool r,.string n,.string d],.int .i64 E])∧Below w.heap.size w w':=by
 have hQE:=Lib.hid (TwoBoxes.new w g1 g2 n1 d1 n2 d2);have hBE:=Lib.hid (twoW_below w g1 g2 n1 d1 n2 d2);obtain⟨W0,hW0⟩:∃W0,W0=twoW w g1 g2 n1 d1 n2 d2:=⟨_,rfl⟩;rw[←hW0]at hQE hBE;simp only[twoW]at hW0;have q0d:Hid (TwoBoxes W0.drew w.heap.size g1 g2 n1 d1 n2 d2):=hQE.out;have hB0:Hid (Below w.heap.size w W0.drew):=hBE.out.drew;replace hE:=Lib.hid hE;replace hW0:=Lib.hid hW0;replace ho:=Lib.hid ho;replace hc:=Lib.hid hc;go_enter Tryz.func147,Tryz.ntmps147
 go_wp2_with fail
 rw[←hW0.out];obtain⟨a1,a2,a3,b1,b2,b3⟩:=hQE.out.six
 go_region_held3 (fun w'=>w'.cell? ⟨w.heap.size,0,none⟩=some (.bool g1)∧w'.cell? ⟨w.heap.size,1,none⟩=some (.string n1)∧w'.cell? ⟨w.heap.size,2,none⟩=some (.string d1)∧w'.cell? ⟨w.heap.size+1,0,none⟩=some (.bool g2)∧w'.cell? ⟨w.heap.size+1,1,none⟩=some (.string n2)∧w'.cell? ⟨w.heap.size+1,2,none⟩=some (.string d2)) (first | (with_reducible exact hQE.out.six) | (with_reducible exact q0d.out.six) | (with_reducible exact q2.out.six) | (with_reducible exact q3.out.six) | (with_reducible exact q3.out.six_set _ _ _) | go_keep)
  (first
    | (go_at_call 148;refine(ho.out _).mono ?_;rintro e w2 ⟨rfl,hb2⟩;have q2:=Lib.hid (q0d.out.below hb2);have hB2:=Lib.hid (hB0.out.trans (hb2.mono hB0.out.size));clear hb2)
    | (go_at_call 71;refine(hc.out _ ?_).mono ?_;(exact hE.out.below hB2.out);rintro e w3 ⟨rfl,hb3⟩;have q3:=Lib.hid (q2.out.below hb3);obtain⟨c1,c2,c3,c4,c5,c6⟩:=q3.out.2.2.facts;have hB3:=Lib.hid (hB2.out.trans (hb3.mono hB2.out.size));clear hb3))
 go_wp2;refine bodyPost_ret (v:=.tuple #[.agg #[.bool r,.string n,.string d],.int .i64 E]) (by simp[results,Tryz.results147,go_sem,c1,c2,c3]) rfl ⟨rfl,?_⟩
 repeat refine Below.setCell ?_ (by simp only[];omega) _
 exact hB3.out
theorem subc_q (p q:Rat) (hp:ShortQ p) (hq:ShortQ q) (w:World) (hE:Env w) :
 Calls Tryz.prog 147 #[qv p,qv q] w fun e w'=>e=.returned (.tuple #[qv (p-q),.int .i64 0])∧Below w.heap.size w w':=by
 have hc:=fun W (h:Env W)=>sum_q p (-q) hp hq.neg W h;rw[←Rat.sub_eq_add_neg]at hc;have ho:=fun W=>opp_q q W
 have e:qv (-q)=.agg #[.bool (decide ((-q).num<0)),.string (T (some q.num.natAbs)),.string (T (some q.den))]:=by
  unfold qv;rw[show (-q).num.natAbs=q.num.natAbs from Int.natAbs_neg _];rfl
 rw[e]at hc ho;exact subc_w _ _ _ _ _ _ _ _ _ _ _ w hE ho hc
end Nt
end
section
open Go.RowKit Go.Shelf
namespace Nt
def B2 (W:World) (b:Nat) (z:Bool) (f:Nat):Prop:=W.heap[b]? = some (.cells #[.bool z,.func (.func f) #[] #[]] 82 (0,0))
theorem B2.lt {W:World} {b:Nat} {z:Bool} {f:Nat} (h:B2 W b z f):b<W.heap.size:=(Array.getElem?_eq_some_iff.1 h).1
theorem B2.facts {W:World} {b:Nat} {z:Bool} {f:Nat} (h:B2 W b z f):W.cell? ⟨b,0,none⟩=some (.bool z)∧W.cell? ⟨b,1,none⟩=some (.func (.func f) #[] #[]):=by
 unfold B2 at h;simp[World.cell?,h]
theorem B2.below {W W':World} {b:Nat} {z:Bool} {f:Nat} (h:B2 W b z f) (hb:Below W.heap.size W W'):B2 W' b z f:=(hb.block b h.lt).trans h
def RunBoxes (W:World) (B:Nat) (z:Bool) (f:Nat) (g1 g2:Bool) (n1 d1 n2 d2:ByteArray):Prop :=
 B2 W B z f∧B3 W (B+1) g1 n1 d1∧B3 W (B+2) g2 n2 d2∧B3 W (B+3) false ⟨#[]⟩ ⟨#[]⟩
theorem RunBoxes.new (w:World) (z:Bool) (f:Nat) (g1 g2:Bool) (n1 d1 n2 d2:ByteArray) :
 RunBoxes ((((w.alloc (.cells #[.bool z,.func (.func f) #[] #[]] 82)).alloc (.cells #[.bool g1,.string n1,.string d1] 37)).alloc (.cells #[.bool g2,.string n2,.string d2] 37)).alloc (.cells #[.bool false,.string ⟨#[]⟩,.string ⟨#[]⟩] 37)) w.heap.size z f g1 g2 n1 d1 n2 d2:=by
 have e1:(w.alloc (.cells #[.bool z,.func (.func f) #[] #[]] 82)).heap.size=w.heap.size+1:=by simp
 have e2:((w.alloc (.cells #[.bool z,.func (.func f) #[] #[]] 82)).alloc (.cells #[.bool g1,.string n1,.string d1] 37)).heap.size=w.heap.size+2:=by simp
 have e3:(((w.alloc (.cells #[.bool z,.func (.func f) #[] #[]] 82)).alloc (.cells #[.bool g1,.string n1,.string d1] 37)).alloc (.cells #[.bool g2,.string n2,.string d2] 37)).heap.size=w.heap.size+3:=by simp
 refine⟨?_,?_,?_,?_⟩
 · unfold B2;rw[Below.heap_alloc _ _ _ (by rw[e3];omega),Below.heap_alloc _ _ _ (by rw[e2];omega),Below.heap_alloc _ _ _ (by rw[e1];omega)];exact heap_alloc_new _ _
 · have h:=B3.new (w.alloc (.cells #[.bool z,.func (.func f) #[] #[]] 82)) g1 n1 d1;rw[e1]at h;exact(h.alloc _).alloc _
 · have h:=B3.new ((w.alloc (.cells #[.bool z,.func (.func f) #[] #[]] 82)).alloc (.cells #[.bool g1,.string n1,.string d1] 37)) g2 n2 d2;rw[e2]at h;exact h.alloc _
 · have h:=B3.new (((w.alloc (.cells #[.bool z,.func (.func f) #[] #[]] 82)).alloc (.cells #[.bool g1,.string n1,.string d1] 37)).alloc (.cells #[.bool g2,.string n2,.string d2] 37)) false ⟨#[]⟩ ⟨#[]⟩;rw[e3]at h;exact h
theorem RunBoxes.below {W W':World} {B:Nat} {z:Bool} {f:Nat} {g1 g2:Bool} {n1 d1 n2 d2:ByteArray} (h:RunBoxes W B z f g1 g2 n1 d1 n2 d2) (hb:Below W.heap.size W W'):RunBoxes W' B z f g1 g2 n1 d1 n2 d2 :=
 ⟨h.1.below hb,h.2.1.below hb,h.2.2.1.below hb,h.2.2.2.below hb⟩
theorem four_below (w:World) (o1 o2 o3 o4:Obj):Below w.heap.size w ((((w.alloc o1).alloc o2).alloc o3).alloc o4) :=
 ((((Below.refl _ w).alloc (Nat.le_refl _) _).alloc (by simp) _).alloc (by simp;omega) _).alloc (by simp;omega) _
theorem run_bad1 (z:Bool) (f:Nat) (g1 g2:Bool) (n1 d1 n2 d2:ByteArray) (w:World) (hE:Env w) (s1:n1.size≤140737488355328) (s2:d1.size≤140737488355328) (_s3:n2.size≤140737488355328) (_s4:d2.size≤140737488355328) (v1:validB g1 n1 d1=false) :
 Calls Tryz.prog 64 #[.agg #[.bool z,.func (.func f) #[] #[]],.agg #[.bool g1,.string n1,.string d1],.agg #[.bool g2,.string n2,.string d2]] w fun e w'=>e=.returned (.tuple #[.agg #[.bool false,.string ⟨#[]⟩,.string ⟨#[]⟩],.int .i64 1])∧Below w.heap.size w w':=by
 have V1:=Lib.hid v1;clear v1;replace hE:=Lib.hid hE;go_enter Tryz.func64,Tryz.ntmps64
 go_wp2_with fail
 refine(Valid_any g1 n1 d1 _ (hE.out.below (four_below w _ _ _ _)) s1 s2).mono ?_;rintro e w1 ⟨rfl,hb1⟩;rw[V1.out];have q1:=(RunBoxes.new w z f g1 g2 n1 d1 n2 d2).below hb1;have hB1:=Lib.hid ((four_below w _ _ _ _).trans (hb1.mono (four_below w _ _ _ _).size));obtain⟨a1,a2⟩:=q1.1.facts;obtain⟨b1,b2,b3,b4,b5,b6⟩:=q1.2.1.facts;obtain⟨c1,c2,c3,c4,c5,c6⟩:=q1.2.2.1.facts;obtain⟨d1',d2',d3,d4,d5,d6⟩:=q1.2.2.2.facts;have hz1:=q1.2.2.2.lt;replace q1:=Lib.hid q1;clear hb1;go_wp2;refine bodyPost_ret (v:=.tuple #[.agg #[.bool false,.string ⟨#[]⟩,.string ⟨#[]⟩],.int .i64 1]) (by simp[results,Tryz.results64,go_sem,d1',d2',d3]) rfl ⟨rfl,?_⟩
 repeat refine Below.setCell ?_ (by simp only[];omega) _
 exact hB1.out
theorem run_bad2 (z:Bool) (f:Nat) (g1 g2:Bool) (n1 d1 n2 d2:ByteArray) (w:World) (hE:Env w) (s1:n1.size≤140737488355328) (s2:d1.size≤140737488355328) (s3:n2.size≤140737488355328) (s4:d2.size≤140737488355328) (v1:validB g1 n1 d1=true) (v2:validB g2 n2 d2=false) :
 Calls Tryz.prog 64 #[.agg #[.bool z,.func (.func f) #[] #[]],.agg #[.bool g1,.string n1,.string d1],.agg #[.bool g2,.string n2,.string d2]] w fun e w'=>e=.returned (.tuple #[.agg #[.bool false,.string ⟨#[]⟩,.string ⟨#[]⟩],.int .i64 1])∧Below w.heap.size w w':=by
 have V1:=Lib.hid v1;clear v1;have V2:=Lib.hid v2;clear v2;replace hE:=Lib.hid hE;go_enter Tryz.func64,Tryz.ntmps64
 go_wp2_with fail
 refine(Valid_any g1 n1 d1 _ (hE.out.below (four_below w _ _ _ _)) s1 s2).mono ?_;rintro e w1 ⟨rfl,hb1⟩;rw[V1.out];have q1:=(RunBoxes.new w z f g1 g2 n1 d1 n2 d2).below hb1;have hB1:=Lib.hid ((four_below w _ _ _ _).trans (hb1.mono (four_below w _ _ _ _).size));obtain⟨a1,a2⟩:=q1.1.facts;obtain⟨b1,b2,b3,b4,b5,b6⟩:=q1.2.1.facts;obtain⟨c1,c2,c3,c4,c5,c6⟩:=q1.2.2.1.facts;obtain⟨d1',d2',d3,d4,d5,d6⟩:=q1.2.2.2.facts;have hz1:=q1.2.2.2.lt;replace q1:=Lib.hid q1;clear hb1
 go_wp2_with fail
 refine(Valid_any g2 n2 d2 _ (hE.out.below hB1.out) s3 s4).mono ?_;rintro e w2 ⟨rfl,hb2⟩;rw[V2.out];have q2:=q1.out.below hb2;have hB2:=Lib.hid (hB1.out.trans (hb2.mono hB1.out.size));clear a1 a2 b1 b2 b3 b4 b5 b6 c1 c2 c3 c4 c5 c6 d1' d2' d3 d4 d5 d6 hb2 q1;obtain⟨a1,a2⟩:=q2.1.facts;obtain⟨b1,b2,b3,b4,b5,b6⟩:=q2.2.1.facts;obtain⟨c1,c2,c3,c4,c5,c6⟩:=q2.2.2.1.facts;obtain⟨d1',d2',d3,d4,d5,d6⟩:=q2.2.2.2.facts;have hz2:=q2.2.2.2.lt;replace q2:=Lib.hid q2;go_wp2;refine bodyPost_ret (v:=.tuple #[.agg #[.bool false,.string ⟨#[]⟩,.string ⟨#[]⟩],.int .i64 1]) (by simp[results,Tryz.results64,go_sem,d1',d2',d3]) rfl ⟨rfl,?_⟩
 repeat refine Below.setCell ?_ (by simp only[];omega) _
 exact hB2.out
theorem run_long (z:Bool) (f:Nat) (g1 g2:Bool) (n1 d1 n2 d2:ByteArray) (w:World) (hE:Env w) (s1:n1.size≤140737488355328) (s2:d1.size≤140737488355328) (s3:n2.size≤140737488355328) (s4:d2.size≤140737488355328) (v1:validB g1 n1 d1=true) (v2:validB g2 n2 d2=true) (hz:z=false∨(z=true∧(n2.toList==[48])=false)) (hl:¬(n1.size≤140∧d1.size≤140∧n2.size≤140∧d2.size≤140)) :
 Calls Tryz.prog 64 #[.agg #[.bool z,.func (.func f) #[] #[]],.agg #[.bool g1,.string n1,.string d1],.agg #[.bool g2,.string n2,.string d2]] w fun e w'=>e=.returned (.tuple #[.agg #[.bool false,.string ⟨#[]⟩,.string ⟨#[]⟩],.int .i64 2])∧Below w.heap.size w w':=by
 have V1:=Lib.hid v1;clear v1;have V2:=Lib.hid v2;clear v2
 rcases hz with rfl | ⟨rfl,h0⟩
 all_goals
 have hk:140<n1.size∨(n1.size≤140∧140<d1.size)∨(n1.size≤140∧d1.size≤140∧140<n2.size)∨(n1.size≤140∧d1.size≤140∧n2.size≤140∧140<d2.size):=by omega
 clear hl
 rcases hk with l1 | ⟨l1,l2⟩ | ⟨l1,l2,l3⟩ | ⟨l1,l2,l3,l4⟩
 all_goals
  replace hE:=Lib.hid hE;go_enter Tryz.func64,Tryz.ntmps64
  go_wp2_with fail
  refine(Valid_any g1 n1 d1 _ (hE.out.below (four_below w _ _ _ _)) s1 s2).mono ?_;rintro e w1 ⟨rfl,hb1⟩;rw[V1.out];have q1:=(RunBoxes.new w _ f g1 g2 n1 d1 n2 d2).below hb1;have hB1:=Lib.hid ((four_below w _ _ _ _).trans (hb1.mono (four_below w _ _ _ _).size));obtain⟨a1,a2⟩:=q1.1.facts;obtain⟨b1,b2,b3,b4,b5,b6⟩:=q1.2.1.facts;obtain⟨c1,c2,c3,c4,c5,c6⟩:=q1.2.2.1.facts;obtain⟨d1',d2',d3,d4,d5,d6⟩:=q1.2.2.2.facts;have hz1:=q1.2.2.2.lt;replace q1:=Lib.hid q1;clear hb1
  go_wp2_with fail
  refine(Valid_any g2 n2 d2 _ (hE.out.below hB1.out) s3 s4).mono ?_;rintro e w2 ⟨rfl,hb2⟩;rw[V2.out];have q2:=q1.out.below hb2;have hB2:=Lib.hid (hB1.out.trans (hb2.mono hB1.out.size));clear a1 a2 b1 b2 b3 b4 b5 b6 c1 c2 c3 c4 c5 c6 d1' d2' d3 d4 d5 d6 hb2 q1;obtain⟨a1,a2⟩:=q2.1.facts;obtain⟨b1,b2,b3,b4,b5,b6⟩:=q2.2.1.facts;obtain⟨c1,c2,c3,c4,c5,c6⟩:=q2.2.2.1.facts;obtain⟨d1',d2',d3,d4,d5,d6⟩:=q2.2.2.2.facts;have hz2:=q2.2.2.2.lt;replace q2:=Lib.hid q2;go_wp2;refine bodyPost_ret (v:=.tuple #[.agg #[.bool false,.string ⟨#[]⟩,.string ⟨#[]⟩],.int .i64 2]) (by simp[results,Tryz.results64,go_sem,d1',d2',d3]) rfl ⟨rfl,?_⟩
  repeat refine Below.setCell ?_ (by simp only[];omega) _
  exact hB2.out
theorem run_sum (g1 g2:Bool) (n1 d1 n2 d2:ByteArray) (w:World) (hE:Env w) (s1:n1.size≤140737488355328) (s2:d1.size≤140737488355328) (s3:n2.size≤140737488355328) (s4:d2.size≤140737488355328) (v1:validB g1 n1 d1=true) (v2:validB g2 n2 d2=true) (l1:n1.size≤140) (l2:d1.size≤140) (l3:n2.size≤140) (l4:d2.size≤140) (r:Bool) (n d:ByteArray) (E:Int)
 (hf:∀W,Env W→Calls Tryz.prog 71 #[.agg #[.bool g1,.string n1,.string d1],.agg #[.bool g2,.string n2,.string d2]] W fun e w'=>e=.returned (.tuple #[.agg #[.bool r,.string n,.string d],.int .i64 E])∧Below W.heap.size W w') :
 Calls Tryz.prog 64 #[.agg #[.bool false,.func (.func 71) #[] #[]],.agg #[.bool g1,.string n1,.string d1],.agg #[.bool g2,.string n2,.string d2]] w fun e w'=>e=.returned (.tuple #[.agg #[.bool r,.string n,.string d],.int .i64 E])∧Below w.heap.size w w':=by
 have V1:=Lib.hid v1;clear v1;have V2:=Lib.hid v2;clear v2;have HF:=Lib.hid hf;clear hf;replace hE:=Lib.hid hE;go_enter Tryz.func64,Tryz.ntmps64
 go_wp2_with fail
 refine(Valid_any g1 n1 d1 _ (hE.out.below (four_below w _ _ _ _)) s1 s2).mono ?_;rintro e w1 ⟨rfl,hb1⟩;rw[V1.out];have q1:=(RunBoxes.new w _ _ g1 g2 n1 d1 n2 d2).below hb1;have hB1:=Lib.hid ((four_below w _ _ _ _).trans (hb1.mono (four_below w _ _ _ _).size));obtain⟨a1,a2⟩:=q1.1.facts;obtain⟨b1,b2,b3,b4,b5,b6⟩:=q1.2.1.facts;obtain⟨c1,c2,c3,c4,c5,c6⟩:=q1.2.2.1.facts;obtain⟨d1',d2',d3,d4,d5,d6⟩:=q1.2.2.2.facts;have hz1:=q1.2.2.2.lt;replace q1:=Lib.hid q1;clear hb1
 go_wp2_with fail
 refine(Valid_any g2 n2 d2 _ (hE.out.below hB1.out) s3 s4).mono ?_;rintro e w2 ⟨rfl,hb2⟩;rw[V2.out];have q2:=q1.out.below hb2;have hB2:=Lib.hid (hB1.out.trans (hb2.mono hB1.out.size));clear a1 a2 b1 b2 b3 b4 b5 b6 c1 c2 c3 c4 c5 c6 d1' d2' d3 d4 d5 d6 hb2 q1;obtain⟨a1,a2⟩:=q2.1.facts;obtain⟨b1,b2,b3,b4,b5,b6⟩:=q2.2.1.facts;obtain⟨c1,c2,c3,c4,c5,c6⟩:=q2.2.2.1.facts;obtain⟨d1',d2',d3,d4,d5,d6⟩:=q2.2.2.2.facts;have hz2:=q2.2.2.2.lt;replace q2:=Lib.hid q2
 go_wp2_with fail
 refine(HF.out _ (hE.out.below hB2.out)).mono ?_;rintro e w3 ⟨rfl,hb3⟩;have q3:=q2.out.below hb3;have hB3:=Lib.hid (hB2.out.trans (hb3.mono hB2.out.size));clear a1 a2 b1 b2 b3 b4 b5 b6 c1 c2 c3 c4 c5 c6 d1' d2' d3 d4 d5 d6 hb3 q2;obtain⟨d1',d2',d3,d4,d5,d6⟩:=q3.2.2.2.facts;have hz3:=q3.2.2.2.lt;replace q3:=Lib.hid q3;go_wp2;refine bodyPost_ret (v:=.tuple #[.agg #[.bool r,.string n,.string d],.int .i64 E]) (by simp[results,Tryz.results64,go_sem,d1',d2',d3]) rfl ⟨rfl,?_⟩
 repeat refine Below.setCell ?_ (by simp only[];omega) _
 exact hB3.out
theorem run_sub (g1 g2:Bool) (n1 d1 n2 d2:ByteArray) (w:World) (hE:Env w) (s1:n1.size≤140737488355328) (s2:d1.size≤140737488355328) (s3:n2.size≤140737488355328) (s4:d2.size≤140737488355328) (v1:validB g1 n1 d1=true) (v2:validB g2 n2 d2=true) (l1:n1.size≤140) (l2:d1.size≤140) (l3:n2.size≤140) (l4:d2.size≤140) (r:Bool) (n d:ByteArray) (E:Int)
 (hf:∀W,Env W→Calls Tryz.prog 147 #[.agg #[.bool g1,.string n1,.string d1],.agg #[.bool g2,.string n2,.string d2]] W fun e w'=>e=.returned (.tuple #[.agg #[.bool r,.string n,.string d],.int .i64 E])∧Below W.heap.size W w') :
 Calls Tryz.prog 64 #[.agg #[.bool false,.func (.func 147) #[] #[]],.agg #[.bool g1,.string n1,.string d1],.agg #[.bool g2,.string n2,.string d2]] w fun e w'=>e=.returned (.tuple #[.agg #[.bool r,.string n,.string d],.int .i64 E])∧Below w.heap.size w w':=by
 have V1:=Lib.hid v1;clear v1;have V2:=Lib.hid v2;clear v2;have HF:=Lib.hid hf;clear hf;replace hE:=Lib.hid hE;go_enter Tryz.func64,Tryz.ntmps64
 go_wp2_with fail
 refine(Valid_any g1 n1 d1 _ (hE.out.below (four_below w _ _ _ _)) s1 s2).mono ?_;rintro e w1 ⟨rfl,hb1⟩;rw[V1.out];have q1:=(RunBoxes.new w _ _ g1 g2 n1 d1 n2 d2).below hb1;have hB1:=Lib.hid ((four_below w _ _ _ _).trans (hb1.mono (four_below w _ _ _ _).size));obtain⟨a1,a2⟩:=q1.1.facts;obtain⟨b1,b2,b3,b4,b5,b6⟩:=q1.2.1.facts;obtain⟨c1,c2,c3,c4,c5,c6⟩:=q1.2.2.1.facts;obtain⟨d1',d2',d3,d4,d5,d6⟩:=q1.2.2.2.facts;have hz1:=q1.2.2.2.lt;replace q1:=Lib.hid q1;clear hb1
 go_wp2_with fail
 refine(Valid_any g2 n2 d2 _ (hE.out.below hB1.out) s3 s4).mono ?_;rintro e w2 ⟨rfl,hb2⟩;rw[V2.out];have q2:=q1.out.below hb2;have hB2:=Lib.hid (hB1.out.trans (hb2.mono hB1.out.size));clear a1 a2 b1 b2 b3 b4 b5 b6 c1 c2 c3 c4 c5 c6 d1' d2' d3 d4 d5 d6 hb2 q1;obtain⟨a1,a2⟩:=q2.1.facts;obtain⟨b1,b2,b3,b4,b5,b6⟩:=q2.2.1.facts;obtain⟨c1,c2,c3,c4,c5,c6⟩:=q2.2.2.1.facts;obtain⟨d1',d2',d3,d4,d5,d6⟩:=q2.2.2.2.facts;have hz2:=q2.2.2.2.lt;replace q2:=Lib.hid q2
 go_wp2_with fail
 refine(HF.out _ (hE.out.below hB2.out)).mono ?_;rintro e w3 ⟨rfl,hb3⟩;have q3:=q2.out.below hb3;have hB3:=Lib.hid (hB2.out.trans (hb3.mono hB2.out.size));clear a1 a2 b1 b2 b3 b4 b5 b6 c1 c2 c3 c4 c5 c6 d1' d2' d3 d4 d5 d6 hb3 q2;obtain⟨d1',d2',d3,d4,d5,d6⟩:=q3.2.2.2.facts;have hz3:=q3.2.2.2.lt;replace q3:=Lib.hid q3;go_wp2;refine bodyPost_ret (v:=.tuple #[.agg #[.bool r,.string n,.string d],.int .i64 E]) (by simp[results,Tryz.results64,go_sem,d1',d2',d3]) rfl ⟨rfl,?_⟩
 repeat refine Below.setCell ?_ (by simp only[];omega) _
 exact hB3.out
theorem run_product (g1 g2:Bool) (n1 d1 n2 d2:ByteArray) (w:World) (hE:Env w) (s1:n1.size≤140737488355328) (s2:d1.size≤140737488355328) (s3:n2.size≤140737488355328) (s4:d2.size≤140737488355328) (v1:validB g1 n1 d1=true) (v2:validB g2 n2 d2=true) (l1:n1.size≤140) (l2:d1.size≤140) (l3:n2.size≤140) (l4:d2.size≤140) (r:Bool) (n d:ByteArray) (E:Int)
 (hf:∀W,Env W→Calls Tryz.prog 63 #[.agg #[.bool g1,.string n1,.string d1],.agg #[.bool g2,.string n2,.string d2]] W fun e w'=>e=.returned (.tuple #[.agg #[.bool r,.string n,.string d],.int .i64 E])∧Below W.heap.size W w') :
 Calls Tryz.prog 64 #[.agg #[.bool false,.func (.func 63) #[] #[]],.agg #[.bool g1,.string n1,.string d1],.agg #[.bool g2,.string n2,.string d2]] w fun e w'=>e=.returned (.tuple #[.agg #[.bool r,.string n,.string d],.int .i64 E])∧Below w.heap.size w w':=by
 have V1:=Lib.hid v1;clear v1;have V2:=Lib.hid v2;clear v2;have HF:=Lib.hid hf;clear hf;replace hE:=Lib.hid hE;go_enter Tryz.func64,Tryz.ntmps64
 go_wp2_with fail
 refine(Valid_any g1 n1 d1 _ (hE.out.below (four_below w _ _ _ _)) s1 s2).mono ?_;rintro e w1 ⟨rfl,hb1⟩;rw[V1.out];have q1:=(RunBoxes.new w _ _ g1 g2 n1 d1 n2 d2).below hb1;have hB1:=Lib.hid ((four_below w _ _ _ _).trans (hb1.mono (four_below w _ _ _ _).size));obtain⟨a1,a2⟩:=q1.1.facts;obtain⟨b1,b2,b3,b4,b5,b6⟩:=q1.2.1.facts;obtain⟨c1,c2,c3,c4,c5,c6⟩:=q1.2.2.1.facts;obtain⟨d1',d2',d3,d4,d5,d6⟩:=q1.2.2.2.facts;have hz1:=q1.2.2.2.lt;replace q1:=Lib.hid q1;clear hb1
 go_wp2_with fail
 refine(Valid_any g2 n2 d2 _ (hE.out.below hB1.out) s3 s4).mono ?_;rintro e w2 ⟨rfl,hb2⟩;rw[V2.out];have q2:=q1.out.below hb2;have hB2:=Lib.hid (hB1.out.trans (hb2.mono hB1.out.size));clear a1 a2 b1 b2 b3 b4 b5 b6 c1 c2 c3 c4 c5 c6 d1' d2' d3 d4 d5 d6 hb2 q1;obtain⟨a1,a2⟩:=q2.1.facts;obtain⟨b1,b2,b3,b4,b5,b6⟩:=q2.2.1.facts;obtain⟨c1,c2,c3,c4,c5,c6⟩:=q2.2.2.1.facts;obtain⟨d1',d2',d3,d4,d5,d6⟩:=q2.2.2.2.facts;have hz2:=q2.2.2.2.lt;replace q2:=Lib.hid q2
 go_wp2_with fail
 refine(HF.out _ (hE.out.below hB2.out)).mono ?_;rintro e w3 ⟨rfl,hb3⟩;have q3:=q2.out.below hb3;have hB3:=Lib.hid (hB2.out.trans (hb3.mono hB2.out.size));clear a1 a2 b1 b2 b3 b4 b5 b6 c1 c2 c3 c4 c5 c6 d1' d2' d3 d4 d5 d6 hb3 q2;obtain⟨d1',d2',d3,d4,d5,d6⟩:=q3.2.2.2.facts;have hz3:=q3.2.2.2.lt;replace q3:=Lib.hid q3;go_wp2;refine bodyPost_ret (v:=.tuple #[.agg #[.bool r,.string n,.string d],.int .i64 E]) (by simp[results,Tryz.results64,go_sem,d1',d2',d3]) rfl ⟨rfl,?_⟩
 repeat refine Below.setCell ?_ (by simp only[];omega) _
 exact hB3.out
theorem run_div (g1 g2:Bool) (n1 d1 n2 d2:ByteArray) (w:World) (hE:Env w) (s1:n1.size≤140737488355328) (s2:d1.size≤140737488355328) (s3:n2.size≤140737488355328) (s4:d2.size≤140737488355328) (v1:validB g1 n1 d1=true) (v2:validB g2 n2 d2=true) (h0:(n2.toList==[48])=false) (l1:n1.size≤140) (l2:d1.size≤140) (l3:n2.size≤140) (l4:d2.size≤140) (r:Bool) (n d:ByteArray) (E:Int)
 (hf:∀W,Env W→Calls Tryz.prog 146 #[.agg #[.bool g1,.string n1,.string d1],.agg #[.bool g2,.string n2,.string d2]] W fun e w'=>e=.returned (.tuple #[.agg #[.bool r,.string n,.string d],.int .i64 E])∧Below W.heap.size W w') :
 Calls Tryz.prog 64 #[.agg #[.bool true,.func (.func 146) #[] #[]],.agg #[.bool g1,.string n1,.string d1],.agg #[.bool g2,.string n2,.string d2]] w fun e w'=>e=.returned (.tuple #[.agg #[.bool r,.string n,.string d],.int .i64 E])∧Below w.heap.size w w':=by
 have V1:=Lib.hid v1;clear v1;have V2:=Lib.hid v2;clear v2;have HF:=Lib.hid hf;clear hf;replace hE:=Lib.hid hE;go_enter Tryz.func64,Tryz.ntmps64
 go_wp2_with fail
 refine(Valid_any g1 n1 d1 _ (hE.out.below (four_below w _ _ _ _)) s1 s2).mono ?_;rintro e w1 ⟨rfl,hb1⟩;rw[V1.out];have q1:=(RunBoxes.new w _ _ g1 g2 n1 d1 n2 d2).below hb1;have hB1:=Lib.hid ((four_below w _ _ _ _).trans (hb1.mono (four_below w _ _ _ _).size));obtain⟨a1,a2⟩:=q1.1.facts;obtain⟨b1,b2,b3,b4,b5,b6⟩:=q1.2.1.facts;obtain⟨c1,c2,c3,c4,c5,c6⟩:=q1.2.2.1.facts;obtain⟨d1',d2',d3,d4,d5,d6⟩:=q1.2.2.2.facts;have hz1:=q1.2.2.2.lt;replace q1:=Lib.hid q1;clear hb1
 go_wp2_with fail
 refine(Valid_any g2 n2 d2 _ (hE.out.below hB1.out) s3 s4).mono ?_;rintro e w2 ⟨rfl,hb2⟩;rw[V2.out];have q2:=q1.out.below hb2;have hB2:=Lib.hid (hB1.out.trans (hb2.mono hB1.out.size));clear a1 a2 b1 b2 b3 b4 b5 b6 c1 c2 c3 c4 c5 c6 d1' d2' d3 d4 d5 d6 hb2 q1;obtain⟨a1,a2⟩:=q2.1.facts;obtain⟨b1,b2,b3,b4,b5,b6⟩:=q2.2.1.facts;obtain⟨c1,c2,c3,c4,c5,c6⟩:=q2.2.2.1.facts;obtain⟨d1',d2',d3,d4,d5,d6⟩:=q2.2.2.2.facts;have hz2:=q2.2.2.2.lt;replace q2:=Lib.hid q2
 go_wp2_with fail
 refine(HF.out _ (hE.out.below hB2.out)).mono ?_;rintro e w3 ⟨rfl,hb3⟩;have q3:=q2.out.below hb3;have hB3:=Lib.hid (hB2.out.trans (hb3.mono hB2.out.size));clear a1 a2 b1 b2 b3 b4 b5 b6 c1 c2 c3 c4 c5 c6 d1' d2' d3 d4 d5 d6 hb3 q2;obtain⟨d1',d2',d3,d4,d5,d6⟩:=q3.2.2.2.facts;have hz3:=q3.2.2.2.lt;replace q3:=Lib.hid q3;go_wp2;refine bodyPost_ret (v:=.tuple #[.agg #[.bool r,.string n,.string d],.int .i64 E]) (by simp[results,Tryz.results64,go_sem,d1',d2',d3]) rfl ⟨rfl,?_⟩
 repeat refine Below.setCell ?_ (by simp only[];omega) _
 exact hB3.out
end Nt
end
end Go.Proofs.YtioidbebjgeahaaGreatDoor

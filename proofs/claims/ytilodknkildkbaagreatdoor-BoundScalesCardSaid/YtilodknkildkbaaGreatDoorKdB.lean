/- Texts that the proof needs: NatDivB, NatGcd, NatPub, NatApi, NatApi2, NatO, RatPlain, CirSound, NatWrap, RatBox, RatSum, RatSums, RatProd, RatQ, RatRun. -/
import Derived.Maps.AppendAt
import Derived.Deep.RegionHeld3
import Derived.RangeFuncBox
import Derived.Laws.AppendOwnNone
import Derived.OneCell
import Derived.Deep.LoopGhost
import Derived.LaidEql
import Derived.Test.YtilodknkildkbaaGreatDoorCards
import Derived.Test.YtilodknkildkbaaGreatDoorTie
import Derived.ProofKit
import Derived.OpenShut
import Derived.Deep.DeepHandedRow
import Derived.Deep.DeepWitnessRowRef
import Derived.Deep.DeepLaidRun
import Derived.Lib.LaidTab
import Derived.Stop.LaidErr
import Derived.LaidMore
import Derived.LaidSub
import Derived.WalkLawsBesides
import Derived.WalkSpells
import Derived.Deep.QuietTactic
import Derived.BigQuiet
import Derived.StillTailTactics
import Derived.Laws.OwnMore
import Derived.Deep.DeepCutAuto
import Derived.Test.YtilodknkildkbaaGreatDoorKdA
set_option maxHeartbeats 2000000
set_option maxRecDepth 100000
namespace Go.Proofs.YtilodknkildkbaaGreatDoor
section
open Go.RowKit Go.Shelf
attribute [local go_sem] Oper.semAt_some
namespace Nt
theorem AS (w:World) (o:Obj) {k:Nat} {x:Obj} (h:w.heap[k]? = some x):(w.alloc o).heap[k]? = some x :=
 (Below.heap_alloc w o k (Array.getElem?_eq_some_iff.1 h).1).trans h
theorem Cw (w:World) (o:Obj) {k:Nat} (h:k=w.heap.size):(w.alloc o).heap[k]? = some o:=by
 subst h;exact heap_alloc_new w o
theorem Wp (w:World) (o1 o2 o3 o4 o5:Obj) :
 (((((w.alloc o1).alloc o2).alloc o3).alloc o4).alloc o5).heap[w.heap.size]? = some o1/\(((((w.alloc o1).alloc o2).alloc o3).alloc o4).alloc o5).heap[w.heap.size+1]? = some o2 /\
 (((((w.alloc o1).alloc o2).alloc o3).alloc o4).alloc o5).heap[w.heap.size+1+1]? = some o3/\(((((w.alloc o1).alloc o2).alloc o3).alloc o4).alloc o5).heap[w.heap.size+1+1+1]? = some o4 /\
 (((((w.alloc o1).alloc o2).alloc o3).alloc o4).alloc o5).heap[w.heap.size+1+1+1+1]? = some o5/\(((((w.alloc o1).alloc o2).alloc o3).alloc o4).alloc o5).heap.size=w.heap.size+5 /\
 Below w.heap.size w (((((w.alloc o1).alloc o2).alloc o3).alloc o4).alloc o5):=by
 refine⟨?_,?_,?_,?_,?_,by simp,?_⟩
 · exact AS _ _ (AS _ _ (AS _ _ (AS _ _ (Cw _ _ rfl))))
 · exact AS _ _ (AS _ _ (AS _ _ (Cw _ _ (by simp))))
 · exact AS _ _ (AS _ _ (Cw _ _ (by simp)))
 · exact AS _ _ (Cw _ _ (by simp))
 · exact Cw _ _ (by simp)
 · exact(((((Below.refl _ w).alloc (Nat.le_refl _) _).alloc (by simp) _).alloc (by simp;omega) _).alloc (by simp;omega) _).alloc (by simp;omega) _
structure KeptBut (S:Nat->Prop) (w w':World):Prop where
 os:w'.os=w.os
 tape:w'.tape=w.tape
 output:w'.output=w.output
 size:w.heap.size<=w'.heap.size
 block:∀k,k<w.heap.size->¬S k->w'.heap[k]? = w.heap[k]?
theorem KeptBut.refl (S:Nat->Prop) (w:World):KeptBut S w w:=⟨rfl,rfl,rfl,Nat.le_refl _,fun _ _ _=>rfl⟩
theorem KeptBut.below {S:Nat->Prop} {w w' w'':World} (h:KeptBut S w w') (hb:Below w'.heap.size w' w''):KeptBut S w w'' :=
 ⟨hb.os.trans h.os,hb.tape.trans h.tape,hb.output.trans h.output,Nat.le_trans h.size hb.size,fun k hk hs=>(hb.block k (Nat.lt_of_lt_of_le hk h.size)).trans (h.block k hk hs)⟩
theorem KeptBut.setCell {S:Nat->Prop} {w w':World} (h:KeptBut S w w') {p:Addr} (hp:w.heap.size<=p.block∨S p.block) (v:Value):KeptBut S w (w'.setCell p v) :=
 ⟨h.os,h.tape,h.output,by simpa [World.setCell] using h.size,fun k hk hs=>(Below.heap_setCell _ _ _ _ (fun e=>by subst e;rcases hp with hp | hp;(· omega);(· exact hs hp))).trans (h.block k hk hs)⟩
theorem KeptBut.grown {S:Nat->Prop} {w w' w'':World} {row:Option Nat} (h:KeptBut S w w') (hg:w'.grownBy w'' row) (hr:∀k,row=some k->w.heap.size<=k∨S k):KeptBut S w w'' :=
 ⟨hg.os.trans h.os,hg.tape.trans h.tape,hg.output.trans h.output,Nat.le_trans h.size hg.size,fun k hk hs =>
   (hg.block k (Nat.lt_of_lt_of_le hk h.size) (fun e=>by rcases hr k e.symm with h1 | h1;(· omega);(· exact hs h1))).trans (h.block k hk hs)⟩
theorem KeptBut.to {S:Nat->Prop} {B:Nat} {w0 w w':World} (h:KeptBut S w w') (h0:Below B w0 w) (hB:B<=w.heap.size) (hS:∀k,S k->B<=k):Below B w0 w' :=
 h0.trans ⟨h.os,h.tape,h.output,h.size,fun k hk=>h.block k (by omega) (fun hs=>by have:=hS k hs;omega)⟩
def Box (t:TypeId) (W:World) (b:Nat) (v:Value):Prop:=W.heap[b]? = some (.cells #[v] t (0,0))
theorem Box.cell {t:TypeId} {W:World} {b:Nat} {v:Value} (h:Box t W b v):W.cell? ⟨b,0,none⟩=some v:=by
 unfold Box at h;simp[World.cell?,h]
theorem Box.frozen {t:TypeId} {W:World} {b:Nat} {v:Value} (h:Box t W b v):W.frozen? ⟨b,0,none⟩=false:=by
 unfold Box at h;simp[World.frozen?,h]
theorem Box.lt {t:TypeId} {W:World} {b:Nat} {v:Value} (h:Box t W b v):b<W.heap.size:=(Array.getElem?_eq_some_iff.1 h).1
theorem Box.set {t:TypeId} {W:World} {b:Nat} {v:Value} (h:Box t W b v) (u:Value):Box t (W.setCell ⟨b,0,none⟩ u) b u:=by
 unfold Box at h ⊢;simp[World.setCell,Array.getElem?_modify,h]
theorem Box.other {t:TypeId} {W:World} {b:Nat} {v:Value} (h:Box t W b v) (p:Addr) (u:Value) (hp:b≠p.block):Box t (W.setCell p u) b v:=by
 unfold Box at h ⊢;rw[Below.heap_setCell _ _ _ _ hp];exact h
theorem Box.below {t:TypeId} {W W':World} {b n:Nat} {v:Value} (h:Box t W b v) (hb:Below n W W') (hn:b<n):Box t W' b v:=by
 unfold Box at h ⊢;rw[hb.block b hn];exact h
theorem Row.other {t:TypeId} {W:World} {g:Nat} {zs:List Nat} (h:Row t W g zs) (p:Addr) (u:Value) (hp:g≠p.block):Row t (W.setCell p u) g zs:=by
 unfold Row at h ⊢;rw[Below.heap_setCell _ _ _ _ hp];exact h
theorem Row.below {t:TypeId} {W W':World} {g n:Nat} {zs:List Nat} (h:Row t W g zs) (hb:Below n W W') (hn:g<n):Row t W' g zs:=by
 unfold Row at h ⊢;rw[hb.block g hn];exact h
theorem I3 (t ty e:TypeId) (i:TypeInfo) (B:Nat) (w:World) (ht:Tryz.prog.underlying t=some (.slice e)) (hi:Tryz.prog.info? e=some i) (hz:i.zero=some (.int .u64 0)) (hs:i.size=1) (h:i.bytes=8)
 (v sv:Value) (n:Nat) (xs ys:List Nat) (a:Own e B w v n xs) (aa:Sl w sv ys) (hb:n+ys.length<=1000000) (hB:B<=w.heap.size) :
 ∃v' w',(Builtin.append_ #[t,t] ty #[v,sv]).run Tryz.prog w=.ok v' w'/\Own e B w' v' (n+ys.length) (xs++ys)/\w.grownBy w' v.ownBlock:=by
 rcases aa.shape with⟨rfl,rfl⟩ | ⟨b,off,cap,rfl,ad,_,hc⟩
 · refine⟨v,w,run_append_owned_none w B t ty e i 1 ht hi v n _ a,?_,World.grownBy.refl _ _⟩
   simpa using a
 · obtain ⟨v',w',h1,h2,h3,_⟩:=run_append_own w B t ty e i (.int .u64 0) 1 8 ht hi hz hs h rfl (by decide) v n _ a ⟨b,off,none⟩ ys.length cap (Co ys) (by simp[Co])
    (fun j u hj=>by
      simp only[Co,List.getElem?_map,Option.map_eq_some_iff]at hj;obtain⟨y,hy,rfl⟩:=hj;have d:=(List.getElem?_eq_some_iff.1 hy).1;have:=hc j d;rw[DM _ _ d,(List.getElem?_eq_some_iff.1 hy).2]at this;rw[Lib.add_plain];exact this)
    (fun u hu=>by simp only[Co,List.mem_map]at hu;obtain⟨y,_,rfl⟩:=hu;rfl) (by unfold maxLen;omega) (by omega) hB
   refine⟨v',w',h1,?_,h3⟩;unfold Own;rw[Co,List.map_append];exact h2
theorem F0 {F:Fence} {N:Nat} (w:World) {ops:Array Oper} {rest:List Oper} {o:Oper} {a:Act} {Q:Exit->Act->World->Prop}
 (hg:o.guard=none) (s x:Operand) (t:TypeId) (d:o.op=Op.call { callee:=Callee.builtin Builtin.append,args:=#[s,x],argTypes:=#[t,t] }) (e:TypeId) (i:TypeInfo) (B:Nat)
 (ht:Tryz.prog.underlying t=some (.slice e)) (hi:Tryz.prog.info? e=some i) (hz:i.zero=some (.int .u64 0)) (ad:i.size=1) (ae:i.bytes=8)
 (v sv:Value) (n:Nat) (xs ys:List Nat) (hs:a.eval s=v) (hx:a.eval x=sv) (h:Own e B w v n xs) (ag:Sl w sv ys) (hb:n+ys.length<=1000000) (hB:B<=w.heap.size)
 (hK:∀v' w',Own e B w' v' (n+ys.length) (xs++ys)->w.grownBy w' v.ownBlock->wpListIn F N Tryz.prog ops Q rest (a.put o.dst v') w') :
 wpListIn F N Tryz.prog ops Q (o::rest) a w:=by
 refine wpListIn_plain hg fun K af=>?_;obtain⟨v',w',aa,r1,r2⟩:=I3 t o.type e i B w ht hi hz ad ae v sv n xs ys h ag hb hB;unfold Oper.wpIn;refine⟨?_,?_⟩
 · simp[Oper.about,d,resolve,Target.leads,Sem.run_pure]
 · rw[Oper.semAt_plain F _ _ (by rw[d];intro c ah;cases ah)];simp[execOp,d,resolve,invoke,builtin,hs,hx,aa,Result.andThen];exact af _ _ (hK v' w' r1 r2)
theorem Sl.kept {A B:World} {row:Option Nat} {v:Value} {xs:List Nat} (h:Sl A v xs) (hg:A.grownBy B row) (hr:∀r,row=some r->∃o:Obj,A.heap[r]? = some o/\o.isCells=false):Sl B v xs:=by
 obtain⟨a,cap,rfl,hn,hs⟩:=h;refine⟨a,cap,rfl,hn,fun ad e=>?_⟩;obtain⟨h1,h2,h3,h4⟩:=hs ad e;exact⟨h1,Nat.lt_of_lt_of_le h2 hg.size,h3,fun i hi=>cell_kept (h4 i hi) hg hr⟩
theorem Num.kept {A B:World} {row:Option Nat} {v:Value} {n:Nat} (h:Num A v n) (hg:A.grownBy B row) (hr:∀r,row=some r->∃o:Obj,A.heap[r]? = some o/\o.isCells=false):Num B v n:=by
 obtain⟨xs,h1,h2,h3⟩:=h;exact⟨xs,h1,h2,h3.kept hg hr⟩
theorem Sl.setCell {W:World} {v:Value} {xs:List Nat} {B:Nat} (h:Sl W v xs) (hf:From B v) (p:Addr) (hp:p.block<B) (u:Value):Sl (W.setCell p u) v xs:=by
 obtain⟨a,cap,rfl,hn,hs⟩:=h;refine⟨a,cap,rfl,hn,fun ad e=>?_⟩;obtain⟨h1,h2,h3,h4⟩:=hs ad e;subst e;have hB:B<=ad.block:=hf;refine⟨h1,by simpa [World.setCell] using h2,h3,fun i hi=>?_⟩;rw[<-h4 i hi];exact World.cell?_of_block (w:=W) (a:=⟨ad.block,ad.off+i,none⟩) (Below.heap_setCell _ _ _ _ (by show ad.block≠p.block;omega))
theorem Num.setCell {W:World} {v:Value} {n B:Nat} (h:Num W v n) (hf:From B v) (p:Addr) (hp:p.block<B) (u:Value):Num (W.setCell p u) v n:=by
 obtain⟨xs,h1,h2,h3⟩:=h;exact⟨xs,h1,h2,h3.setCell hf p hp u⟩
theorem From.mono {B B':Nat} {v:Value} (h:From B v) (hb:B'<=B):From B' v:=by
 unfold From at h ⊢
 split
 · exact Nat.le_trans hb h
 · trivial
theorem Num.shape {W:World} {v:Value} {n:Nat} (h:Num W v n):∃a l c,v=.slice a l c:=by
 obtain⟨xs,_,_,a,c,h,_⟩:=h;exact⟨a,_,c,h⟩
def CO (xs:List Nat) (M:Nat) (s:Nat×List Nat) (x:B5 xs.length):Nat×List Nat :=
 if lim xs x.1+1000000000*s.1<M then (lim xs x.1+1000000000*s.1,s.2)
 else ((lim xs x.1+1000000000*s.1)%M,s.2.set x.1 ((lim xs x.1+1000000000*s.1)/M))
def BE (xs:List Nat) (M:Nat) (pre:List (B5 xs.length)):Nat×List Nat:=pre.foldl (CO xs M) (0,List.replicate xs.length 0)
theorem F1 (xs:List Nat) (M:Nat) (pre:List (B5 xs.length)) (x:B5 xs.length):BE xs M (pre++[x])=CO xs M (BE xs M pre) x:=by
 simp[BE,List.foldl_append]
def UJ (w W1:World) (xs:List Nat) (M:Nat) (pre:List (B5 xs.length)) (W:World):Prop :=
 (∃rv,Box 140 W (w.heap.size+1+1+1) rv/\Num W rv (BE xs M pre).1/\From W1.heap.size rv)/\Row 159 W (w.heap.size+1) (BE xs M pre).2 /\
 (BE xs M pre).1<M/\(BE xs M pre).2.length=xs.length/\InR (BE xs M pre).2/\KeptBut (fun k=>k=w.heap.size+1∨k=w.heap.size+1+1+1) W1 W
theorem I4 (xs:List Nat) (M:Nat) (p:Nat) (hp:p<xs.length) (s:Nat×List Nat) (hM:0<M) (hz:s.2.length=xs.length) (h0:∀j,j<=p->lim s.2 j=0)
 (h4:lv s.2*M+1000000000^(p+1)*s.1+lo xs (p+1)=lv xs) :
 (CO xs M s ⟨p,hp⟩).1<M/\(CO xs M s ⟨p,hp⟩).2.length=xs.length/\(∀j,j<p->lim (CO xs M s ⟨p,hp⟩).2 j=0) /\
 lv (CO xs M s ⟨p,hp⟩).2*M+1000000000^p*(CO xs M s ⟨p,hp⟩).1+lo xs p=lv xs:=by
 obtain⟨r,zs⟩:=s;dsimp only at hz h0 h4;rw[Ch,Nat.pow_succ]at h4;unfold CO;dsimp only;generalize lim xs p=x at h4 ⊢;have key:1000000000^p*(x+1000000000*r)=1000000000^p*x+1000000000^p*1000000000*r:=by rw[Nat.mul_add,Nat.mul_assoc]
 split
 · rename_i hlt;exact⟨hlt,hz,fun j hj=>h0 j (by omega),by dsimp only;omega⟩
 · rename_i hge;have hs:=LB zs p ((x+1000000000*r)/M) (by omega);rw[h0 p (Nat.le_refl _)]at hs;refine⟨Nat.mod_lt _ hM,by simpa using hz,fun j hj=>by rw[Bi _ _ _ _ (by omega)];exact h0 j (by omega),?_⟩;dsimp only;have e1:lv (zs.set p ((x+1000000000*r)/M))=lv zs+1000000000^p*((x+1000000000*r)/M):=by omega
   have e2:1000000000^p*(x+1000000000*r)=1000000000^p*(M*((x+1000000000*r)/M))+1000000000^p*((x+1000000000*r)%M):=by rw[<-Nat.mul_add,Nat.div_add_mod]
   have e3:1000000000^p*((x+1000000000*r)/M)*M=1000000000^p*(M*((x+1000000000*r)/M)):=by rw[Nat.mul_assoc,Nat.mul_comm M]
   rw[e1,Nat.add_mul,e3];omega
theorem LI (xs:List Nat) (M:Nat) (hM:0<M) (k:Nat) (hk:k<=xs.length) :
 (BE xs M (CA xs.length k)).1<M/\(BE xs M (CA xs.length k)).2.length=xs.length/\(∀j,j<xs.length-k->lim (BE xs M (CA xs.length k)).2 j=0) /\
 lv (BE xs M (CA xs.length k)).2*M+1000000000^(xs.length-k)*(BE xs M (CA xs.length k)).1+lo xs (xs.length-k)=lv xs:=by
 induction k with
 | zero =>
   refine⟨hM,by simp[BE,Dl],fun j hj=>by simp only[BE,Dl,List.foldl_nil];exact DV _ _,?_⟩;simp only[BE,Dl,List.foldl_nil,Nat.sub_zero];rw[Hn _ (fun j hj=>DV _ _),DN _ _ (Nat.le_refl _)];omega
 | succ k ih =>
   obtain⟨_,h2,h3,h4⟩:=ih (by omega);rw[CB _ _ (by omega),F1];have e1:xs.length-(k+1)=xs.length-1-k:=by omega
   have e2:xs.length-k=xs.length-1-k+1:=by omega
   rw[e1];rw[e2]at h3 h4;exact I4 xs M _ _ _ hM h2 (fun j hj=>h3 j (by omega)) h4
theorem Oq (xs:List Nat) (M:Nat) (hM:0<M):lv (BE xs M (CA xs.length xs.length)).2=lv xs/M/\(BE xs M (CA xs.length xs.length)).1=lv xs%M:=by
 obtain⟨h1,_,_,h4⟩:=LI xs M hM xs.length (Nat.le_refl _);rw[Nat.sub_self,Nat.pow_zero,Nat.one_mul,DB,Nat.add_zero]at h4;constructor
 · rw[<-h4,Nat.mul_comm,Nat.mul_add_div hM,Nat.div_eq_of_lt h1,Nat.add_zero]
 · rw[<-h4,Nat.mul_comm,Nat.mul_add_mod,Nat.mod_eq_of_lt h1]
theorem Qw (w:World) (a:Option Addr) (cap:Nat) (xs:List Nat) (mc:Option Addr) (ml mcap M:Nat) (hl:xs.length<=200) (hx:Hid (InR xs)) (b:Nat) (hb:b<w.heap.size)
 (ha:Hid (SlAt w b (.slice a xs.length cap) xs)) (hM:Hid (Num w (.slice mc ml mcap) M)) (ay:0<M) (aB:Hid (BQ (M*1000000000))) :
 Calls Tryz.prog 133 #[.slice a xs.length cap,.slice mc ml mcap] w fun e w' =>
  (∃v u,e=.returned (.tuple #[v,u])/\Num w' v (lv xs/M)/\Num w' u (lv xs%M))/\Below w.heap.size w w':=by
 have bg:=Eo xs.length (by omega);refine(callsIn_wide (n:=9)).1 ?_;refine callsIn_of_wp_marks Tryz.func133 rfl trivial ?_ rfl;simp only[Tryz.ntmps133,List.size_toArray,List.length_cons,List.length_nil,Nat.reduceAdd,Nat.reduceSub,Array.replicate_succ,Array.replicate_zero,List.push_toArray,List.append_toArray,List.nil_append,List.cons_append]
 gi_wp2_with (first
  | (refine⟨trivial,?_⟩;gi_at_call 165;refine(Dm Fence.wide _ trivial rfl _ _ _ _).mono ?_;rintro e w' ⟨rfl,rfl⟩)
  | (gi_at_call 165;refine(Dm Fence.wide _ trivial rfl _ _ _ _).mono ?_;rintro e w' ⟨rfl,rfl⟩))
 obtain⟨f1,f2,f3,f4,f5,f6,f7⟩:=Wp w (.cells #[.slice mc ml mcap] 140) (.cells (madeCells #[.int .u64 0] xs.length) 159) (.cells #[.slice (some ⟨w.heap.size+1,0,none⟩) xs.length xs.length] 140) (.cells #[.slice none 0 0] 140) (.cells #[.slice a xs.length cap] 140);generalize ((((w.alloc (.cells #[.slice mc ml mcap] 140)).alloc (.cells (madeCells #[.int .u64 0] xs.length) 159)).alloc (.cells #[.slice (some ⟨w.heap.size+1,0,none⟩) xs.length xs.length] 140)).alloc (.cells #[.slice none 0 0] 140)).alloc (.cells #[.slice a xs.length cap] 140)=W1 at f1 f2 f3 f4 f5 f6 f7 ⊢;rw[Kx]at f2;have a0:W1.cell? ⟨w.heap.size+1+1+1+1,0,none⟩=some (.slice a xs.length cap):=Box.cell f5;have aU:SlAt W1 b (.slice a xs.length cap) xs:=ha.out.keep (c:=b) (Keep2.of_below f7 hb hb);have bu:Num W1 (.slice mc ml mcap) M:=hM.out.below f7
 refine wpIn_rangeFunc_ownF rfl (by decide) (gf:=194) (lb:=#[.pointer (some ⟨w.heap.size+1+1+1+1,0,none⟩)]) rfl trivial (enters_of Tryz.func194 (by kernel_rfl) rfl)
  (Fz Fence.wide _ trivial rfl (by decide) (w.heap.size+1+1+1+1) b _ xs (by omega) W1 (by omega) (by omega) a0 aU) (fun h k=>h.trans k)
  (fun W l o o' hl h ho hw=>?kb) (Below.refl _ _) (fun _=>rfl)
  (UJ w W1 xs M) (fun _ _ _=>False)
  (fun s A B row hs hg hr=>?own)
  (fun _ _ _ _ _ hs _ _=>hs)
  ⟨⟨_,f4,⟨[],⟨fun x hx=>absurd hx (by simp),by simp⟩,rfl,Sl.nil _⟩,trivial⟩,f2,ay,by simp[BE],InR.zeros _,KeptBut.refl _ _⟩
  (fun x=>{ tmps:=#[.slice a xs.length cap,.slice mc ml mcap,undef,.pointer (some ⟨w.heap.size,0,none⟩),.slice none 0 0,.slice none 0 0,.pointer (some ⟨w.heap.size+1+1,0,none⟩),.pointer (some ⟨w.heap.size+1+1+1,0,none⟩),
    .int .i64 (x.1:Int),.int .u64 (lim xs x.1),undef,.slice a xs.length cap,.int .i64 xs.length,.slice (some ⟨w.heap.size+1,0,none⟩) xs.length xs.length,.slice a xs.length cap,
    .func (.func 194) #[] #[.pointer (some ⟨w.heap.size+1+1+1+1,0,none⟩)],.int .i64 (x.1:Int),.int .u64 (lim xs x.1),
    undef,undef,undef,undef,undef,undef,undef,undef,undef,undef,undef,undef,undef,undef,undef,undef,undef,undef,undef,undef,undef,undef,undef,undef,undef,undef],defers:=[] })
  ?assign ?body ?done ?stop
 case kb =>
  have h1:=(Array.getElem?_eq_some_iff.1 h).1;exact⟨World.putObj_heap_other (by omega),World.putObj_heap_other (by omega)⟩
 case own =>
  obtain⟨⟨rv,s1,s2,s2f⟩,s3,s4,s5,s6,s7⟩:=hs;have al:=fun r e=>(hr r e).2;exact⟨⟨rv,Dw s1 hg al,s2.kept hg al,s2f⟩,Dw s3 hg al,s4,s5,s6,s7.grown hg (fun k e=>.inl (hr k e).1)⟩
 case assign =>
  intro l x W K hK
  gi_wp2
  exact hK
 case body =>
  rintro l pre x W ⟨⟨rv,s1,⟨rs,c1,c2,c3⟩,s2f⟩,s3,s4,s5,s6,s7⟩ bM;obtain⟨i0,hi,bA,bd,bp⟩:=info_parts K7;have ag:=s7.size;have bK:w.heap.size<W.heap.size:=by omega
  have a7:w.heap.size+1<W.heap.size:=by omega
  have bB:w.heap.size+1+1<W.heap.size:=by omega
  have bm:w.heap.size+1+1+1<W.heap.size:=by omega
  have bH:=Box.cell s1;have bD:=Box.frozen s1;have a3:=hx.out.lim x.1;have aJ:Box 140 W w.heap.size (.slice mc ml mcap):=(s7.block w.heap.size (by omega) (by omega)).trans f1;have ah:Box 140 W (w.heap.size+1+1) (.slice (some ⟨w.heap.size+1,0,none⟩) xs.length xs.length):=(s7.block (w.heap.size+1+1) (by omega) (by omega)).trans f3;have bF:=Box.cell (show Box 140 W w.heap.size (.slice mc ml mcap) from(s7.block w.heap.size (by omega) (by omega)).trans f1);have aN:Own 159 W.heap.size (W.alloc (.cells #[.int .u64 (lim xs x.1)] 159)) (.slice (some ⟨W.heap.size,0,none⟩) 1 1) 1 [lim xs x.1]:=World.ownsRow_lit W #[.int .u64 (lim xs x.1)] 1 (Nat.le_refl _) (by unfold maxLen;omega) rfl;have aQ:Sl (W.alloc (.cells #[.int .u64 (lim xs x.1)] 159)) rv rs:=c3.below ((Below.refl _ _).alloc (Nat.le_refl _) _);obtain⟨ar,capr,bG,_⟩:=c3.addr;subst bG;have C1:=zh c1;have C2:=zh c2;have S3:=zh s3;have S4:=zh s4;have S5:=zh s5;have S6:=zh s6;have S7:=zh s7;have bS:rs.length<=200:=c1.len_le (BR aB.out (by omega));have F6:=zh f6;replace ag:=zh ag;clear c1 c2 s3 s4 s5 s6 s7 aU bu bg f1 f2 f3 f4 f5 f6 a0 c3
  gi_wp2_with (gi_at_builtin;refine F0 _ rfl _ _ 140 rfl 159 i0 W.heap.size Tryz.underlying140 hi bA bd bp _ _ 1 [lim xs x.1] rs rfl rfl aN aQ (by omega) (by simp) ?_;intro v1 w1 ai aR)
  refine⟨trivial,?_⟩;refine(CallsIn.inRound l (callsIn_wide.2 (Dv w1 v1 (lim xs x.1::rs) (by simp;omega) ai.sl))).mono ?_;rintro e w2 ⟨v2,k2,rfl,aX,aZ,bs,rfl⟩;have F2:=bs _ ai.from
  have N2:Num w1 v2 (lim xs x.1+1000000000*(BE xs M pre).1):=⟨_,aX.canon (fun y hy=>by
   rcases List.mem_cons.1 hy with h | h
   · rw[h];exact a3
   · exact C1.out.1 y h),by rw[aX.lv,lv,C2.out],aZ⟩
  have ax:Below W.heap.size W w1:=((Below.refl W.heap.size W).alloc (Nat.le_refl _) _).grown aR (by simp) (fun k e=>by cases e;exact Nat.le_refl _);have s1':Box 140 w1 (w.heap.size+1+1+1) (.slice ar rs.length capr):=s1.below ax bm;have aq:=aJ.below ax bK;have bi:=aq.cell;have a4:=s1'.cell;have bw:=s1'.frozen
  obtain ⟨a2,n2,cap2,e2⟩:∃a n c,v2=.slice a n c:=by
   obtain⟨a,c,h,_⟩:=aZ;exact⟨a,_,c,h⟩
  subst e2;generalize aF:lim xs x.1+1000000000*(BE xs M pre).1=r1 at N2
  have ba:BQ r1:=by
   rw[<-aF];exact BR aB.out (by have:=S4.out;omega)
  have aC:r1<M*1000000000:=by rw[<-aF];have:=S4.out;omega
  have HR1:=zh aF;replace aC:=zh aC;have HB1:=zh ax;replace N2:=zh N2;replace F2:=zh F2;clear aF ax aZ bs aX ai aR aN aQ bH bD C1 C2 hi bA bd bp s1
  gi_wp2
  -- the world behind the store of the rest
  have aM:=HB1.out.size;have s1'':=s1'.set (.slice a2 n2 cap2);have aw:Below w.heap.size w (w1.setCell ⟨w.heap.size+1+1+1,0,none⟩ (.slice a2 n2 cap2)):=((S7.out.to f7 f7.size (fun k h=>by omega)).trans (HB1.out.mono (by omega))).setCell (by simp;omega) _;have N3:Num (w1.setCell ⟨w.heap.size+1+1+1,0,none⟩ (.slice a2 n2 cap2)) (.slice a2 n2 cap2) r1:=N2.out.setCell F2.out _ bm _;have K3:KeptBut (fun k=>k=w.heap.size+1∨k=w.heap.size+1+1+1) W1 (w1.setCell ⟨w.heap.size+1+1+1,0,none⟩ (.slice a2 n2 cap2)):=(S7.out.below HB1.out).setCell (.inr (.inr rfl)) _;have R3:=((S3.out.below HB1.out a7).other ⟨w.heap.size+1+1+1,0,none⟩ (.slice a2 n2 cap2) (by simp));have aO:W.heap.size<=(w1.setCell ⟨w.heap.size+1+1+1,0,none⟩ (.slice a2 n2 cap2)).heap.size:=by simpa [World.setCell] using aM
  have ak:=aq.other ⟨w.heap.size+1+1+1,0,none⟩ (.slice a2 n2 cap2) (by simp;omega);have an:=(ah.below HB1.out bB).other ⟨w.heap.size+1+1+1,0,none⟩ (.slice a2 n2 cap2) (by simp);have KO3:KeepsOthers W (w1.setCell ⟨w.heap.size+1+1+1,0,none⟩ (.slice a2 n2 cap2)):=(KeepsOthers.of_below HB1.out).trans (KeepsOthers.setCell _ _ _);have KK3:Keep2 b (w.heap.size+1+1+1+1) W (w1.setCell ⟨w.heap.size+1+1+1,0,none⟩ (.slice a2 n2 cap2)):=(Keep2.of_below HB1.out (by omega) (by have:=F6.out;have:=ag.out;omega)).trans (Keep2.setCell _ _ _ (by simp;omega) (by simp));generalize w1.setCell ⟨w.heap.size+1+1+1,0,none⟩ (.slice a2 n2 cap2)=w3 at s1'' aw N3 K3 R3 aO ak an KO3 KK3 ⊢;clear aq bi s1' a4 bw N2 aJ ah bF HB1 aM;refine⟨trivial,?_⟩;refine(CallsIn.inRound l (callsIn_wide.2 (EC w3 _ _ r1 M N3 (hM.out.below aw) ?sm1 ?sm2))).mono ?_
  case sm1=>exact ba
  case sm2=>omega
  rintro e w4 ⟨rfl,aa⟩
  by_cases hlt:r1<M
  · rw[Cv hlt]
    gi_wp2
    have e:BE xs M (pre++[x])=(r1,(BE xs M pre).2):=by rw[F1,CO,HR1.out,if_pos hlt]
    refine⟨KO3.trans (KeepsOthers.of_below aa),KK3.trans (Keep2.of_below aa (by omega) (by have:=F6.out;have:=ag.out;omega)),?_⟩;unfold UJ;rw[e];exact⟨⟨_,s1''.below aa (by omega),N3.below aa,F2.out.mono ag.out⟩,R3.below aa (by omega),hlt,S5.out,S6.out,K3.below aa⟩
  · rw [show Bm r1 M=Bm r1 M from rfl]
    have a1:decide (Bm r1 M<0)=false:=by
     rcases Nat.lt_or_ge M r1 with h | h
     · rw[FE h];rfl
     · rw[show r1=M by omega,J8];rfl
    generalize Bm r1 M=cr at a1 ⊢;have bQ:¬cr<0:=by simpa using a1
    clear a1
    gi_wp2
    refine⟨trivial,?_⟩;have a6:=aa.size;have M4:=(hM.out.below aw).below aa;have N4:=N3.below aa;have aI:=(ak.below aa (by omega)).cell;have aG:=(s1''.below aa (by omega)).cell
    refine (CallsIn.inRound l (callsIn_wide.2 (LH 999999999 (by omega) (fun k=>decide (r1<M*(k+1))) (.pointer (some ⟨w.heap.size,0,none⟩)) (.pointer (some ⟨w.heap.size+1+1+1,0,none⟩)) w4
     (fun a b bW bX h=>by
       have h1:M*(a+1)<=M*(b+1):=Nat.mul_le_mul_left _ (by omega);simp only[decide_eq_true_eq]at h ⊢;omega)
     (fun W' i aE hi=>KD W' i hi w.heap.size (w.heap.size+1+1+1) _ _ M r1 ((aE.cell (p:=⟨w.heap.size,0,none⟩) (by simp;omega)).trans aI) ((aE.cell (p:=⟨w.heap.size+1+1+1,0,none⟩) (by simp;omega)).trans aG) (M4.below aE) (N4.below aE) aB)))).mono ?_
    rintro e w5 ⟨d,rfl,bb,a9,bo,ad⟩
    have hd:d=r1/M:=by
     have bj:=aC.out;refine(Nat.div_eq_of_lt_le ?_ ?_).symm
     · cases d with
       | zero=>simp
       | succ d=>have:=a9 d (by omega);simp only[decide_eq_false_iff_not]at this;rw[Nat.mul_comm];omega
     · by_cases h:d<999999999
       · have:=bo h;simp only[decide_eq_true_eq]at this;rw[Nat.mul_comm];exact this
       · obtain rfl:d=999999999:=by omega
         rw[Nat.mul_comm];exact bj
    have bh:=ad.size;have M5:=M4.below ad;have N5:=N4.below ad;have aK:=(ak.below aa (by omega)).below ad (by omega);have aT:=(an.below aa (by omega)).below ad (by omega);have aL:=(s1''.below aa (by omega)).below ad (by omega);have R5:=(R3.below aa (by omega)).below ad (by omega);have K5:=(K3.below aa).below ad;have KO5:=(KO3.trans (KeepsOthers.of_below aa)).trans (KeepsOthers.of_below ad);have KK5:=(KK3.trans (Keep2.of_below aa (by omega) (by have:=F6.out;have:=ag.out;omega))).trans (Keep2.of_below ad (by omega) (by have:=F6.out;have:=ag.out;omega));have bt:=(aw.trans (aa.mono (by omega))).trans (ad.mono (by omega));have bv:W.heap.size<=w5.heap.size:=by omega
    clear a6 M4 N4 aI aG bb a9 bo ad aa bh N3 R3 K3 s1'' ak an KO3 KK3 aw aO;have be:=aT.cell;have bz:=R5.cell (i:=x.1) (by have:=S5.out;have:=x.2;omega);have bn:=R5.frozen x.1;have bU:x.1<xs.length:=x.2;have bY:d<=999999999:=by rw[hd];have:=aC.out;exact Nat.le_of_lt_succ (Nat.div_lt_of_lt_mul (by omega))
    have HD:=zh hd;clear hd
    gi_wp2
    have bJ:(w5.setCell ⟨w.heap.size+1,x.1,none⟩ (.int .u64 (d:Int))).heap.size=w5.heap.size:=by simp[World.setCell]
    have M6:Num (w5.setCell ⟨w.heap.size+1,x.1,none⟩ (.int .u64 (d:Int))) (.slice mc ml mcap) M:=hM.out.below (bt.setCell (Nat.le_succ _) _);have N6:=N5.setCell F2.out ⟨w.heap.size+1,x.1,none⟩ a7 (.int .u64 (d:Int));have au:=aK.other ⟨w.heap.size+1,x.1,none⟩ (.int .u64 (d:Int)) (Nat.ne_of_lt (Nat.lt_succ_self _));have af:=aL.other ⟨w.heap.size+1,x.1,none⟩ (.int .u64 (d:Int)) (by show w.heap.size+1+1+1≠w.heap.size+1;omega);have R6:=R5.set x.1 d;have K6:=K5.setCell (p:=⟨w.heap.size+1,x.1,none⟩) (.inr (.inl rfl)) (.int .u64 (d:Int));have KO6:=KO5.trans (KeepsOthers.setCell w5 ⟨w.heap.size+1,x.1,none⟩ (.int .u64 (d:Int)));have KK6:=KK5.trans (Keep2.setCell w5 ⟨w.heap.size+1,x.1,none⟩ (.int .u64 (d:Int)) (by simp;omega) (by simp;omega));have a5:W.heap.size<=(w5.setCell ⟨w.heap.size+1,x.1,none⟩ (.int .u64 (d:Int))).heap.size:=by omega
    generalize w5.setCell ⟨w.heap.size+1,x.1,none⟩ (.int .u64 (d:Int))=w6 at M6 N6 au af R6 K6 KO6 KK6 a5 ⊢;have bb:1<=d:=by rw[HD.out];exact(Nat.one_le_div_iff ay).2 (by omega)
    have aV:M*d<=r1:=by rw[HD.out];exact Nat.mul_div_le r1 M
    have am:=N1 w6 d (by omega) (by omega) (X:=(d:Int)) rfl;have cM:=J9 (w6.alloc (.cells #[.int .u64 (d:Int)] 159)).drew (.slice mc ml mcap) (.slice (some ⟨w6.heap.size,0,none⟩) 1 1) M d (M6.below ((Below.refl _ _).alloc (Nat.le_refl _) _).drew) am (BR aB.out (by omega)) (Ht (by omega));have bN:=au.cell;have aH:=af.cell;have bq:=af.frozen;have bT:w.heap.size<w6.heap.size:=by omega
    have az:w.heap.size+1+1+1<w6.heap.size:=by omega
    have s1:IntKind.u64.wrap (d:Int)=(d:Int):=IntWalk.u64_in _ (by omega);replace aV:=zh aV;replace N6:=zh N6;replace am:=zh am;replace R6:=zh R6;replace K6:=zh K6;replace KO6:=zh KO6;replace KK6:=zh KK6;replace af:=zh af;clear M6 au bJ N5 aK aL aT be bz bn R5 K5 KO5 KK5 bt bv M5
    gi_region_with (first
     | (refine⟨trivial,?_⟩;gi_at_call 135;refine(CallsIn.inRound l (callsIn_wide.2 cM)).mono ?_;rintro e w7 ⟨v7,rfl,bE,_,aY⟩;have ae:Below w6.heap.size w6 w7:=((Below.refl w6.heap.size w6).alloc (Nat.le_refl _) _).drew.trans (aY.mono (by simp));have bf:=(ae.cell (p:=⟨w.heap.size+1+1+1,0,none⟩) az).trans aH;replace aY:=zh aY;replace ae:=zh ae)
     | (refine⟨trivial,?_⟩;gi_at_call 169;refine(CallsIn.inRound l (callsIn_wide.2 (Nz w7 (.slice a2 n2 cap2) v7 r1 (M*d) (N6.out.below ae.out) bE aV.out ba))).mono ?_;rintro e w8 ⟨v8,rfl,bx,br,aW⟩;have aj:Below w6.heap.size w6 w8:=ae.out.trans (aW.mono ae.out.size);have bL:=(aj.cell (p:=⟨w.heap.size+1+1+1,0,none⟩) az).trans aH;have bO:=(aj.frozen (p:=⟨w.heap.size+1+1+1,0,none⟩) az).trans bq;obtain⟨a8,n8,cap8,e8⟩:∃a n c,v8=.slice a n c:=bx.shape;subst e8;replace br:=zh (From.mono br ae.out.size);replace aW:=zh aW;replace aj:=zh aj;clear bf))
    all_goals
     have ao:=Hid.out (p:=Below w6.heap.size w6 w8) (by assumption);have aS:=Hid.out (p:=From w6.heap.size (.slice a8 n8 cap8)) (by assumption)
     gi_wp2
     have hq:(d:Nat)<1000000000:=by omega
     have e:BE xs M (pre++[x])=(r1-M*d,(BE xs M pre).2.set x.1 d):=by
      rw[F1,CO,HR1.out,if_neg hlt,HD.out,Nat.mod_eq_sub]
     refine⟨(KO6.out.trans (KeepsOthers.of_below ao)).trans (KeepsOthers.setCell _ _ _),(KK6.out.trans (Keep2.of_below ao (by omega) (by have:=F6.out;have:=ag.out;omega))).trans (Keep2.setCell _ _ _ (by show b≠w.heap.size+1+1+1;omega) (by show w.heap.size+1+1+1+1≠w.heap.size+1+1+1;omega)),?_⟩;unfold UJ;rw[e];refine⟨⟨_,(af.out.below ao (by omega)).set _,bx.setCell aS _ az _,aS.mono (by have:=ag.out;omega)⟩,(R6.out.below ao (by omega)).other _ _ (by show w.heap.size+1≠w.heap.size+1+1+1;omega),?_,by simpa using S5.out,S6.out.set _ _ hq,(K6.out.below ao).setCell (.inr (.inr rfl)) _⟩;rw[HD.out,<-Nat.mod_eq_sub];exact Nat.mod_lt _ ay
 case done =>
  rintro D zs W hD rfl ⟨⟨rv,s1,s2,s2f⟩,s3,s4,s5,s6,s7⟩ hK;have ah:Box 140 W (w.heap.size+1+1) (.slice (some ⟨w.heap.size+1,0,none⟩) xs.length xs.length):=(s7.block (w.heap.size+1+1) (by omega) (by omega)).trans f3;have bR:=ah.cell;have bP:=s1.cell;have aD:Below w.heap.size w W:=s7.to f7 f7.size (fun k h=>by omega);have aA:=Oq xs M ay;have aP:=s3.sl;rw[s5]at aP;obtain⟨ar,lr,cr,erv⟩:=s2.shape;subst erv;have bI:(BE xs M (CA xs.length xs.length)).2.length<=1000000:=by rw[s5];omega
  replace aA:=zh aA;replace s2:=zh s2;replace s6:=zh s6;replace aD:=zh aD;have HK:=zh hK;clear s1 s3 s4 s5 s7 f1 f2 f3 f4 f5 f6 aU bu bg a0 ah hK
  gi_wp2
  refine wpIn_wide.2 ?_
  go_region_held3 (fun w'=>w'.cell? ⟨w.heap.size+1+1,0,none⟩=some (.slice (some ⟨w.heap.size+1,0,none⟩) xs.length xs.length)/\w'.cell? ⟨w.heap.size+1+1+1,0,none⟩=some (.slice ar lr cr))
   (first
     | go_keep
     | (go_split_ands
        refine⟨?_,?_⟩
        · assumption
        · assumption))
   ((go_at_call 164;refine(Dv W.drew (.slice (some ⟨w.heap.size+1,0,none⟩) xs.length xs.length) _ bI aP).mono ?_;rintro e w' ⟨v,k,rfl,ht,hs,hf,rfl⟩))
  gi_wp2
  refine⟨by simp,.inl ⟨_,_,rfl,run_takeDeferred (show W.drew.heap[D]? = _ from HK.out),?_⟩⟩;have al:∀r,(some D)=some r->∃o:Obj,W.drew.heap[r]? = some o/\o.isCells=false:=fun r e=>by cases e;exact⟨_,HK.out,rfl⟩
  have hg:=grownBy_putObj' W.drew D (.deferred none)
  have bk:Num (W.drew.putObj D (.deferred none)) v (lv xs/M):=by
   rw[<-aA.out.1];exact⟨_,ht.canon s6.out,ht.lv,Sl.kept hs hg al⟩
  have bC:Num (W.drew.putObj D (.deferred none)) (.slice ar lr cr) (lv xs%M):=by
   rw[<-aA.out.2];exact Num.kept (show Num W.drew _ _ from s2.out) hg al
  obtain⟨av,lv',cv,ev⟩:=bk.shape;subst ev;refine⟨.tuple #[.slice av lv' cv,.slice ar lr cr],by simp[results,Tryz.results133,go_sem],⟨_,_,rfl,bk,bC⟩,?_⟩;exact(aD.out.drew).grown hg aD.out.size (fun k e=>by cases e;exact Nat.le_trans f7.size hD)
 case stop =>
  rintro D c pre W _ _ h _;exact h.elim
theorem N7 (w:World) (v u:Value) (n m:Nat) (hn:Num w v n) (hm:Num w u m) (h:BQ n) (ae:BQ (m*1000000000)) (ad:0<m) (h0:0<w.heap.size) :
 Calls Tryz.prog 133 #[v,u] w fun e w' =>
  (∃q r,e=.returned (.tuple #[q,r])/\Num w' q (n/m)/\Num w' r (n%m))/\Below w.heap.size w w':=by
 obtain⟨xs,hx,rfl,d⟩:=hn;obtain⟨mc,ml,mcap,rfl⟩:=hm.shape;have hl:=hx.len_le (k:=200) h;obtain⟨b,hb,aa⟩:=SlAt.of d h0;obtain⟨a,cap,rfl,_⟩:=d.addr;exact Qw w a cap xs mc ml mcap m hl hx.1 b hb aa hm ad ae
end Nt
end
section
open Go.RowKit Go.Shelf
namespace Nt
theorem LJ {xs:List Nat} (h:Canon xs):xs.length=0↔lv xs=0:=by
 constructor
 · intro e;rw[List.length_eq_zero_iff.1 e];rfl
 · intro e;have:=h.len_le (k:=0) (by rw[e];decide);omega
theorem Num.open {W:World} {v:Value} {n:Nat} (h:Num W v n):∃a l c,v=.slice a l c/\(l=0↔n=0):=by
 obtain⟨xs,h1,h2,a,c,h3,_⟩:=h;exact⟨a,_,c,h3,by rw[<-h2];exact LJ h1⟩
def Qx (w:World) (N G:Nat) (g:Nat) (v u:Value) (wr:World):Prop :=
 ∃n,Num wr v n/\Num wr u g/\Nat.gcd n g=G/\n<=N/\g<=N/\Below w.heap.size w wr
theorem Th (w:World) (v u:Value) (n m N:Nat) (hn:Num w v n) (hm:Num w u m) (af:n<=N) (ag:m<=N) (hN:BQ (N*1000000000)) (h0:0<w.heap.size) :
 Calls Tryz.prog 131 #[v,u] w fun e w'=>(∃q,e=.returned q/\Num w' q (Nat.gcd n m))/\Below w.heap.size w w':=by
 have aa:Qx w N (Nat.gcd n m) m v u w:=⟨n,hn,hm,rfl,af,ag,Below.refl _ _⟩;obtain⟨a,l,c,rfl,ad⟩:=hn.open;obtain⟨a2,l2,c2,rfl,d⟩:=hm.open;replace ad:=zh ad;replace d:=zh d;clear hn hm;go_enter Tryz.func131,Tryz.ntmps131;go_wp2
 go_loopg [0,1] m (fun g v u wr=>Qx w N (Nat.gcd n m) g v u wr)
 case atStart=>exact aa
 case round =>
  clear ad d aa;obtain⟨k,h1,h2,h3,h4,h5,h6⟩:=hrel;obtain⟨a1,l1,c1,rfl,_⟩:=h1.open;obtain⟨a2,l2,c2,rfl,d⟩:=h2.open
  by_cases hg:gk=0
  · have hl:=d.2 hg;subst hl;replace h1:=zh h1;replace h3:=zh h3;replace hg:=zh hg;replace h6:=zh h6;clear h2 d;go_wp2;go_ret;refine⟨⟨_,rfl,?_⟩,h6.out⟩;rw[<-h3.out,hg.out,Nat.gcd_zero_right];exact h1.out
  · have hl:0<l2:=by
     rcases Nat.eq_zero_or_pos l2 with h | h
     · exact absurd (d.1 h) hg
     · exact h
    have ae:=h6.size;have hc:=N7 wr _ _ k gk h1 h2 (BR hN (by omega)) (BR hN (Nat.mul_le_mul_right _ h5)) (by omega) (by omega);replace h1:=zh h1;replace h2:=zh h2;replace h3:=zh h3;replace hg:=zh hg;replace h6:=zh h6;clear d
    go_wp2_with (go_at_call 133;refine hc.mono ?_;rintro e w2 ⟨⟨q,r,rfl,hq,hr⟩,hb⟩;replace hq:=zh hq;replace hr:=zh hr;replace hb:=zh hb)
    go_roundg (k%gk)
    case measure=>exact Nat.mod_lt _ (by have:=hg.out;omega)
    case rel =>
     refine⟨gk,h2.out.below hb.out,hr.out,?_,h5,?_,h6.out.trans (hb.out.mono ae)⟩
     · rw[<-h3.out,Nat.gcd_comm gk,<-Nat.gcd_rec,Nat.gcd_comm]
     · have:=Nat.mod_lt k (show gk>0 by have:=hg.out;omega);omega
end Nt
end
section
open Go.RowKit Go.Shelf
namespace Nt
def val (s:ByteArray):Nat:=A5 s.data.toList
theorem AZ (n:Nat):val (num n)=n:=Au n
theorem N8 {s:ByteArray} (h:isN s=true):num (val s)=s:=by
 obtain⟨n,_,rfl⟩:=BF h;rw[AZ]
theorem B6 {s:ByteArray} (h:isN s=true):val s<Lim:=by
 obtain⟨n,hn,rfl⟩:=BF h;rw[AZ];exact hn
theorem Hu {s:ByteArray} (h:isN s=true):∀c∈s.data.toList,AE c:=((DW _).1 h).2.2.1
theorem AU {s:ByteArray} (h:isN s=true):s.size<=300:=by
 have:=((DW _).1 h).2.1
 simpa using this
theorem UK (a b:Nat) (h:a+a<=9*b):10^a*10^a<=1000000000^b:=by
 have e:(1000000000:Nat)=10^9:=rfl;rw[<-Nat.pow_add,e,<-Nat.pow_mul];exact Nat.pow_le_pow_right (by omega) h
theorem Hv:Lim*Lim<=1000000000^67:=by
 unfold Lim;exact UK mxd 67 (by rw[C9];omega)
theorem DE {n:Nat} (h:n<1000000000^67*1000000000):BQ n:=by
 have:1000000000^67*1000000000<=1000000000^200:=by
  rw[<-Nat.pow_succ];exact Nat.pow_le_pow_right (by omega) (by omega)
 exact Nat.lt_of_lt_of_le h this
theorem JA:Lim<=Lim*Lim:=Nat.le_mul_of_pos_left _ (Nat.pow_pos (by omega))
theorem B7 {n:Nat} (h:n<Lim):BQ n:=DE (by have:=Hv;have:=JA;omega)
theorem LK {n:Nat} (h:n<Lim):BQ (n*1000000000):=DE (by have:=Hv;have:=JA;omega)
theorem Ot {n m:Nat} (h:n<Lim) (k:m<Lim):BQ (n+m):=DE (by have:=Hv;have:=JA;omega)
theorem Ou {n m:Nat} (h:n<Lim) (k:m<Lim):BQ (n*m):=DE (by
 have:=Hv;have h1:n*m<=Lim*Lim:=Nat.mul_le_mul (by omega) (by omega);omega)
def Fh (k:Nat):ByteArray:=if k<Lim then num k else ⟨#[]⟩
def Fi (k:Nat):Int:=if k<Lim then 0 else 2
theorem CC (k:Nat):Dd (Lib.decDigits k)=.tuple #[.string (Fh k),.int .i64 (Fi k)]:=by
 have h:300<(Lib.decDigits k).length↔¬k<Lim:=by
  have e:(Lib.decDigits k).length<=300↔k<Lim:=by
   have:=AL k mxd (by rw[C9];omega);rw[<-C9];exact this
  omega
 unfold Dd Fh Fi
 by_cases hk:k<Lim
 · rw[if_neg (by rw[h];exact fun c=>c hk),if_pos hk,if_pos hk];rfl
 · rw[if_pos (h.2 hk),if_neg hk,if_neg hk]
def opS (k:Nat) (s t:ByteArray):ByteArray:=if isN s=true/\isN t=true then Fh k else ⟨#[]⟩
def opE (k:Nat) (s t:ByteArray):Int:=if isN s=true/\isN t=true then Fi k else 1
def CD (k:Nat) (s t:ByteArray) (w:World) (e:Ending) (w':World):Prop:=e=.returned (.tuple #[.string (opS k s t),.int .i64 (opE k s t)])/\Below w.heap.size w w'
theorem JB {k:Nat} {s t:ByteArray} (h:isN s=false∨isN t=false):opS k s t=⟨#[]⟩/\opE k s t=1:=by
 have:¬(isN s=true/\isN t=true):=by rintro⟨h1,h2⟩;rcases h with h | h<;>simp_all
 unfold opS opE;rw[if_neg this,if_neg this];exact⟨rfl,rfl⟩
theorem EV {k:Nat} {s t:ByteArray} (h1:isN s=true) (h2:isN t=true):opS k s t=Fh k/\opE k s t=Fi k:=by
 unfold opS opE;rw[if_pos ⟨h1,h2⟩,if_pos ⟨h1,h2⟩];exact⟨rfl,rfl⟩
theorem Bp (s:ByteArray) (w:World) (h:isN s=true):Calls Tryz.prog 132 #[.string s] w (Cu w.heap.size w (val s)) :=
 Oo s w (by have:=AU h;omega) (Hu h)
theorem UL {n m:Nat} (hn:n<Lim) (hm:m<Lim):Nat.gcd n m<Lim:=by
 rcases Nat.eq_zero_or_pos n with h | h
 · rw[h,Nat.gcd_zero_left];exact hm
 · exact Nat.lt_of_le_of_lt (Nat.gcd_le_left m h) hn
theorem LL {n m:Nat} (h:n<Lim) (k:m<Lim):BQ ((n+m)*1000000000):=by
 have:1000000000^68*1000000000<=1000000000^200:=by
  rw[<-Nat.pow_succ];exact Nat.pow_le_pow_right (by omega) (by omega)
 have h1:=Hv;have h2:=JA;have h3:1000000000^68=1000000000^67*1000000000:=Nat.pow_succ ..;unfold BQ;omega
theorem Ov (s t:ByteArray) (w:World) (hE:Env w) (hs:isN s=true) (ht:isN t=true) :
 Calls Tryz.prog 130 #[.string s,.string t,.func (.func 175) #[] #[]] w (CD (val s+val t) s t w):=by
 have ao:=AU hs;have aq:=AU ht;have an:=zh hE;have HG:=zh (EV (k:=val s+val t) hs ht);have c1:=Bz s w (by omega);rw[hs]at c1;have HS:=zh hs;have HT:=zh ht;clear hs ht;have hs:=HS.out;have ht:=HT.out;replace hs:=zh hs;replace ht:=zh ht;replace hE:=zh hE;go_enter Tryz.func130,Tryz.ntmps130
 go_wp2_with fail
 refine c1.mono ?_;rintro e w1 ⟨rfl,aj⟩;have aa:=zh aj;clear aj
 go_wp2_with fail
 have c2:=Bz t w1 (by omega);rw[ht.out]at c2;refine c2.mono ?_;rintro e w2 ⟨rfl,d⟩;have a:=zh (aa.out.trans (d.mono aa.out.size));clear d c1 c2 aa
 go_wp2_with fail
 refine(Bp s w2 hs.out).mono ?_;rintro e w3 ⟨v1,rfl,af,_,ae⟩;have ad:=zh (a.out.trans (ae.mono a.out.size));replace af:=zh af;clear ae a
 go_wp2_with fail
 refine(Bp t w3 ht.out).mono ?_;rintro e w4 ⟨v2,rfl,ah,_,d⟩;have a:=zh (ad.out.trans (d.mono ad.out.size));replace d:=zh d;replace ah:=zh ah;clear ad
 go_wp2_with fail
 have al:=hs.out;have am:=ht.out;refine(Tg _ v1 v2 (val s) (val t) (af.out.below d.out) ah.out (B7 (B6 hs.out)) (B7 (B6 ht.out))).mono ?_;rintro e w5 ⟨v3,rfl,ag,_,ae⟩;have h:=zh (a.out.trans (ae.mono a.out.size));replace ag:=zh ag;clear ae a d af ah al am
 go_wp2_with fail
 have ct:=DX w5 v3 _ ag.out (Ot (B6 hs.out) (B6 ht.out)) (hE.out.below h.out);refine ct.mono ?_;rintro e w6 ⟨rfl,ak⟩;rw[CC];have ai:=zh (h.out.trans (ak.mono h.out.size));clear ct ak h ag;go_wp2;go_ret2;exact⟨by rw[HG.out.1,HG.out.2];rfl,ai.out⟩
theorem Ow (s t:ByteArray) (w:World) (hE:Env w) (hs:isN s=true) (ht:isN t=true) (an:val t<=val s) :
 Calls Tryz.prog 130 #[.string s,.string t,.func (.func 169) #[] #[]] w (CD (val s-val t) s t w):=by
 have aq:=AU hs;have ar:=AU ht;have ao:=zh hE;have HG:=zh (EV (k:=val s-val t) hs ht);have c1:=Bz s w (by omega);rw[hs]at c1;have HS:=zh hs;have HT:=zh ht;clear hs ht;have hs:=HS.out;have ht:=HT.out;replace hs:=zh hs;replace ht:=zh ht;replace hE:=zh hE;go_enter Tryz.func130,Tryz.ntmps130
 go_wp2_with fail
 refine c1.mono ?_;rintro e w1 ⟨rfl,aj⟩;have aa:=zh aj;clear aj
 go_wp2_with fail
 have c2:=Bz t w1 (by omega);rw[ht.out]at c2;refine c2.mono ?_;rintro e w2 ⟨rfl,d⟩;have a:=zh (aa.out.trans (d.mono aa.out.size));clear d c1 c2 aa
 go_wp2_with fail
 refine(Bp s w2 hs.out).mono ?_;rintro e w3 ⟨v1,rfl,af,_,ae⟩;have ad:=zh (a.out.trans (ae.mono a.out.size));replace af:=zh af;clear ae a
 go_wp2_with fail
 refine(Bp t w3 ht.out).mono ?_;rintro e w4 ⟨v2,rfl,ah,_,d⟩;have a:=zh (ad.out.trans (d.mono ad.out.size));replace d:=zh d;replace ah:=zh ah;clear ad
 go_wp2_with fail
 have al:=hs.out;have am:=ht.out;refine(Nz _ v1 v2 (val s) (val t) (af.out.below d.out) ah.out an (B7 (B6 hs.out))).mono ?_;rintro e w5 ⟨v3,rfl,ag,_,ae⟩;have h:=zh (a.out.trans (ae.mono a.out.size));replace ag:=zh ag;clear ae a d af ah al am
 go_wp2_with fail
 have ct:=DX w5 v3 _ ag.out (B7 (by have:=B6 hs.out;omega)) (hE.out.below h.out);refine ct.mono ?_;rintro e w6 ⟨rfl,ak⟩;rw[CC];have ai:=zh (h.out.trans (ak.mono h.out.size));clear ct ak h ag;go_wp2;go_ret2;exact⟨by rw[HG.out.1,HG.out.2];rfl,ai.out⟩
theorem Ox (s t:ByteArray) (w:World) (hE:Env w) (hs:isN s=true) (ht:isN t=true) :
 Calls Tryz.prog 130 #[.string s,.string t,.func (.func 135) #[] #[]] w (CD (val s*val t) s t w):=by
 have ao:=AU hs;have aq:=AU ht;have an:=zh hE;have HG:=zh (EV (k:=val s*val t) hs ht);have c1:=Bz s w (by omega);rw[hs]at c1;have HS:=zh hs;have HT:=zh ht;clear hs ht;have hs:=HS.out;have ht:=HT.out;replace hs:=zh hs;replace ht:=zh ht;replace hE:=zh hE;go_enter Tryz.func130,Tryz.ntmps130
 go_wp2_with fail
 refine c1.mono ?_;rintro e w1 ⟨rfl,aj⟩;have aa:=zh aj;clear aj
 go_wp2_with fail
 have c2:=Bz t w1 (by omega);rw[ht.out]at c2;refine c2.mono ?_;rintro e w2 ⟨rfl,d⟩;have a:=zh (aa.out.trans (d.mono aa.out.size));clear d c1 c2 aa
 go_wp2_with fail
 refine(Bp s w2 hs.out).mono ?_;rintro e w3 ⟨v1,rfl,af,_,ae⟩;have ad:=zh (a.out.trans (ae.mono a.out.size));replace af:=zh af;clear ae a
 go_wp2_with fail
 refine(Bp t w3 ht.out).mono ?_;rintro e w4 ⟨v2,rfl,ah,_,d⟩;have a:=zh (ad.out.trans (d.mono ad.out.size));replace d:=zh d;replace ah:=zh ah;clear ad
 go_wp2_with fail
 have al:=hs.out;have am:=ht.out;refine(J9 _ v1 v2 (val s) (val t) (af.out.below d.out) ah.out (B7 (B6 hs.out)) (B7 (B6 ht.out))).mono ?_;rintro e w5 ⟨v3,rfl,ag,_,ae⟩;have h:=zh (a.out.trans (ae.mono a.out.size));replace ag:=zh ag;clear ae a d af ah al am
 go_wp2_with fail
 have ct:=DX w5 v3 _ ag.out (Ou (B6 hs.out) (B6 ht.out)) (hE.out.below h.out);refine ct.mono ?_;rintro e w6 ⟨rfl,ak⟩;rw[CC];have ai:=zh (h.out.trans (ak.mono h.out.size));clear ct ak h ag;go_wp2;go_ret2;exact⟨by rw[HG.out.1,HG.out.2];rfl,ai.out⟩
theorem Oy (s t:ByteArray) (w:World) (hE:Env w) (hs:isN s=true) (ht:isN t=true) :
 Calls Tryz.prog 130 #[.string s,.string t,.func (.func 131) #[] #[]] w (CD (Nat.gcd (val s) (val t)) s t w):=by
 have ao:=AU hs;have aq:=AU ht;have an:=zh hE;have HG:=zh (EV (k:=Nat.gcd (val s) (val t)) hs ht);have c1:=Bz s w (by omega);rw[hs]at c1;have HS:=zh hs;have HT:=zh ht;clear hs ht;have hs:=HS.out;have ht:=HT.out;replace hs:=zh hs;replace ht:=zh ht;replace hE:=zh hE;go_enter Tryz.func130,Tryz.ntmps130
 go_wp2_with fail
 refine c1.mono ?_;rintro e w1 ⟨rfl,aj⟩;have aa:=zh aj;clear aj
 go_wp2_with fail
 have c2:=Bz t w1 (by omega);rw[ht.out]at c2;refine c2.mono ?_;rintro e w2 ⟨rfl,d⟩;have a:=zh (aa.out.trans (d.mono aa.out.size));clear d c1 c2 aa
 go_wp2_with fail
 refine(Bp s w2 hs.out).mono ?_;rintro e w3 ⟨v1,rfl,af,_,ae⟩;have ad:=zh (a.out.trans (ae.mono a.out.size));replace af:=zh af;clear ae a
 go_wp2_with fail
 refine(Bp t w3 ht.out).mono ?_;rintro e w4 ⟨v2,rfl,ah,_,d⟩;have a:=zh (ad.out.trans (d.mono ad.out.size));replace d:=zh d;replace ah:=zh ah;clear ad
 go_wp2_with fail
 have al:=hs.out;have am:=ht.out;refine(Th _ v1 v2 (val s) (val t) (val s+val t) (af.out.below d.out) ah.out (Nat.le_add_right _ _) (Nat.le_add_left _ _) (LL (B6 hs.out) (B6 ht.out)) (by have:=a.out.size;have:=hE.out.pos;omega)).mono ?_;rintro e w5 ⟨⟨v3,rfl,ag⟩,ae⟩;have h:=zh (a.out.trans (ae.mono a.out.size));replace ag:=zh ag;clear ae a d af ah al am
 go_wp2_with fail
 have ct:=DX w5 v3 _ ag.out (B7 (UL (B6 hs.out) (B6 ht.out))) (hE.out.below h.out);refine ct.mono ?_;rintro e w6 ⟨rfl,ak⟩;rw[CC];have ai:=zh (h.out.trans (ak.mono h.out.size));clear ct ak h ag;go_wp2;go_ret2;exact⟨by rw[HG.out.1,HG.out.2];rfl,ai.out⟩
end Nt
end
section
open Go.RowKit Go.Shelf
namespace Nt
theorem CE (f:Nat) (k:Nat) (s t:ByteArray) (w:World) (hs:s.size<=140737488355328) (ht:t.size<=140737488355328) (hb:isN s=false∨isN t=false) :
 Calls Tryz.prog 130 #[.string s,.string t,.func (.func f) #[] #[]] w (CD k s t w):=by
 have HG:=zh (JB (k:=k) hb);have c1:=Bz s w (by omega)
 cases h1:isN s with
 | false =>
   rw[h1]at c1;clear hb h1;go_enter Tryz.func130,Tryz.ntmps130
   go_wp2_with (go_at_call 129;refine c1.mono ?_;rintro e w1 ⟨rfl,a⟩)
   go_ret2;exact⟨by rw[HG.out.1,HG.out.2];rfl,a⟩
 | true =>
   have h2:isN t=false:=by rcases hb with h | h;(· rw[h1]at h;cases h);(· exact h)
   rw[h1]at c1;have H2:=zh h2;clear hb h1 h2;go_enter Tryz.func130,Tryz.ntmps130
   go_wp2_with fail
   refine c1.mono ?_;rintro e w1 ⟨rfl,a⟩;replace a:=zh a
   go_wp2_with fail
   have c2:=Bz t w1 (by omega);rw[H2.out]at c2;refine c2.mono ?_;rintro e w2 ⟨rfl,d⟩;replace d:=zh d;go_wp2;go_ret2;exact⟨by rw[HG.out.1,HG.out.2];rfl,a.out.trans (d.out.mono a.out.size)⟩
theorem Ti (s t:ByteArray) (w:World) (hE:Env w) (hs:s.size<=140737488355328) (ht:t.size<=140737488355328) :
 Calls Tryz.prog 136 #[.string s,.string t] w (CD (val s+val t) s t w):=by
 have hc:Calls Tryz.prog 130 #[.string s,.string t,.func (.func 175) #[] #[]] w (CD (val s+val t) s t w):=by
  cases h1:isN s with
  | false=>exact CE _ _ s t w hs ht (.inl h1)
  | true =>
    cases h2:isN t with
    | false=>exact CE _ _ s t w hs ht (.inr h2)
    | true=>exact Ov s t w hE h1 h2
 go_enter Tryz.func136,Tryz.ntmps136
 go_wp2_with (go_at_call 130;refine hc.mono ?_;rintro e w1 ⟨rfl,a⟩)
 go_ret2;exact⟨rfl,a⟩
theorem Tj (s t:ByteArray) (w:World) (hE:Env w) (hs:s.size<=140737488355328) (ht:t.size<=140737488355328) :
 Calls Tryz.prog 86 #[.string s,.string t] w (CD (val s*val t) s t w):=by
 have hc:Calls Tryz.prog 130 #[.string s,.string t,.func (.func 135) #[] #[]] w (CD (val s*val t) s t w):=by
  cases h1:isN s with
  | false=>exact CE _ _ s t w hs ht (.inl h1)
  | true =>
    cases h2:isN t with
    | false=>exact CE _ _ s t w hs ht (.inr h2)
    | true=>exact Ox s t w hE h1 h2
 go_enter Tryz.func86,Tryz.ntmps86
 go_wp2_with (go_at_call 130;refine hc.mono ?_;rintro e w1 ⟨rfl,a⟩)
 go_ret2;exact⟨rfl,a⟩
theorem Tk (s t:ByteArray) (w:World) (hE:Env w) (hs:s.size<=140737488355328) (ht:t.size<=140737488355328) :
 Calls Tryz.prog 84 #[.string s,.string t] w (CD (Nat.gcd (val s) (val t)) s t w):=by
 have hc:Calls Tryz.prog 130 #[.string s,.string t,.func (.func 131) #[] #[]] w (CD (Nat.gcd (val s) (val t)) s t w):=by
  cases h1:isN s with
  | false=>exact CE _ _ s t w hs ht (.inl h1)
  | true =>
    cases h2:isN t with
    | false=>exact CE _ _ s t w hs ht (.inr h2)
    | true=>exact Oy s t w hE h1 h2
 go_enter Tryz.func84,Tryz.ntmps84
 go_wp2_with (go_at_call 130;refine hc.mono ?_;rintro e w1 ⟨rfl,a⟩)
 go_ret2;exact⟨rfl,a⟩
def FF (s t:ByteArray):Int:=if isN s=true/\isN t=true then Bm (val s) (val t) else 0
def FG (s t:ByteArray):Int:=if isN s=true/\isN t=true then 0 else 1
theorem GB (s t:ByteArray) (w:World) (hE:Env w) (hs:s.size<=140737488355328) (ht:t.size<=140737488355328) :
 Calls Tryz.prog 137 #[.string s,.string t] w fun e w'=>e=.returned (.tuple #[.int .i64 (FF s t),.int .i64 (FG s t)])/\Below w.heap.size w w':=by
 have c1:=Bz s w (by omega);replace hE:=zh hE
 cases h1:isN s with
 | false =>
   have HG:Hid (FF s t=0/\FG s t=1):=by unfold Hid FF FG;simp[h1]
   rw[h1]at c1;clear h1;go_enter Tryz.func137,Tryz.ntmps137
   go_wp2_with (go_at_call 129;refine c1.mono ?_;rintro e w1 ⟨rfl,h⟩)
   go_ret2;exact⟨by rw[HG.out.1,HG.out.2];rfl,h⟩
 | true =>
   cases h2:isN t with
   | false =>
     have HG:Hid (FF s t=0/\FG s t=1):=by unfold Hid FF FG;simp[h2]
     rw[h1]at c1;have H2:=zh h2;clear h1 h2;go_enter Tryz.func137,Tryz.ntmps137
     go_wp2_with fail
     refine c1.mono ?_;rintro e w1 ⟨rfl,h⟩;replace h:=zh h
     go_wp2_with fail
     have c2:=Bz t w1 (by omega);rw[H2.out]at c2;refine c2.mono ?_;rintro e w2 ⟨rfl,d⟩;replace d:=zh d;go_wp2;go_ret2;exact⟨by rw[HG.out.1,HG.out.2];rfl,h.out.trans (d.out.mono h.out.size)⟩
   | true =>
     have HG:Hid (FF s t=Bm (val s) (val t)/\FG s t=0):=by unfold Hid FF FG;simp[h1,h2]
     rw[h1]at c1;have H1:=zh h1;have H2:=zh h2;clear h1 h2;go_enter Tryz.func137,Tryz.ntmps137
     go_wp2_with fail
     refine c1.mono ?_;rintro e w1 ⟨rfl,h⟩;have aa:=zh h;clear h
     go_wp2_with fail
     have c2:=Bz t w1 (by omega);rw[H2.out]at c2;refine c2.mono ?_;rintro e w2 ⟨rfl,d⟩;have a:=zh (aa.out.trans (d.mono aa.out.size));clear d c1 c2 aa
     go_wp2_with fail
     refine(Bp s w2 H1.out).mono ?_;rintro e w3 ⟨v1,rfl,ae,_,ai⟩;have ad:=zh (a.out.trans (ai.mono a.out.size));replace ae:=zh ae;clear ai a
     go_wp2_with fail
     refine(Bp t w3 H2.out).mono ?_;rintro e w4 ⟨v2,rfl,af,_,d⟩;have a:=zh (ad.out.trans (d.mono ad.out.size));replace d:=zh d;replace af:=zh af;clear ad
     go_wp2_with fail
     refine(EC w4 v1 v2 (val s) (val t) (ae.out.below d.out) af.out (B7 (B6 H1.out)) (by have:=a.out.size;have:=hE.out.pos;omega)).mono ?_;rintro e w5 ⟨rfl,ag⟩;have ah:=zh (a.out.trans (ag.mono a.out.size));clear ag a d ae af;go_wp2;go_ret2;exact⟨by rw[HG.out.1,HG.out.2];rfl,ah.out⟩
def I5 (s t:ByteArray):ByteArray:=if isN s=true/\isN t=true/\val t<=val s then num (val s-val t) else ⟨#[]⟩
def I6 (s t:ByteArray):Int:=if isN s=true/\isN t=true then (if val t<=val s then 0 else 10) else 1
theorem Tl (s t:ByteArray) (w:World) (hE:Env w) (hs:s.size<=140737488355328) (ht:t.size<=140737488355328) :
 Calls Tryz.prog 138 #[.string s,.string t] w fun e w'=>e=.returned (.tuple #[.string (I5 s t),.int .i64 (I6 s t)])/\Below w.heap.size w w':=by
 have cc:=GB s t w hE hs ht
 by_cases hg:isN s=true/\isN t=true
 · have e1:FF s t=Bm (val s) (val t):=by unfold FF;rw[if_pos hg]
   have e2:FG s t=0:=by unfold FG;rw[if_pos hg]
   rw[e1,e2]at cc
   by_cases hle:val t<=val s
   · have HG:Hid (I5 s t=Fh (val s-val t)/\I6 s t=Fi (val s-val t)):=by
      have:=B6 hg.1;unfold Hid I5 I6 Fh Fi;rw[if_pos ⟨hg.1,hg.2,hle⟩,if_pos hg,if_pos hle,if_pos (by omega),if_pos (by omega)];exact⟨rfl,rfl⟩
     have hc:¬Bm (val s) (val t)<0:=by unfold Bm;rw[if_neg (by omega)];split<;>omega
     have HO:=zh (EV (k:=val s-val t) hg.1 hg.2);have ha:Hid (∀w1,Env w1->Calls Tryz.prog 130 #[.string s,.string t,.func (.func 169) #[] #[]] w1 (CD (val s-val t) s t w1)):=fun w1 h=>Ow s t w1 h hg.1 hg.2 hle;replace hE:=zh hE;generalize Bm (val s) (val t)=c at cc hc;clear e1 e2 hg hle;go_enter Tryz.func138,Tryz.ntmps138
     go_wp2_with (first
      | (go_at_call 137;refine cc.mono ?_;rintro e w1 ⟨rfl,a⟩;replace a:=zh a)
      | (go_at_call 130;refine(ha.out _ (by exact hE.out.below a.out)).mono ?_;rintro e w2 ⟨rfl,d⟩;replace d:=zh d))
     go_ret2;exact⟨by rw[HG.out.1,HG.out.2];exact congrArg Ending.returned (by simp[HO.out.1,HO.out.2]),a.out.trans (d.out.mono a.out.size)⟩
   · have HG:Hid (I5 s t=⟨#[]⟩/\I6 s t=10):=by
      unfold Hid I5 I6;rw[if_neg (fun h=>hle h.2.2),if_pos hg,if_neg hle];exact⟨rfl,rfl⟩
     rw[Cv (by omega)]at cc;replace hE:=zh hE;clear e1 e2 hg hle;go_enter Tryz.func138,Tryz.ntmps138
     go_wp2_with (go_at_call 137;refine cc.mono ?_;rintro e w1 ⟨rfl,a⟩;replace a:=zh a)
     go_ret2;exact⟨by rw[HG.out.1,HG.out.2];rfl,a.out⟩
 · have e1:FF s t=0:=by unfold FF;rw[if_neg hg]
   have e2:FG s t=1:=by unfold FG;rw[if_neg hg]
   rw[e1,e2]at cc
   have aa:isN s=false∨isN t=false:=by
    cases h1:isN s with
    | false=>exact .inl rfl
    | true=>right;cases h2:isN t with
      | false=>rfl
      | true=>exact absurd ⟨h1,h2⟩ hg
   have HG:Hid (I5 s t=⟨#[]⟩/\I6 s t=1):=by
    unfold Hid I5 I6;rw[if_neg (fun h=>hg ⟨h.1,h.2.1⟩),if_neg hg];exact⟨rfl,rfl⟩
   have HO:=zh (JB (k:=0) aa);have ha:Hid (∀w1,Calls Tryz.prog 130 #[.string s,.string t,.func (.func 169) #[] #[]] w1 (CD 0 s t w1)):=fun w1=>CE _ _ s t w1 hs ht aa;replace hE:=zh hE;clear e1 e2 hg aa;go_enter Tryz.func138,Tryz.ntmps138
   go_wp2_with (first
    | (go_at_call 137;refine cc.mono ?_;rintro e w1 ⟨rfl,a⟩;replace a:=zh a)
    | (go_at_call 130;refine(ha.out _).mono ?_;rintro e w2 ⟨rfl,d⟩;replace d:=zh d))
   go_ret2;exact⟨by rw[HG.out.1,HG.out.2];exact congrArg Ending.returned (by simp[HO.out.1,HO.out.2]),a.out.trans (d.out.mono a.out.size)⟩
end Nt
end
section
open Go.RowKit Go.Shelf
namespace Nt
def GW (s t:ByteArray):ByteArray:=if isN s=true/\isN t=true/\val t≠0 then num (val s/val t) else ⟨#[]⟩
def GX (s t:ByteArray):ByteArray:=if isN s=true/\isN t=true/\val t≠0 then num (val s%val t) else ⟨#[]⟩
def GY (s t:ByteArray):Int:=if isN s=true/\isN t=true then (if val t=0 then 15 else 0) else 1
def Tm (s t:ByteArray) (w:World) (e:Ending) (w':World):Prop:=e=.returned (.tuple #[.string (GW s t),.string (GX s t),.int .i64 (GY s t)])/\Below w.heap.size w w'
theorem KE {t:ByteArray} (h:isN t=true):t.toList=[48]↔val t=0:=by
 obtain⟨n,_,rfl⟩:=BF h;rw[AZ,Lib.toList_data];constructor
 · intro e;have h:=AZ n;unfold val at h;rw[e]at h;rw[<-h];rfl
 · intro e;subst e
   show Lib.decDigits 0=[48]
   rw[Lib.decDigits_one (by omega)];rfl
theorem Tn (s t:ByteArray) (w:World) (hE:Env w) (hs:s.size<=140737488355328) (ht:t.size<=140737488355328) :
 Calls Tryz.prog 85 #[.string s,.string t] w (Tm s t w):=by
 have c1:=Bz s w (by omega);replace hE:=zh hE
 cases h1:isN s with
 | false =>
   have HG:Hid (GW s t=⟨#[]⟩/\GX s t=⟨#[]⟩/\GY s t=1):=by unfold Hid GW GX GY;simp[h1]
   rw[h1]at c1;clear h1;go_enter Tryz.func85,Tryz.ntmps85
   go_wp2_with (go_at_call 129;refine c1.mono ?_;rintro e w1 ⟨rfl,d⟩)
   go_ret3
   exact⟨by rw[HG.out.1,HG.out.2.1,HG.out.2.2];rfl,d⟩
 | true =>
   cases h2:isN t with
   | false =>
     have HG:Hid (GW s t=⟨#[]⟩/\GX s t=⟨#[]⟩/\GY s t=1):=by unfold Hid GW GX GY;simp[h2]
     rw[h1]at c1;have H2:=zh h2;clear h1 h2;go_enter Tryz.func85,Tryz.ntmps85
     go_wp2_with fail
     refine c1.mono ?_;rintro e w1 ⟨rfl,d⟩;replace d:=zh d
     go_wp2_with fail
     have c2:=Bz t w1 (by omega);rw[H2.out]at c2;refine c2.mono ?_;rintro e w2 ⟨rfl,a⟩;replace a:=zh a;go_wp2
     go_ret3
     exact⟨by rw[HG.out.1,HG.out.2.1,HG.out.2.2];rfl,d.out.trans (a.out.mono d.out.size)⟩
   | true =>
     rw[h1]at c1;have H1:=zh h1;have H2:=zh h2
     by_cases hz:val t=0
     · have HG:Hid (GW s t=⟨#[]⟩/\GX s t=⟨#[]⟩/\GY s t=15):=by unfold Hid GW GX GY;simp[h1,h2,hz]
       have hb:(t.toList==[48])=true:=by rw[beq_iff_eq];exact(KE h2).2 hz
       clear h1 h2 hz;go_enter Tryz.func85,Tryz.ntmps85
       go_wp2_with fail
       refine c1.mono ?_;rintro e w1 ⟨rfl,d⟩;replace d:=zh d
       go_wp2_with fail
       have c2:=Bz t w1 (by omega);rw[H2.out]at c2;refine c2.mono ?_;rintro e w2 ⟨rfl,a⟩;replace a:=zh a;go_wp2
       go_ret3
       exact⟨by rw[HG.out.1,HG.out.2.1,HG.out.2.2];rfl,d.out.trans (a.out.mono d.out.size)⟩
     · have hq:val s/val t<Lim:=Nat.lt_of_le_of_lt (Nat.div_le_self _ _) (B6 h1);have hr:val s%val t<Lim:=Nat.lt_of_le_of_lt (Nat.mod_le _ _) (B6 h1);have HG:Hid (GW s t=num (val s/val t)/\GX s t=num (val s%val t)/\GY s t=0):=by unfold Hid GW GX GY;simp[h1,h2,hz]
       have HL:Hid (Dd (Lib.decDigits (val s/val t))=.tuple #[.string (num (val s/val t)),.int .i64 0]/\Dd (Lib.decDigits (val s%val t))=.tuple #[.string (num (val s%val t)),.int .i64 0]):=by
        unfold Hid;rw[CC,CC];unfold Fh Fi;rw[if_pos hq,if_pos hr,if_pos hq,if_pos hr];exact⟨rfl,rfl⟩
       have hb:(t.toList==[48])=false:=by rw[beq_eq_false_iff_ne];exact fun h=>hz ((KE h2).1 h)
       replace hz:=zh hz;replace hq:=zh hq;replace hr:=zh hr;clear h1 h2;go_enter Tryz.func85,Tryz.ntmps85
       go_wp2_with fail
       refine c1.mono ?_;rintro e w1 ⟨rfl,d⟩;have af:=zh d;clear d
       go_wp2_with fail
       have c2:=Bz t w1 (by omega);rw[H2.out]at c2;refine c2.mono ?_;rintro e w2 ⟨rfl,a⟩;have aa:=zh (af.out.trans (a.mono af.out.size));clear a c1 c2 af
       go_wp2_with fail
       refine(Bp s w2 H1.out).mono ?_;rintro e w3 ⟨v1,rfl,ai,_,an⟩;have ah:=zh (aa.out.trans (an.mono aa.out.size));replace ai:=zh ai;clear an aa
       go_wp2_with fail
       refine(Bp t w3 H2.out).mono ?_;rintro e w4 ⟨v2,rfl,aj,_,a⟩;have aa:=zh (ah.out.trans (a.mono ah.out.size));replace a:=zh a;replace aj:=zh aj;clear ah
       go_wp2_with fail
       refine(N7 w4 v1 v2 (val s) (val t) (ai.out.below a.out) aj.out (B7 (B6 H1.out)) (LK (B6 H2.out)) (Nat.pos_of_ne_zero hz.out) (by have:=aa.out.size;have:=hE.out.pos;omega)).mono ?_;rintro e w5 ⟨⟨q,r,rfl,ak,al⟩,am⟩;have ae:=zh (aa.out.trans (am.mono aa.out.size));replace ak:=zh ak;replace al:=zh al;clear am aa a ai aj
       go_wp2_with fail
       refine(DX w5 q _ ak.out (B7 hq.out) (hE.out.below ae.out)).mono ?_;rintro e w6 ⟨rfl,ag⟩;rw[HL.out.1];have ad:=zh (ae.out.trans (ag.mono ae.out.size));replace ag:=zh ag;clear ae
       go_wp2_with fail
       refine(DX w6 r _ (al.out.below ag.out) (B7 hr.out) (hE.out.below ad.out)).mono ?_;rintro e w7 ⟨rfl,aq⟩;rw[HL.out.2];have ao:=zh (ad.out.trans (aq.mono ad.out.size));clear aq ag ad;go_wp2
       go_ret3
       exact⟨by rw[HG.out.1,HG.out.2.1,HG.out.2.2];rfl,ao.out⟩
theorem To:∀(l:List UInt8) (a:Nat),(∀c∈l,AE c)->a<18446744073709551616->Lib.parseUint10 a l=if a*10^l.length+A5 l<18446744073709551616 then .ok (a*10^l.length+A5 l) else .range:=by
 intro l
 induction l with
 | nil =>
   intro a _ ha;simp only[Lib.parseUint10,List.length_nil,Nat.pow_zero,Nat.mul_one,E9,Nat.add_zero];rw[if_pos ha]
 | cons c l ih =>
   intro a h ha;have h1:=h c (by simp);have hp:1<=10^l.length:=Nat.pow_pos (by omega)
   have e:a*10^(c::l).length+A5 (c::l)=(a*10+(c.toNat-48))*10^l.length+A5 l:=by
    rw[C8,List.length_cons,Nat.pow_succ,Nat.add_mul,Nat.mul_assoc a 10,Nat.mul_comm 10];omega
   rw[e];have aa:a*10+(c.toNat-48)<=(a*10+(c.toNat-48))*10^l.length:=Nat.le_mul_of_pos_right _ hp;rw[Lib.parseUint10,if_pos (show 48<=c.toNat/\c.toNat<=57 from h1)]
   by_cases c1:1844674407370955162<=a
   · rw[if_pos c1,if_neg (by omega)]
   · rw [if_neg c1]
     by_cases c2:18446744073709551616<=a*10+(c.toNat-48)
     · rw[if_pos c2,if_neg (by omega)]
     · rw[if_neg c2];exact ih _ (fun d hd=>h d (by simp[hd])) (by omega)
theorem Qy (n:Nat):Lib.atoiAll (num n).data.toList=if n<=9223372036854775807 then .ok (n:Int) else .range:=by
 have hd:=A7 n;have hv:=Au n
 show Lib.atoiAll (Lib.decDigits n)=_
 cases hl:Lib.decDigits n with
 | nil=>exact absurd hl (AK n)
 | cons c r =>
   rw[hl]at hd hv;have h1:=hd c (by simp);have h2:=h1.1;have hp:=To (c::r) 0 hd (by omega);rw[Nat.zero_mul,Nat.zero_add,hv]at hp;unfold Lib.atoiAll;simp only[Lib.parseMag];have a:¬c.toNat=45:=by omega
   have d:¬(c.toNat=43∨c.toNat=45):=by omega
   rw[if_neg d,if_neg (by simp),hp]
   by_cases hle:n<=9223372036854775807
   · rw[if_pos (by omega),if_pos hle];simp only[a];rw[if_neg (by omega),if_neg (by simp),if_neg (by simp)]
   · rw [if_neg hle]
     by_cases h64:n<18446744073709551616
     · rw[if_pos h64];simp only[a];rw[if_pos ⟨by simp,by omega⟩]
     · rw[if_neg h64]
theorem JC (l:List UInt8) (n:Nat) (h:Qf l=true) (hv:A5 l=n):num n=⟨l.toArray⟩:=by
 have:=N8 (s:=⟨l.toArray⟩) h;rw[<-this];exact congrArg num hv.symm
end Nt
end
section
open Go.RowKit Go.Shelf
namespace Nt
def T:Option Nat->ByteArray | some n=>num n | none=>⟨#[]⟩
def Ok (x:Option Nat):Prop:=∀n,x=some n->n<Lim
def JD (k:Nat):Option Nat:=if k<Lim then some k else none
def apO (f:Nat->Nat->Nat):Option Nat->Option Nat->Option Nat | some a,some b=>JD (f a b) | _,_=>none
def apE (f:Nat->Nat->Nat):Option Nat->Option Nat->Int | some a,some b=>if f a b<Lim then 0 else 2 | _,_=>1
def UM (x y:Option Nat):Option Nat:=apO (·+·) x y
def UN (x y:Option Nat):Int:=apE (·+·) x y
def Qz (x y:Option Nat):Option Nat:=apO (·*·) x y
def Q0 (x y:Option Nat):Int:=apE (·*·) x y
def LN (x y:Option Nat):Option Nat:=apO Nat.gcd x y
def LO (x y:Option Nat):Int:=apE Nat.gcd x y
def Tp:Option Nat->Option Nat->Option Nat | some a,some b=>if b<=a then some (a-b) else none | _,_=>none
def Tq:Option Nat->Option Nat->Int | some a,some b=>if b<=a then 0 else 10 | _,_=>1
def Oz:Option Nat->Option Nat->Option Nat | some a,some b=>if b=0 then none else some (a/b) | _,_=>none
def VF:Option Nat->Option Nat->Option Nat | some a,some b=>if b=0 then none else some (a%b) | _,_=>none
def O0:Option Nat->Option Nat->Int | some _,some b=>if b=0 then 15 else 0 | _,_=>1
def Q1:Option Nat->Option Nat->Int | some a,some b=>Bm a b | _,_=>0
def Tr:Option Nat->Option Nat->Int | some _,some _=>0 | _,_=>1
theorem Ah {n:Nat} (h:n<Lim):Ok (some n):=fun _ e=>by cases e;exact h
theorem C4 {x:Option Nat} (h:Ok x):isN (T x)=x.isSome:=by
 cases x with
 | none=>rfl
 | some n=>exact Ct (h n rfl)
theorem B0 {x:Option Nat} (h:Ok x):(T x).size<=140737488355328:=by
 cases x with
 | none=>exact Nat.zero_le _
 | some n =>
   have h1:isN (T (some n))=true:=C4 h;have h2:=((DW _).1 h1).2.1;have h3:(T (some n)).size=(T (some n)).data.toList.length:=Lib.size_eq _;omega
theorem O1 (x:Option Nat) (h:Ok x) (w:World):Calls Tryz.prog 129 #[.string (T x)] w fun e w'=>e=.returned (.bool x.isSome)/\Below w.heap.size w w':=by
 have:=Bz (T x) w (by have:=B0 h;omega)
 rwa [C4 h]at this
theorem Q2 (f:Nat->Nat->Nat) {x y:Option Nat} (hx:Ok x) (hy:Ok y):opS (f (val (T x)) (val (T y))) (T x) (T y)=T (apO f x y)/\opE (f (val (T x)) (val (T y))) (T x) (T y)=apE f x y:=by
 cases x with
 | none=>exact JB (.inl rfl)
 | some a =>
   cases y with
   | none=>exact JB (.inr rfl)
   | some b =>
     have h:=EV (k:=f (val (T (some a))) (val (T (some b)))) (C4 hx) (C4 hy);have ha:val (T (some a))=a:=AZ a;have hb:val (T (some b))=b:=AZ b;rw[ha,hb]at h ⊢;rw[h.1,h.2]
     show Fh (f a b)=T (JD (f a b))/\Fi (f a b)=if f a b<Lim then 0 else 2
     unfold JD Fh Fi
     by_cases hl:f a b<Lim
     · rw[if_pos hl,if_pos hl,if_pos hl];exact⟨rfl,rfl⟩
     · rw[if_neg hl,if_neg hl,if_neg hl];exact⟨rfl,rfl⟩
theorem Wq (x y:Option Nat) (w:World) (hE:Env w) (hx:Ok x) (hy:Ok y):Calls Tryz.prog 136 #[.string (T x),.string (T y)] w fun e w'=>e=.returned (.tuple #[.string (T (UM x y)),.int .i64 (UN x y)])/\Below w.heap.size w w':=by
 refine(Ti (T x) (T y) w hE (B0 hx) (B0 hy)).mono ?_;rintro e w' ⟨rfl,hb⟩;have:=Q2 (·+·) hx hy;exact⟨by rw[this.1,this.2];rfl,hb⟩
theorem VG (x y:Option Nat) (w:World) (hE:Env w) (hx:Ok x) (hy:Ok y):Calls Tryz.prog 86 #[.string (T x),.string (T y)] w fun e w'=>e=.returned (.tuple #[.string (T (Qz x y)),.int .i64 (Q0 x y)])/\Below w.heap.size w w':=by
 refine(Tj (T x) (T y) w hE (B0 hx) (B0 hy)).mono ?_;rintro e w' ⟨rfl,hb⟩;have:=Q2 (·*·) hx hy;exact⟨by rw[this.1,this.2];rfl,hb⟩
theorem Q3 (x y:Option Nat) (w:World) (hE:Env w) (hx:Ok x) (hy:Ok y):Calls Tryz.prog 84 #[.string (T x),.string (T y)] w fun e w'=>e=.returned (.tuple #[.string (T (LN x y)),.int .i64 (LO x y)])/\Below w.heap.size w w':=by
 refine(Tk (T x) (T y) w hE (B0 hx) (B0 hy)).mono ?_;rintro e w' ⟨rfl,hb⟩;have:=Q2 Nat.gcd hx hy;exact⟨by rw[this.1,this.2];rfl,hb⟩
theorem VH (x y:Option Nat) (w:World) (hE:Env w) (hx:Ok x) (hy:Ok y):Calls Tryz.prog 138 #[.string (T x),.string (T y)] w fun e w'=>e=.returned (.tuple #[.string (T (Tp x y)),.int .i64 (Tq x y)])/\Below w.heap.size w w':=by
 refine(Tl (T x) (T y) w hE (B0 hx) (B0 hy)).mono ?_;rintro e w' ⟨rfl,hb⟩;refine⟨?_,hb⟩;have h1:=C4 hx;have h2:=C4 hy
 cases x with
 | none=>unfold I5 I6;rw[h1];rfl
 | some a =>
   cases y with
   | none=>unfold I5 I6;rw[h2];simp;exact⟨rfl,rfl⟩
   | some b =>
     have ha:val (T (some a))=a:=AZ a;have hb:val (T (some b))=b:=AZ b;unfold I5 I6 Tp Tq;rw[h1,h2,ha,hb]
     by_cases h:b<=a
     · simp[h,T]
     · simp[h,T]
theorem LP (x y:Option Nat) (w:World) (hE:Env w) (hx:Ok x) (hy:Ok y):Calls Tryz.prog 85 #[.string (T x),.string (T y)] w fun e w'=>e=.returned (.tuple #[.string (T (Oz x y)),.string (T (VF x y)),.int .i64 (O0 x y)])/\Below w.heap.size w w':=by
 refine(Tn (T x) (T y) w hE (B0 hx) (B0 hy)).mono ?_;rintro e w' ⟨rfl,hb⟩;refine⟨?_,hb⟩;have h1:=C4 hx;have h2:=C4 hy
 cases x with
 | none=>unfold GW GX GY;rw[h1];rfl
 | some a =>
   cases y with
   | none=>unfold GW GX GY;rw[h2];simp;exact⟨rfl,rfl,rfl⟩
   | some b =>
     have ha:val (T (some a))=a:=AZ a;have hb:val (T (some b))=b:=AZ b;unfold GW GX GY Oz VF O0;rw[h1,h2,ha,hb]
     by_cases h:b=0
     · simp[h,T]
     · simp[h,T]
theorem VI (x y:Option Nat) (w:World) (hE:Env w) (hx:Ok x) (hy:Ok y):Calls Tryz.prog 137 #[.string (T x),.string (T y)] w fun e w'=>e=.returned (.tuple #[.int .i64 (Q1 x y),.int .i64 (Tr x y)])/\Below w.heap.size w w':=by
 refine(GB (T x) (T y) w hE (B0 hx) (B0 hy)).mono ?_;rintro e w' ⟨rfl,hb⟩;refine⟨?_,hb⟩;have h1:=C4 hx;have h2:=C4 hy
 cases x with
 | none=>unfold FF FG;rw[h1];rfl
 | some a =>
   cases y with
   | none=>unfold FF FG;rw[h2];simp;exact⟨rfl,rfl⟩
   | some b =>
     have ha:val (T (some a))=a:=AZ a;have hb:val (T (some b))=b:=AZ b;unfold FF FG Q1 Tr;rw[h1,h2,ha,hb];simp
theorem Q4:T (some 0)=⟨#[48]⟩:=JC [48] 0 (by decide) (by decide)
theorem Q5:(T (some 0)).toList=[48]:=by rw[Q4,Lib.toList_data]
theorem EW {a b:Nat} (ha:a<Lim) (hb:b<Lim):Nat.gcd a b<Lim:=by
 rcases Nat.eq_zero_or_pos a with rfl | h
 · rwa [Nat.gcd_zero_left]
 · exact Nat.lt_of_le_of_lt (Nat.gcd_le_left b h) ha
theorem U2:T (some 1)=⟨#[49]⟩:=JC [49] 1 (by decide) (by decide)
end Nt
end
section
open Go.RowKit Go.Shelf
namespace Nt
def sg (g:Bool) (a:Nat):Int:=if g then -(a:Int) else a
theorem Ca (g:Bool) (a:Nat):(sg g a).natAbs=a:=by cases g<;>simp[sg]
theorem Q6 (g:Bool) (a:Nat):decide (sg g a<0)=(g&&!decide (a=0)):=by
 rw[Bool.eq_iff_iff]
 cases g
 · simp[sg]
 · simp[sg];omega
theorem Ck (z:Int):sg (decide (z<0)) z.natAbs=z:=by
 unfold sg
 by_cases h:z<0
 · simp[h];omega
 · simp[h];omega
theorem Q7 (g h:Bool) (a b:Nat):sg g a*sg h b=sg (g != h) (a*b):=by
 cases g<;>cases h<;>simp[sg,Int.neg_mul,Int.mul_neg]
theorem Q8 (g:Bool) (a b:Nat) (hb:b≠0):(mkRat (sg g a) b).num=sg g (a/Nat.gcd a b):=by
 rw[Rat.num_mkRat,if_neg hb,Ca,Nat.gcd_comm]
 cases g
 · simp[sg]
 · simp only[sg,if_true];rw[Int.neg_ediv_of_dvd (Int.ofNat_dvd.2 (Nat.gcd_dvd_left a b)),Int.natCast_ediv]
theorem Q9 (g:Bool) (a b:Nat) (hb:b≠0):(mkRat (sg g a) b).den=b/Nat.gcd a b:=by
 rw[Rat.den_mkRat,if_neg hb,Ca,Nat.gcd_comm]
def qv (q:Rat):Value:=.agg #[.bool (decide (q.num<0)),.string (T (some q.num.natAbs)),.string (T (some q.den))]
def zv:Value:=.agg #[.bool false,.string ⟨#[]⟩,.string ⟨#[]⟩]
def OkQ (q:Rat):Prop:=q.num.natAbs<Lim/\q.den<Lim
theorem VJ (g:Bool) (a b:Nat) (hb:b≠0):qv (mkRat (sg g a) b)=.agg #[.bool (g&&!decide (a/Nat.gcd a b=0)),.string (T (some (a/Nat.gcd a b))),.string (T (some (b/Nat.gcd a b)))]:=by
 unfold qv;rw[Q8 g a b hb,Q9 g a b hb,Q6,Ca]
def Ax (g:Bool) (n d:ByteArray):Bool :=
 isN n&&(isN d&&(!decide (val d=0)&&(if val n=0 then !g&&decide (val d=1) else decide (Nat.gcd (val n) (val d)=1))))
theorem EX (g:Bool) (a b:Nat) (ha:a<Lim) (hb:b<Lim):Ax g (num a) (num b)=(!decide (b=0)&&(if a=0 then !g&&decide (b=1) else decide (Nat.gcd a b=1))):=by
 unfold Ax;rw[Ct ha,Ct hb,AZ,AZ,Bool.true_and,Bool.true_and]
theorem AP {q:Rat} (h:OkQ q):Ax (decide (q.num<0)) (T (some q.num.natAbs)) (T (some q.den))=true:=by
 show Ax _ (num _) (num _)=true
 rw[EX _ _ _ h.1 h.2];have hd:=q.den_nz;have hr:Nat.gcd q.num.natAbs q.den=1:=q.reduced
 by_cases h0:q.num.natAbs=0
 · rw[h0,Nat.gcd_zero_left]at hr;have:¬q.num<0:=by omega
   simp[h0,hr,this]
 · simp[h0,hd,hr]
theorem KF {g:Bool} {n d:ByteArray} (h:Ax g n d=true):∃q:Rat,OkQ q/\g=decide (q.num<0)/\n=T (some q.num.natAbs)/\d=T (some q.den):=by
 have h1:isN n=true:=by unfold Ax at h;simp only[Bool.and_eq_true]at h;exact h.1
 have h2:isN d=true:=by unfold Ax at h;simp only[Bool.and_eq_true]at h;exact h.2.1
 obtain⟨a,ha,rfl⟩:=BF h1;obtain⟨b,hb,rfl⟩:=BF h2;rw[EX g a b ha hb]at h;simp only[Bool.and_eq_true,Bool.not_eq_true',decide_eq_false_iff_not]at h;obtain⟨ad,h3⟩:=h
 have aa:Nat.gcd a b=1:=by
  by_cases h0:a=0
  · rw[if_pos h0]at h3;simp at h3;rw[h0,h3.2];rfl
  · rw[if_neg h0]at h3
    simpa using h3
 have hg:g=decide (sg g a<0):=by
  rw[Q6]
  by_cases h0:a=0
  · rw[if_pos h0]at h3;simp at h3;rw[h3.1];rfl
  · simp[h0]
 refine⟨⟨sg g a,b,ad,by rw[Ca];exact aa⟩,⟨by show (sg g a).natAbs<Lim;rw[Ca];exact ha,hb⟩,hg,?_,rfl⟩
 show num a=num (sg g a).natAbs
 rw[Ca]
@[irreducible] def mx1:Nat:=140
theorem DO:mx1=140:=by unfold mx1;rfl
def L1:Nat:=10^mx1
theorem Hf (n:Nat):(num n).size<=140↔n<L1:=by
 have:=AL n mx1 (by rw[DO];omega);have e:(num n).size=(Lib.decDigits n).length:=by simp[num,ByteArray.size]
 rw[e,<-DO];exact this
theorem UO:1<=L1:=Nat.pow_pos (by omega)
theorem IP:2*(L1*L1)<Lim:=by
 have e:L1*L1=10^(mx1+mx1):=by unfold L1;rw[Nat.pow_add]
 have h:10^(mx1+mx1+1)<=Lim:=by
  unfold Lim;exact Nat.pow_le_pow_right (by omega) (by rw[DO,C9];omega)
 rw[Nat.pow_succ]at h;rw[e];have h2:0<10^(mx1+mx1):=Nat.pow_pos (by omega);omega
theorem CF {a b:Nat} (ha:a<L1) (hb:b<L1):a*b<L1*L1:=Nat.mul_lt_mul'' ha hb
theorem AH {a:Nat} (h:a<L1):a<Lim:=by
 have h1:=IP;have h2:=UO;have h3:L1*1<=L1*L1:=Nat.mul_le_mul_left _ h2;omega
def ShortQ (q:Rat):Prop:=q.num.natAbs<L1/\q.den<L1
instance (q:Rat):Decidable (ShortQ q):=inferInstanceAs (Decidable (_/\_))
theorem ShortQ.ok {q:Rat} (h:ShortQ q):OkQ q:=⟨AH h.1,AH h.2⟩
theorem JE (p q:Rat):mkRat (p.num*q.den+q.num*p.den) (p.den*q.den)=p+q:=(Rat.add_def' p q).symm
theorem QA {g:Bool} {x y:Nat} {p q:Rat} (hp:g=decide (p.num<0)) (hq:g=decide (q.num<0)) (hx:x=p.num.natAbs*q.den) (hy:y=q.num.natAbs*p.den) :
 sg g (x+y)=p.num*q.den+q.num*p.den:=by
 rw[<-Ck p.num,<-Ck q.num,<-hp,<-hq,hx,hy]
 cases g
 · simp[sg]
 · simp only[sg,if_true,Int.natCast_add,Int.natCast_mul,Int.neg_mul];omega
theorem QB {g h:Bool} {x y:Nat} {p q:Rat} (hp:g=decide (p.num<0)) (hq:h=decide (q.num<0)) (hx:x=p.num.natAbs*q.den) (hy:y=q.num.natAbs*p.den) (a:g≠h) (hl:x<y) :
 sg h (y-x)=p.num*q.den+q.num*p.den:=by
 rw[<-Ck p.num,<-Ck q.num,<-hp,<-hq];have e1:(x:Int)=(p.num.natAbs:Int)*(q.den:Int):=by rw[hx,Int.natCast_mul]
 have e2:(y:Int)=(q.num.natAbs:Int)*(p.den:Int):=by rw[hy,Int.natCast_mul]
 cases g<;>cases h<;>simp only[sg,if_true,Bool.false_eq_true,if_false,Int.neg_mul,ne_eq,not_true_eq_false]at a ⊢
 all_goals omega
theorem QC {g h:Bool} {x y:Nat} {p q:Rat} (hp:g=decide (p.num<0)) (hq:h=decide (q.num<0)) (hx:x=p.num.natAbs*q.den) (hy:y=q.num.natAbs*p.den) (a:g≠h) (hl:y<=x) :
 sg g (x-y)=p.num*q.den+q.num*p.den:=by
 rw[<-Ck p.num,<-Ck q.num,<-hp,<-hq];have e1:(x:Int)=(p.num.natAbs:Int)*(q.den:Int):=by rw[hx,Int.natCast_mul]
 have e2:(y:Int)=(q.num.natAbs:Int)*(p.den:Int):=by rw[hy,Int.natCast_mul]
 cases g<;>cases h<;>simp only[sg,if_true,Bool.false_eq_true,if_false,Int.neg_mul,ne_eq,not_true_eq_false]at a ⊢
 all_goals omega
theorem UP (p q:Rat):mkRat (sg (decide (p.num<0) != decide (q.num<0)) (p.num.natAbs*q.num.natAbs)) (p.den*q.den)=p*q:=by
 rw[<-Q7,Ck,Ck,Rat.mul_def']
theorem QD (p q:Rat):mkRat (sg (decide (p.num<0) != decide (q.num<0)) (p.num.natAbs*q.den)) (p.den*q.num.natAbs)=p/q:=by
 have hi:q⁻¹=mkRat (sg (decide (q.num<0)) q.den) q.num.natAbs:=by
  rw[Rat.inv_def];unfold sg
  by_cases hn:q.num<0
  · have e:q.num=-((q.num.natAbs:Nat):Int):=by omega
    rw[decide_eq_true hn,if_pos rfl]
    conv=>lhs;rw[e]
    rw[Rat.divInt_neg',Rat.divInt_ofNat]
  · have e:q.num=((q.num.natAbs:Nat):Int):=by omega
    rw[decide_eq_false hn]
    conv=>lhs;rw[e]
    rw[Rat.divInt_ofNat];rfl
 have hp:p=mkRat (sg (decide (p.num<0)) p.num.natAbs) p.den:=by rw[Ck,Rat.mkRat_self]
 show _=p*q⁻¹
 rw[hi]
 conv=>rhs;rw[hp]
 rw[Rat.mkRat_mul_mkRat,Q7]
end Nt
end
section
open Go.RowKit Go.Shelf
namespace Ci
open Nt
abbrev Lk:=Int×Int×Bool×ByteArray×ByteArray
def InLk (W:World) (A:Option Addr) (l:List Lk):Prop :=
 0<l.length->∃b off,A=some ⟨b,off,none⟩/\b<W.heap.size/\∀j (h:j<l.length),W.cell? ⟨b,off+j*5,none⟩=some (.int .i64 l[j].1)/\W.cell? ⟨b,off+j*5+1,none⟩=some (.int .i64 l[j].2.1) /\
  W.cell? ⟨b,off+j*5+2,none⟩=some (.bool l[j].2.2.1)/\W.cell? ⟨b,off+j*5+3,none⟩=some (.string l[j].2.2.2.1)/\W.cell? ⟨b,off+j*5+4,none⟩=some (.string l[j].2.2.2.2)
def InStr (W:World) (A:Option Addr) (l:List ByteArray):Prop :=
 0<l.length->∃b off,A=some ⟨b,off,none⟩/\b<W.heap.size/\∀j (h:j<l.length),W.cell? ⟨b,off+j,none⟩=some (.string l[j])
def InInt (W:World) (A:Option Addr) (l:List Int):Prop :=
 0<l.length->∃b off,A=some ⟨b,off,none⟩/\b<W.heap.size/\∀j (h:j<l.length),W.cell? ⟨b,off+j,none⟩=some (.int .i64 l[j])
theorem InLk.below {W W':World} {A:Option Addr} {l:List Lk} (h:InLk W A l) (hb:Below W.heap.size W W'):InLk W' A l:=fun h0=>by
 obtain⟨b,off,e,hl,hc⟩:=h h0;refine⟨b,off,e,Nat.lt_of_lt_of_le hl hb.size,fun j hj=>?_⟩;obtain⟨c1,c2,c3,c4,c5⟩:=hc j hj;exact⟨(hb.cell (p:=⟨b,_,none⟩) hl).trans c1,(hb.cell (p:=⟨b,_,none⟩) hl).trans c2,(hb.cell (p:=⟨b,_,none⟩) hl).trans c3,(hb.cell (p:=⟨b,_,none⟩) hl).trans c4,(hb.cell (p:=⟨b,_,none⟩) hl).trans c5⟩
theorem InStr.below {W W':World} {A:Option Addr} {l:List ByteArray} (h:InStr W A l) (hb:Below W.heap.size W W'):InStr W' A l:=fun h0=>by
 obtain⟨b,off,e,hl,hc⟩:=h h0;exact⟨b,off,e,Nat.lt_of_lt_of_le hl hb.size,fun j hj=>(hb.cell (p:=⟨b,_,none⟩) hl).trans (hc j hj)⟩
theorem InInt.below {W W':World} {A:Option Addr} {l:List Int} (h:InInt W A l) (hb:Below W.heap.size W W'):InInt W' A l:=fun h0=>by
 obtain⟨b,off,e,hl,hc⟩:=h h0;exact⟨b,off,e,Nat.lt_of_lt_of_le hl hb.size,fun j hj=>(hb.cell (p:=⟨b,_,none⟩) hl).trans (hc j hj)⟩
def CS (i c:Nat):Prop:=(97<=c/\c<=122)∨(65<=c/\c<=90)∨(i≠0/\(c=95∨(48<=c/\c<=57)))
instance (i c:Nat):Decidable (CS i c):=inferInstanceAs (Decidable (_∨_))
def Bj (s:ByteArray):Bool:=decide (∀i (h:i<s.size),CS i s[i].toNat)&&(decide (0<s.size)&&decide (s.size<=24))
theorem O2 {s:ByteArray} {i:Nat} (h:i<s.size) (hb:¬CS i s[i].toNat):Bj s=false:=by
 unfold Bj;rw[decide_eq_false fun hc=>hb (hc i h)];rfl
theorem O3 {s:ByteArray} (h:∀i (h:i<s.size),CS i s[i].toNat):Bj s=(decide (0<s.size)&&decide (s.size<=24)):=by
 unfold Bj;rw[decide_eq_true h];rfl
abbrev Rw:=Bool×ByteArray×ByteArray
def unitsN (x:Rw):Nat :=
 if Ax x.1 x.2.1 x.2.2=false∨x.1=true∨4<x.2.1.size∨4<x.2.2.size then 0
 else if val x.2.2<val x.2.1∨6000%val x.2.2≠0 then 0 else val x.2.1*(6000/val x.2.2)
theorem QE (x:Rw):unitsN x<=6000:=by
 unfold unitsN
 split
 · omega
 · split
   · omega
   · rename_i h;have h1:val x.2.1<=val x.2.2:=by omega
     exact Nat.le_trans (Nat.mul_le_mul_right _ h1) (Nat.mul_div_le _ _)
def lkP (x:Lk):Rw:=(x.2.2.1,x.2.2.2.1,x.2.2.2.2)
def sumU (l:List Lk) (c:Int):Nat:=((l.filter fun x=>decide (x.1=c)).map fun x=>unitsN (lkP x)).sum
def LQ (a b:Lk):Prop:=a.1<b.1∨(a.1=b.1/\a.2.1<b.2.1)
instance (a b:Lk):Decidable (LQ a b):=inferInstanceAs (Decidable (_∨_))
def Own (n:Nat) (x:Lk):Prop:=(0<=x.1/\x.1<n)/\(0<=x.2.1/\x.2.1<n)/\x.1≠x.2.1/\unitsN (lkP x)≠0
instance (n:Nat) (x:Lk):Decidable (Own n x):=inferInstanceAs (Decidable (_/\_))
def CG (n:Nat) (l:List Lk) (i:Nat) (h:i<l.length):Prop:=Own n l[i]/\(0<i->LQ (l[i-1]'(by omega)) l[i])/\sumU (l.take (i+1)) l[i].1<=6000
instance (n:Nat) (l:List Lk) (i:Nat) (h:i<l.length):Decidable (CG n l i h):=inferInstanceAs (Decidable (_/\_))
def ED (n:Nat) (l:List Lk):Bool:=decide (∀i (h:i<l.length),CG n l i h)
theorem QF {n:Nat} {l:List Lk} {i:Nat} (h:i<l.length) (hb:¬CG n l i h):ED n l=false:=decide_eq_false fun hc=>hb (hc i h)
theorem QG {n:Nat} {l:List Lk} (h:∀i (h:i<l.length),CG n l i h):ED n l=true:=decide_eq_true h
theorem Ep {n:Nat} {l:List Lk} (h:ED n l=true) {i:Nat} (hi:i<l.length):CG n l i hi:=of_decide_eq_true h i hi
structure SR where
 ps:List ByteArray
 cap:List Lk
 vot:List Lk
def O4 (a b:ByteArray):Bool:=Op.bytesLess a.toList b.toList||a.toList==b.toList
def DP (l:List ByteArray) (i:Nat) (h:i<l.length):Prop:=Bj l[i]=true/\(0<i->O4 l[i] (l[i-1]'(by omega))=false)
instance (l:List ByteArray) (i:Nat) (h:i<l.length):Decidable (DP l i h):=inferInstanceAs (Decidable (_/\_))
def Hw (l:List ByteArray):Bool:=decide (∀i (h:i<l.length),DP l i h)
theorem O5 {l:List ByteArray} {i:Nat} (h:i<l.length) (hb:¬DP l i h):Hw l=false:=decide_eq_false fun hc=>hb (hc i h)
theorem O6 {l:List ByteArray} (h:∀i (h:i<l.length),DP l i h):Hw l=true:=decide_eq_true h
def At (s:SR):Bool:=Hw s.ps&&(decide (s.ps.length<=60)&&(ED s.ps.length s.cap&&ED s.ps.length s.vot))
def Ad (s:SR):List (Nat×Nat):=s.cap.map fun x=>(x.2.1.toNat,x.1.toNat)
theorem Hx {s:SR} (h:At s=true):InN s.ps.length (Ad s):=fun x hx=>by
 unfold At at h;simp only[Bool.and_eq_true]at h;obtain⟨_,_,h2,_⟩:=h;obtain⟨y,hy,rfl⟩:=List.mem_map.1 hx;obtain⟨i,hi,rfl⟩:=List.getElem_of_mem hy;obtain⟨⟨a,b,_⟩,_⟩:=Ep h2 hi
 show _<_/\_<_
 simp only[];omega
end Ci
end
section
open Go.ChangeShapes Go.WideShapes Go.ChangeAt Go.RowKit Go.Shelf
namespace Nt
def KG:List (String×DataW Unit):=Rows.boundFewerRow.laid
theorem UQ:(Tryz.prog.globals[2]?).map (·.type)=some 221:=by kernel_rfl
theorem UR:(Tryz.prog.globals[0]?).map (·.type)=some 123:=by kernel_rfl
theorem US:(Tryz.prog.globals[1]?).map (·.type)=some 123:=by kernel_rfl
theorem O7:Tryz.prog.cellsOf 159=1:=by kernel_rfl
theorem O8:Tryz.prog.cellsOf 221=20:=by kernel_rfl
theorem IQ:Tryz.prog.cellsOf 9=1:=by kernel_rfl
theorem KH:Tryz.prog.cellsOf 217=1:=by kernel_rfl
theorem VK:"*"++"errors.errorString"="*errors.errorString" := by decide
theorem QH (u:TypeId) (h:Tryz.prog.typeName? 3 u=some "*errors.errorString"):u=215 :=
 typeName_ptr_named (nm := "errors.errorString") (by rw[VK]; kernel_rfl) (by kernel_rfl) (by decide) u (by rw[VK]; exact h)
theorem UT {W:World} (h:laidMetH Tryz.prog KG W):Env W:=by
 have h0:=(laidMetH_iff.1 h).1
 have hT:laidMet Tryz.prog [("internal/strconv.uint64pow10", Lib.tabData .u64 Lib.pow10Tab)] W := by
  have := h0.filter (fun x=>x.1=="internal/strconv.uint64pow10")
  rwa [show (KG.filter fun x=>x.2.handleName?.isNone).filter (fun x=>x.1=="internal/strconv.uint64pow10")=[("internal/strconv.uint64pow10", Lib.tabData .u64 Lib.pow10Tab)] by kernel_rfl]at this
 have hS:laidMet Tryz.prog [("strconv.ErrSyntax", .iface "*errors.errorString" (.ptr (.agg [.lit (.string [105, 110, 118, 97, 108, 105, 100, 32, 115, 121, 110, 116, 97, 120])])))] W := by
  have := h0.filter (fun x=>x.1=="strconv.ErrSyntax")
  rwa [show (KG.filter fun x=>x.2.handleName?.isNone).filter (fun x=>x.1=="strconv.ErrSyntax")=[("strconv.ErrSyntax", .iface "*errors.errorString" (.ptr (.agg [.lit (.string [105, 110, 118, 97, 108, 105, 100, 32, 115, 121, 110, 116, 97, 120])])))] by kernel_rfl]at this
 have hR:laidMet Tryz.prog [("strconv.ErrRange", .iface "*errors.errorString" (.ptr (.agg [.lit (.string [118, 97, 108, 117, 101, 32, 111, 117, 116, 32, 111, 102, 32, 114, 97, 110, 103, 101])])))] W := by
  have := h0.filter (fun x=>x.1=="strconv.ErrRange")
  rwa [show (KG.filter fun x=>x.2.handleName?.isNone).filter (fun x=>x.1=="strconv.ErrRange")=[("strconv.ErrRange", .iface "*errors.errorString" (.ptr (.agg [.lit (.string [118, 97, 108, 117, 101, 32, 111, 117, 116, 32, 111, 102, 32, 114, 97, 110, 103, 101])])))] by kernel_rfl]at this
 refine⟨Lib.tabIs_of_head Nx UQ Tryz.underlying221 Tryz.underlying159 O7 O8 hT,?_,?_⟩
 · obtain⟨a0,s0,a,-,-,-⟩:=laid_sentinel hS PZ UR Tryz.underlying123 QH Tryz.underlying215 Tryz.underlying217 rfl rfl Tryz.underlying9 KH IQ;exact⟨_,_,a⟩
 · obtain⟨a0,s0,a,-,-,-⟩:=laid_sentinel hR Qa US Tryz.underlying123 QH Tryz.underlying215 Tryz.underlying217 rfl rfl Tryz.underlying9 KH IQ;exact⟨_,_,a⟩
noncomputable def Dn (os:Os):World :=
 { World.doorLaid Tryz.prog 72 os with heap:=(World.doorLaid Tryz.prog 72 os).heap.modify 3 fun
  | .cells _ t frozen=>.cells (Go.Pinned.utf8FirstZ.map fun(z:Nat)=>Value.int .u8 z).toArray t frozen
  | o=>o }
theorem own:ownKnob Tryz.prog.godebug=none:=by kernel_rfl
theorem laid_met (os:Os) (args:Array Value):laidMetH Tryz.prog KG ((Dn os).forCall (fun _ _=>0) ⟨#[],args,[]⟩).memory :=
 laidMet_of_run3 8 (by kernel_rfl) (by kernel_rfl) (by kernel_rfl)
theorem Ts (os:Os) (args:Array Value):((Dn os).forCall (fun _ _=>0) ⟨#[],args,[]⟩).variablesRefB Tryz.prog=true:=by kernel_rfl
theorem Tt (os:Os) (args:Array Value):(((Dn os).forCall (fun _ _=>0) ⟨#[],args,[]⟩).heap.toList.drop Tryz.prog.globals.size).take ((begin Tryz.prog (fun _ _=>0) default).world.heap.size-Tryz.prog.globals.size) =
 (begin Tryz.prog (fun _ _=>0) default).world.heap.toList.drop Tryz.prog.globals.size:=by kernel_rfl
end Nt
end
section
open Go.RowKit Go.Shelf
namespace Nt
def B3 (W:World) (b:Nat) (g:Bool) (n d:ByteArray):Prop:=W.heap[b]? = some (.cells #[.bool g,.string n,.string d] 40 (0,0))
theorem B3.lt {W:World} {b:Nat} {g:Bool} {n d:ByteArray} (h:B3 W b g n d):b<W.heap.size:=(Array.getElem?_eq_some_iff.1 h).1
theorem B3.facts {W:World} {b:Nat} {g:Bool} {n d:ByteArray} (h:B3 W b g n d) :
 W.cell? ⟨b,0,none⟩=some (.bool g)/\W.cell? ⟨b,1,none⟩=some (.string n)/\W.cell? ⟨b,2,none⟩=some (.string d) /\
 W.frozen? ⟨b,0,none⟩=false/\W.frozen? ⟨b,1,none⟩=false/\W.frozen? ⟨b,2,none⟩=false:=by
 unfold B3 at h;simp[World.cell?,World.frozen?,h]
theorem B3.new (w:World) (g:Bool) (n d:ByteArray):B3 (w.alloc (.cells #[.bool g,.string n,.string d] 40)) w.heap.size g n d:=heap_alloc_new _ _
theorem B3.alloc {W:World} {b:Nat} {g:Bool} {n d:ByteArray} (h:B3 W b g n d) (o:Obj):B3 (W.alloc o) b g n d:=(Below.heap_alloc W o b h.lt).trans h
theorem B3.below {W W':World} {b:Nat} {g:Bool} {n d:ByteArray} (h:B3 W b g n d) (hb:Below W.heap.size W W'):B3 W' b g n d:=(hb.block b h.lt).trans h
theorem B3.other {W:World} {b:Nat} {g:Bool} {n d:ByteArray} (h:B3 W b g n d) {p:Addr} (hp:b≠p.block) (v:Value):B3 (W.setCell p v) b g n d:=(Below.heap_setCell _ _ _ _ hp).trans h
theorem B3.set0 {W:World} {b:Nat} {g:Bool} {n d:ByteArray} (h:B3 W b g n d) (g':Bool):B3 (W.setCell ⟨b,0,none⟩ (.bool g')) b g' n d:=by
 unfold B3 at h ⊢;simp[World.setCell,Array.getElem?_modify,h]
theorem B3.set1 {W:World} {b:Nat} {g:Bool} {n d:ByteArray} (h:B3 W b g n d) (n':ByteArray):B3 (W.setCell ⟨b,1,none⟩ (.string n')) b g n' d:=by
 unfold B3 at h ⊢;simp[World.setCell,Array.getElem?_modify,h]
theorem B3.set2 {W:World} {b:Nat} {g:Bool} {n d:ByteArray} (h:B3 W b g n d) (d':ByteArray):B3 (W.setCell ⟨b,2,none⟩ (.string d')) b g n d':=by
 unfold B3 at h ⊢;simp[World.setCell,Array.getElem?_modify,h]
theorem UU (n:Nat):((num n).toList==[49])=decide (n=1):=by
 have e:(num 1).toList=[49]:=by rw[show num 1=⟨#[49]⟩ from U2,Lib.toList_data]
 rw[<-e,Bool.eq_iff_iff,beq_iff_eq,decide_eq_true_iff,Lib.toList_data,Lib.toList_data];constructor
 · intro h;have:=congrArg A5 h;have e1:A5 (num n).data.toList=n:=Au n;have e2:A5 (num 1).data.toList=1:=Au 1
   rwa [e1,e2]at this
 · intro h;rw[h]
theorem Tu (n:Nat):((num n).toList==[48])=decide (n=0):=by
 have e:(num 0).toList=[48]:=Q5;rw[<-e,Bool.eq_iff_iff,beq_iff_eq,decide_eq_true_iff,Lib.toList_data,Lib.toList_data];constructor
 · intro h;have:=congrArg A5 h;have e1:A5 (num n).data.toList=n:=Au n;have e2:A5 (num 0).data.toList=0:=Au 0
   rwa [e1,e2]at this
 · intro h;rw[h]
theorem LR (g:Bool) (n d:ByteArray) (w:World) (hn:n.size<=140737488355328) (h:isN n=false) :
 Calls Tryz.prog 83 #[.agg #[.bool g,.string n,.string d]] w fun e w'=>e=.returned (.bool false)/\Below w.heap.size w w':=by
 go_enter Tryz.func83,Tryz.ntmps83
 go_wp2_with fail
 refine(Bz n _ (by omega)).mono ?_;rintro e w1 ⟨rfl,a⟩;rw[h];go_wp2;go_ret;exact⟨rfl,((Below.refl _ w).alloc (Nat.le_refl _) _).trans (a.mono (by simp))⟩
theorem LS (g:Bool) (n d:ByteArray) (w:World) (hn:n.size<=140737488355328) (hd:d.size<=140737488355328) (h:isN n=true) (h':isN d=false) :
 Calls Tryz.prog 83 #[.agg #[.bool g,.string n,.string d]] w fun e w'=>e=.returned (.bool false)/\Below w.heap.size w w':=by
 have H:=zh h';clear h';go_enter Tryz.func83,Tryz.ntmps83
 go_wp2_with fail
 refine(Bz n _ (by omega)).mono ?_;rintro e w1 ⟨rfl,a⟩;rw[h];have q1:=(B3.new w g n d).below a;obtain⟨a1,a2,a3,a4,a5,a6⟩:=q1.facts;have aa:=zh (((Below.refl _ w).alloc (Nat.le_refl _) _).trans (a.mono (by simp)));replace q1:=zh q1;clear a
 go_wp2_with fail
 refine(Bz d _ (by omega)).mono ?_;rintro e w2 ⟨rfl,ad⟩;rw[H.out];have ae:=zh (aa.out.trans (ad.mono aa.out.size));clear ad aa;go_wp2;go_ret;exact⟨rfl,ae.out⟩
theorem FH (n:Nat):((T (some n)).toList==[49])=decide (n=1):=UU n
theorem AC (n:Nat):((T (some n)).toList==[48])=decide (n=0):=Tu n
theorem LT (g:Bool) (a:Nat) (w:World) (ha:a<Lim) :
 Calls Tryz.prog 83 #[.agg #[.bool g,.string (T (some a)),.string (T (some 0))]] w fun e w'=>e=.returned (.bool false)/\Below w.heap.size w w':=by
 have z:=AC 0;rw[decide_eq_true rfl]at z;have h0:0<Lim:=by omega
 go_enter Tryz.func83,Tryz.ntmps83
 go_wp2_with fail
 refine(O1 (some a) (Ah ha) _).mono ?_;rintro e w1 ⟨rfl,d⟩;rw[Option.isSome_some];have q1:=(B3.new w g (T (some a)) (T (some 0))).below d;obtain⟨a1,a2,a3,a4,a5,a6⟩:=q1.facts;have aa:=zh (((Below.refl _ w).alloc (Nat.le_refl _) _).trans (d.mono (by simp)));replace q1:=zh q1;clear d
 go_wp2_with fail
 refine(O1 (some 0) (Ah h0) _).mono ?_;rintro e w2 ⟨rfl,h⟩;rw[Option.isSome_some];obtain⟨b1,b2,b3,b4,b5,b6⟩:=(q1.out.below h).facts;have ad:=zh (aa.out.trans (h.mono aa.out.size));clear h aa;go_wp2;go_ret;exact⟨rfl,ad.out⟩
theorem LU (g:Bool) (b:Nat) (w:World) (hb:b<Lim) (h:b≠0) :
 Calls Tryz.prog 83 #[.agg #[.bool g,.string (T (some 0)),.string (T (some b))]] w fun e w'=>e=.returned (.bool (!g&&decide (b=1)))/\Below w.heap.size w w':=by
 obtain⟨r,hr⟩:∃r,r=decide (b=1):=⟨_,rfl⟩;rw[<-hr]
 cases g<;>cases r
 all_goals
  have z:=AC 0;rw[decide_eq_true rfl]at z;have z2:=AC b;rw[decide_eq_false h]at z2;have z3:=FH b;rw[<-hr]at z3;clear hr;have h0:0<Lim:=by omega
  replace h:=zh h;go_enter Tryz.func83,Tryz.ntmps83
  go_wp2_with fail
  refine(O1 (some 0) (Ah h0) _).mono ?_;rintro e w1 ⟨rfl,a⟩;rw[Option.isSome_some];have q1:=(B3.new w _ (T (some 0)) (T (some b))).below a;obtain⟨a1,a2,a3,a4,a5,a6⟩:=q1.facts;have aa:=zh (((Below.refl _ w).alloc (Nat.le_refl _) _).trans (a.mono (by simp)));replace q1:=zh q1;clear a
  go_wp2_with fail
  refine(O1 (some b) (Ah hb) _).mono ?_;rintro e w2 ⟨rfl,d⟩;rw[Option.isSome_some];obtain⟨b1,b2,b3,b4,b5,b6⟩:=(q1.out.below d).facts;have ad:=zh (aa.out.trans (d.mono aa.out.size));clear d aa;go_wp2;go_ret;exact⟨rfl,ad.out⟩
theorem O9 (g:Bool) (a b:Nat) (w:World) (hE:Env w) (ha:a<Lim) (hb:b<Lim) (ad:a≠0) (ae:b≠0) :
 Calls Tryz.prog 83 #[.agg #[.bool g,.string (T (some a)),.string (T (some b))]] w fun e w'=>e=.returned (.bool (decide (Nat.gcd a b=1)))/\Below w.heap.size w w':=by
 have z:=AC a;rw[decide_eq_false ad]at z;have z2:=AC b;rw[decide_eq_false ae]at z2;have z3:=FH (Nat.gcd a b)
 have hG:Hid (LN (some a) (some b)=some (Nat.gcd a b)/\LO (some a) (some b)=0):=by
  have:=EW ha hb;exact⟨by simp only[LN,apO,JD,if_pos this],by simp only[LO,apE,if_pos this]⟩
 replace ad:=zh ad;replace ae:=zh ae;replace hE:=zh hE;go_enter Tryz.func83,Tryz.ntmps83
 go_wp2_with fail
 refine(O1 (some a) (Ah ha) _).mono ?_;rintro e w1 ⟨rfl,h⟩;rw[Option.isSome_some];have q1:=(B3.new w g (T (some a)) (T (some b))).below h;obtain⟨a1,a2,a3,a4,a5,a6⟩:=q1.facts;have af:=zh (((Below.refl _ w).alloc (Nat.le_refl _) _).trans (h.mono (by simp)));replace q1:=zh q1;clear h
 go_wp2_with fail
 refine(O1 (some b) (Ah hb) _).mono ?_;rintro e w2 ⟨rfl,aa⟩;rw[Option.isSome_some];obtain⟨b1,b2,b3,b4,b5,b6⟩:=(q1.out.below aa).facts;have d:=zh (af.out.trans (aa.mono af.out.size));clear aa af q1
 go_wp2_with fail
 refine(Q3 (some a) (some b) _ (hE.out.below d.out) (Ah ha) (Ah hb)).mono ?_;rintro e w3 ⟨rfl,ag⟩;rw[hG.out.1,hG.out.2];have ah:=zh (d.out.trans (ag.mono d.out.size));clear ag d;go_wp2;go_ret;exact⟨rfl,ah.out⟩
theorem AO (g:Bool) (n d:ByteArray) (w:World) (hE:Env w) (hn:n.size<=140737488355328) (hd:d.size<=140737488355328) :
 Calls Tryz.prog 83 #[.agg #[.bool g,.string n,.string d]] w fun e w'=>e=.returned (.bool (Ax g n d))/\Below w.heap.size w w':=by
 cases h1:isN n with
 | false =>
   have e:Ax g n d=false:=by unfold Ax;rw[h1];rfl
   rw[e];exact LR g n d w hn h1
 | true =>
   cases h2:isN d with
   | false =>
     have e:Ax g n d=false:=by unfold Ax;rw[h1,h2];rfl
     rw[e];exact LS g n d w hn hd h1 h2
   | true =>
     obtain⟨a,ha,rfl⟩:=BF h1;obtain⟨b,hb,rfl⟩:=BF h2;rw[EX g a b ha hb]
     by_cases hb0:b=0
     · subst hb0;simp only[decide_true,Bool.not_true,Bool.false_and];exact LT g a w ha
     · rw [decide_eq_false hb0,Bool.not_false,Bool.true_and]
       by_cases ha0:a=0
       · rw[if_pos ha0];subst ha0;exact LU g b w hb hb0
       · rw[if_neg ha0];exact O9 g a b w hE ha hb ha0 hb0
theorem Dx (g:Bool) (a b:Nat) (w:World) (hE:Env w) (ha:a<Lim) (hb:b<Lim) (aq:b≠0) :
 Calls Tryz.prog 115 #[.bool g,.string (T (some a)),.string (T (some b))] w fun e w'=>e=.returned (.tuple #[qv (mkRat (sg g a) b),.int .i64 0])/\Below w.heap.size w w':=by
 have HV:=zh (VJ g a b aq);obtain⟨G,am⟩:∃G,G=Nat.gcd a b:=⟨_,rfl⟩;have aj:G<Lim:=by rw[am];exact EW ha hb
 have al:G≠0:=by rw[am];exact Nat.ne_of_gt (Nat.gcd_pos_of_pos_right a (by omega))
 have hG:Hid (LN (some a) (some b)=some G/\LO (some a) (some b)=0):=by
  have:=EW ha hb;rw[am];exact⟨by simp only[LN,apO,JD,if_pos this],by simp only[LO,apE,if_pos this]⟩
 have ai:Hid (Oz (some a) (some G)=some (a/G)/\O0 (some a) (some G)=0):=⟨if_neg al,if_neg al⟩;have ah:Hid (Oz (some b) (some G)=some (b/G)/\O0 (some b) (some G)=0):=⟨if_neg al,if_neg al⟩;rw[<-am]at HV;have z:=AC (a/G);generalize hx:a/G=x at HV ai z;generalize hy:b/G=y at HV ah;replace hE:=zh hE;clear am al hx hy aq;have key:(g=false)∨(g=true/\x=0)∨(g=true/\x≠0):=by cases g<;>simp<;>omega
 rcases key with rfl | ⟨rfl,ag⟩ | ⟨rfl,ag⟩
 rotate_left
 · rw[decide_eq_true ag]at HV z;replace ag:=zh ag;go_enter Tryz.func115,Tryz.ntmps115
   go_wp2_with fail
   refine(Q3 (some a) (some b) _ (hE.out.below ((Below.refl _ w).alloc (Nat.le_refl _) _)) (Ah ha) (Ah hb)).mono ?_;rintro e w1 ⟨rfl,ad⟩;rw[hG.out.1,hG.out.2];have q1:=(B3.new w false ⟨#[]⟩ ⟨#[]⟩).below ad;have d:=zh (((Below.refl _ w).alloc (Nat.le_refl _) _).trans (ad.mono (by simp)));have ar:=q1.lt;replace q1:=zh q1;clear ad
   go_wp2_with fail
   refine(LP (some a) (some G) _ (hE.out.below (d.out.alloc d.out.size _)) (Ah ha) (Ah aj)).mono ?_;rintro e w2 ⟨rfl,h⟩;rw[ai.out.1,ai.out.2];have q2:=(q1.out.alloc _).below h;have r2:=(B3.new w1 true ⟨#[]⟩ ⟨#[]⟩).below h;have ae:=zh ((d.out.alloc d.out.size _).trans (h.mono (by have:=d.out.size;simp;omega)));obtain⟨c1,c2,c3,c4,c5,c6⟩:=r2.facts;have ao:=r2.lt;replace q2:=zh q2;replace r2:=zh r2;clear h q1
   go_wp2_with fail
   refine(LP (some b) (some G) _ (hE.out.below (ae.out.setCell (by have:=d.out.size;simpa using this) _)) (Ah hb) (Ah aj)).mono ?_;rintro e w3 ⟨rfl,aa⟩;rw[ah.out.1,ah.out.2];have q3:=(q2.out.other (p:=⟨w1.heap.size,1,none⟩) (by simp;omega) _).below aa;have r3:=(r2.out.set1 (T (some x))).below aa;have ak:=zh ((ae.out.setCell (p:=⟨w1.heap.size,1,none⟩) (by have:=d.out.size;simpa using this) _).trans (aa.mono (by have:=ae.out.size;simpa using this)));have af:=d.out.size;obtain⟨d1,d2,d3,d4,d5,d6⟩:=q3.facts;obtain⟨e1,e2,e3,e4,e5,e6⟩:=r3.facts;have an:=r3.lt;clear aa q2 r2 c1 c2 c3 c4 c5 c6;replace q3:=zh q3;replace r3:=zh r3;go_wp2;refine bodyPost_ret (v:=.tuple #[.agg #[.bool false,.string (T (some x)),.string (T (some y))],.int .i64 0]) (by simp[results,Tryz.results115,go_sem,d1,d2,d3]) rfl ⟨by rw[HV.out];rfl,?_⟩
   repeat refine Below.setCell ?_ (by first | exact Nat.le_refl _ | exact af) _
   exact ak.out
 · rw[decide_eq_false ag]at HV z;replace ag:=zh ag;go_enter Tryz.func115,Tryz.ntmps115
   go_wp2_with fail
   refine(Q3 (some a) (some b) _ (hE.out.below ((Below.refl _ w).alloc (Nat.le_refl _) _)) (Ah ha) (Ah hb)).mono ?_;rintro e w1 ⟨rfl,ad⟩;rw[hG.out.1,hG.out.2];have q1:=(B3.new w false ⟨#[]⟩ ⟨#[]⟩).below ad;have d:=zh (((Below.refl _ w).alloc (Nat.le_refl _) _).trans (ad.mono (by simp)));have ar:=q1.lt;replace q1:=zh q1;clear ad
   go_wp2_with fail
   refine(LP (some a) (some G) _ (hE.out.below (d.out.alloc d.out.size _)) (Ah ha) (Ah aj)).mono ?_;rintro e w2 ⟨rfl,h⟩;rw[ai.out.1,ai.out.2];have q2:=(q1.out.alloc _).below h;have r2:=(B3.new w1 true ⟨#[]⟩ ⟨#[]⟩).below h;have ae:=zh ((d.out.alloc d.out.size _).trans (h.mono (by have:=d.out.size;simp;omega)));obtain⟨c1,c2,c3,c4,c5,c6⟩:=r2.facts;have ao:=r2.lt;replace q2:=zh q2;replace r2:=zh r2;clear h q1
   go_wp2_with fail
   refine(LP (some b) (some G) _ (hE.out.below (ae.out.setCell (by have:=d.out.size;simpa using this) _)) (Ah hb) (Ah aj)).mono ?_;rintro e w3 ⟨rfl,aa⟩;rw[ah.out.1,ah.out.2];have q3:=(q2.out.other (p:=⟨w1.heap.size,1,none⟩) (by simp;omega) _).below aa;have r3:=(r2.out.set1 (T (some x))).below aa;have ak:=zh ((ae.out.setCell (p:=⟨w1.heap.size,1,none⟩) (by have:=d.out.size;simpa using this) _).trans (aa.mono (by have:=ae.out.size;simpa using this)));have af:=d.out.size;obtain⟨d1,d2,d3,d4,d5,d6⟩:=q3.facts;obtain⟨e1,e2,e3,e4,e5,e6⟩:=r3.facts;have an:=r3.lt;clear aa q2 r2 c1 c2 c3 c4 c5 c6;replace q3:=zh q3;replace r3:=zh r3;go_wp2;refine bodyPost_ret (v:=.tuple #[.agg #[.bool true,.string (T (some x)),.string (T (some y))],.int .i64 0]) (by simp[results,Tryz.results115,go_sem,d1,d2,d3]) rfl ⟨by rw[HV.out];rfl,?_⟩
   repeat refine Below.setCell ?_ (by first | exact Nat.le_refl _ | exact af) _
   exact ak.out
 · go_enter Tryz.func115,Tryz.ntmps115
   go_wp2_with fail
   refine(Q3 (some a) (some b) _ (hE.out.below ((Below.refl _ w).alloc (Nat.le_refl _) _)) (Ah ha) (Ah hb)).mono ?_;rintro e w1 ⟨rfl,ad⟩;rw[hG.out.1,hG.out.2];have q1:=(B3.new w false ⟨#[]⟩ ⟨#[]⟩).below ad;have d:=zh (((Below.refl _ w).alloc (Nat.le_refl _) _).trans (ad.mono (by simp)));have ar:=q1.lt;replace q1:=zh q1;clear ad
   go_wp2_with fail
   refine(LP (some a) (some G) _ (hE.out.below (d.out.alloc d.out.size _)) (Ah ha) (Ah aj)).mono ?_;rintro e w2 ⟨rfl,h⟩;rw[ai.out.1,ai.out.2];have q2:=(q1.out.alloc _).below h;have r2:=(B3.new w1 false ⟨#[]⟩ ⟨#[]⟩).below h;have ae:=zh ((d.out.alloc d.out.size _).trans (h.mono (by have:=d.out.size;simp;omega)));obtain⟨c1,c2,c3,c4,c5,c6⟩:=r2.facts;have ao:=r2.lt;replace q2:=zh q2;replace r2:=zh r2;clear h q1
   go_wp2_with fail
   refine(LP (some b) (some G) _ (hE.out.below (ae.out.setCell (by have:=d.out.size;simpa using this) _)) (Ah hb) (Ah aj)).mono ?_;rintro e w3 ⟨rfl,aa⟩;rw[ah.out.1,ah.out.2];have q3:=(q2.out.other (p:=⟨w1.heap.size,1,none⟩) (by simp;omega) _).below aa;have r3:=(r2.out.set1 (T (some x))).below aa;have ak:=zh ((ae.out.setCell (p:=⟨w1.heap.size,1,none⟩) (by have:=d.out.size;simpa using this) _).trans (aa.mono (by have:=ae.out.size;simpa using this)));have af:=d.out.size;obtain⟨d1,d2,d3,d4,d5,d6⟩:=q3.facts;obtain⟨e1,e2,e3,e4,e5,e6⟩:=r3.facts;have an:=r3.lt;clear aa q2 r2 c1 c2 c3 c4 c5 c6;replace q3:=zh q3;replace r3:=zh r3;go_wp2;refine bodyPost_ret (v:=.tuple #[.agg #[.bool false,.string (T (some x)),.string (T (some y))],.int .i64 0]) (by simp[results,Tryz.results115,go_sem,d1,d2,d3]) rfl ⟨by rw[HV.out];rfl,?_⟩
   repeat refine Below.setCell ?_ (by first | exact Nat.le_refl _ | exact af) _
   exact ak.out
end Nt
end
section
open Go.RowKit Go.Shelf
namespace Nt
theorem VL:(Tryz.prog.info? 9).map (fun i=>(i.zero,i.size,i.bytes))=some (some (.string ⟨#[]⟩),1,16):=by kernel_rfl
def FI (ks:List Nat):List Value:=ks.map fun k=>Value.string (T (some k))
def Eq (W:World) (v:Value) (ks:List Nat):Prop:=∃g cap,v=.slice (some ⟨g,0,none⟩) ks.length cap/\g<W.heap.size/\∀i (h:i<ks.length),W.cell? ⟨g,i,none⟩=some (.string (T (some ks[i])))
theorem LV (ks:List Nat) (k:Nat):FI ks++[Value.string (T (some k))]=FI (ks++[k]):=by simp[FI]
theorem FJ {B:Nat} {W:World} {v:Value} {ks:List Nat} (h:W.ownsRow B 9 1 v ks.length (FI ks)) (h0:ks≠[]):Eq W v ks:=by
 rcases id h.2 with⟨rfl,hx⟩ | ⟨g,cap,cur,rfl,hg,hh,hn,d,a,ht⟩
 · exact absurd (List.length_eq_zero_iff.1 hx) h0
 · refine⟨g,cap,rfl,(Array.getElem?_eq_some_iff.1 hh).1,fun i hi=>?_⟩;rw[World.ownsRow.cellAt h i (by omega)];simp[FI,hi]
def Er (W:World) (b:Nat) (ps:List (Nat×Nat)):Prop:=∀i (h:i<ps.length),W.cell? ⟨b,i*2,none⟩=some (.string (T (some ps[i].1)))/\W.cell? ⟨b,i*2+1,none⟩=some (.string (T (some ps[i].2)))
def DY (ps:List (Nat×Nat)):List Nat:=ps.map fun p=>p.1*p.2
def VN (w:World) (ps:List (Nat×Nat)) (k:Nat) (v:Value) (wr:World):Prop :=
 wr.ownsRow w.heap.size 9 1 v (DY (ps.take k)).length (FI (DY (ps.take k)))/\Below w.heap.size w wr
theorem Hy {B:Nat} {e:TypeId} {size:Nat} {w w':World} {v:Value} {n:Nat} {xs:List Value} (h:w.ownsRow B e size v n xs) (hb:Below w.heap.size w w'):w'.ownsRow B e size v n xs:=by
 obtain⟨h1,h2⟩:=h;refine⟨h1,?_⟩
 rcases h2 with h2 | ⟨g,cap,cur,hv,hg,hh,r⟩
 · exact Or.inl h2
 · exact Or.inr ⟨g,cap,cur,hv,hg,by rw[hb.block g (Array.getElem?_eq_some_iff.1 hh).1];exact hh,r⟩
theorem LW (s:ByteArray):∀u∈[Value.string s],u.oneCell'=true:=by
 intro u hu;simp at hu;subst hu;rfl
theorem De (w:World) (hE:Env w) (b cap:Nat) (ps:List (Nat×Nat)) (hb:b<w.heap.size) (hl:ps.length<=100) (hp:Er w b ps) (hs:∀p∈ps,p.1<Lim/\p.2<Lim/\p.1*p.2<Lim) :
 Calls Tryz.prog 114 #[.slice (some ⟨b,0,none⟩) ps.length cap] w fun e w'=>(∃v,e=.returned v/\w'.ownsRow w.heap.size 9 1 v (DY ps).length (FI (DY ps)))/\Below w.heap.size w w':=by
 obtain⟨i0,hi,ah,ag,ai⟩:=info_parts VL;have HP:=zh hp;have HS:=zh hs;replace hE:=zh hE;clear hp hs;go_enter Tryz.func114,Tryz.ntmps114;go_wp2
 go_loopw [3,10] (fun v i wr=>∃k:Nat,k<=ps.length/\i=.int .i64 (k:Int)/\VN w ps k v wr) (fun _ i _=>ps.length-(intOf i).toNat)
 case atStart=>exact⟨0,Nat.zero_le _,rfl,World.ownsRow_nil _ _ _ _,Below.refl _ _⟩
 case round =>
  obtain⟨k,hk,rfl,z1,z2⟩:=hrel;have ad:=z2.size
  by_cases hlt:k<ps.length
  · obtain ⟨x,hx⟩:∃x,x=ps[k].1:=⟨_,rfl⟩;obtain⟨y,hy⟩:∃y,y=ps[k].2:=⟨_,rfl⟩;obtain⟨aa,h⟩:=HP.out k hlt;obtain⟨s1,s2,s3⟩:=HS.out _ (List.getElem_mem hlt);rw[<-hx]at aa s1 s3;rw[<-hy]at h s2 s3;have c1:=(z2.cell (p:=⟨b,k*2,none⟩) hb).trans aa;have c2:=(z2.cell (p:=⟨b,k*2+1,none⟩) hb).trans h;have hM:Hid (Qz (some x) (some y)=some (x*y)/\Q0 (some x) (some y)=0):=⟨by simp only[Qz,apO,JD,if_pos s3],by simp only[Q0,apE,if_pos s3]⟩
    have hN:Hid (DY (ps.take (k+1))=DY (ps.take k)++[x*y]):=by
     unfold Hid DY;rw[List.take_succ_eq_append_getElem hlt,List.map_append,hx,hy];rfl
    have hL:Hid ((DY (ps.take k)).length=k):=by unfold Hid DY;simp;omega
    replace z1:=zh z1;replace z2:=zh z2;clear aa h hx hy
    go_wp2_with fail
    refine(VG (some x) (some y) _ (hE.out.below (z2.out.alloc ad _)) (Ah s1) (Ah s2)).mono ?_;rintro e w1 ⟨rfl,a⟩;rw[hM.out.1,hM.out.2];have ae:=zh ((z2.out.alloc ad _).trans (a.mono (by simp;omega)));have ho:Hid (w1.ownsRow w.heap.size 9 1 u3 (DY (ps.take k)).length (FI (DY (ps.take k)))):=Hy (z1.out.alloc _) a;have aj:=ae.out.size;clear a z1 z2
    go_wp2_with (at_builtin;refine wpList_append_own _ rfl _ _ 22 rfl w.heap.size 9 i0 (.string ⟨#[]⟩) 1 16 Tryz.underlying22 hi ah ag ai rfl (by decide) u3 (DY (ps.take k)).length (FI (DY (ps.take k))) rfl (ho.out.alloc _) ⟨w1.heap.size,0,none⟩ 1 1 [.string (T (some (x*y)))] rfl rfl (Cj _ _ _) (LW _) (by have:=hL.out;unfold maxLen;omega) (by have:=hL.out;omega) (by simp;omega) ?_;intro v2 w2 d af _)
    refine⟨⟨k+1,by omega,by go_num,?_,(ae.out.alloc (by omega) _).grown af (by simp;omega) (fun b e=>(ho.out.lt b e).1)⟩,by simp only[intOf];omega⟩;rw[hN.out,<-LV,List.length_append];exact d
  · obtain rfl:k=ps.length:=by omega
    have e:ps.take ps.length=ps:=List.take_of_length_le (Nat.le_refl _);rw[e]at z1;replace z1:=zh z1;replace z2:=zh z2;clear e;go_wp2;go_ret;exact⟨⟨_,rfl,z1.out⟩,z2.out⟩
end Nt
end
section
open Go.RowKit Go.Shelf
namespace Nt
theorem Cp {B:Nat} {a w:World} (h:Below B a w) (n:Nat):Below B a (w.drewN n):=⟨h.os,h.tape,h.output,h.size,h.block⟩
def SumBoxes (W:World) (B:Nat) (g1 g2:Bool) (a b c d:Nat):Prop :=
 B3 W B g1 (T (some a)) (T (some b))/\B3 W (B+1) g2 (T (some c)) (T (some d))/\B3 W (B+1+1) false ⟨#[]⟩ ⟨#[]⟩
abbrev D8 (w:World) (g1 g2:Bool) (a b c d:Nat):World :=
 ((w.alloc (.cells #[.bool g1,.string (T (some a)),.string (T (some b))] 40)).alloc (.cells #[.bool g2,.string (T (some c)),.string (T (some d))] 40)).alloc (.cells #[.bool false,.string ⟨#[]⟩,.string ⟨#[]⟩] 40)
theorem SumBoxes.new (w:World) (g1 g2:Bool) (a b c d:Nat):SumBoxes (D8 w g1 g2 a b c d) w.heap.size g1 g2 a b c d:=by
 have e1:(w.alloc (.cells #[.bool g1,.string (T (some a)),.string (T (some b))] 40)).heap.size=w.heap.size+1:=by simp
 have e2:((w.alloc (.cells #[.bool g1,.string (T (some a)),.string (T (some b))] 40)).alloc (.cells #[.bool g2,.string (T (some c)),.string (T (some d))] 40)).heap.size=w.heap.size+1+1:=by simp
 refine⟨((B3.new w _ _ _).alloc _).alloc _,?_,?_⟩
 · have h:=B3.new (w.alloc (.cells #[.bool g1,.string (T (some a)),.string (T (some b))] 40)) g2 (T (some c)) (T (some d));rw[e1]at h;exact h.alloc _
 · have h:=B3.new ((w.alloc (.cells #[.bool g1,.string (T (some a)),.string (T (some b))] 40)).alloc (.cells #[.bool g2,.string (T (some c)),.string (T (some d))] 40)) false ⟨#[]⟩ ⟨#[]⟩;rw[e2]at h;exact h
theorem BS (w:World) (g1 g2:Bool) (a b c d:Nat):Below w.heap.size w (D8 w g1 g2 a b c d) :=
 (((Below.refl _ w).alloc (Nat.le_refl _) _).alloc (by simp) _).alloc (by simp;omega) _
theorem SumBoxes.alloc {W:World} {B:Nat} {g1 g2:Bool} {a b c d:Nat} (h:SumBoxes W B g1 g2 a b c d) (o:Obj):SumBoxes (W.alloc o) B g1 g2 a b c d:=⟨h.1.alloc o,h.2.1.alloc o,h.2.2.alloc o⟩
theorem SumBoxes.below {W W':World} {B:Nat} {g1 g2:Bool} {a b c d:Nat} (h:SumBoxes W B g1 g2 a b c d) (hb:Below W.heap.size W W'):SumBoxes W' B g1 g2 a b c d:=⟨h.1.below hb,h.2.1.below hb,h.2.2.below hb⟩
theorem LX {W:World} {v:Value} {x y z:Nat} (h:Eq W v [x,y,z]):∃g cap,v=.slice (some ⟨g,0,none⟩) 3 cap/\W.cell? ⟨g,0,none⟩=some (.string (T (some x)))/\W.cell? ⟨g,1,none⟩=some (.string (T (some y)))/\W.cell? ⟨g,2,none⟩=some (.string (T (some z))):=by
 obtain⟨g,cap,rfl,hg,hc⟩:=h;exact⟨g,cap,rfl,hc 0 (by simp),hc 1 (by simp),hc 2 (by simp)⟩
theorem UV {W:World} {v:Value} {x y:Nat} (h:Eq W v [x,y]):∃g cap,v=.slice (some ⟨g,0,none⟩) 2 cap/\g<W.heap.size/\W.cell? ⟨g,0,none⟩=some (.string (T (some x)))/\W.cell? ⟨g,1,none⟩=some (.string (T (some y))):=by
 obtain⟨g,cap,rfl,hg,hc⟩:=h;exact⟨g,cap,rfl,hg,hc 0 (by simp),hc 1 (by simp)⟩
theorem LY (W:World) (x1 y1 x2 y2 x3 y3:Nat) :
 Er (W.alloc (.cells #[.string (T (some x1)),.string (T (some y1)),.string (T (some x2)),.string (T (some y2)),.string (T (some x3)),.string (T (some y3))] 120)) W.heap.size [(x1,y1),(x2,y2),(x3,y3)]:=by
 intro i hi;have h:=heap_alloc_new W (.cells #[.string (T (some x1)),.string (T (some y1)),.string (T (some x2)),.string (T (some y2)),.string (T (some x3)),.string (T (some y3))] 120)
 match i,hi with
 | 0,_=>simp only[World.cell?,h];exact⟨rfl,rfl⟩
 | 1,_=>simp only[World.cell?,h];exact⟨rfl,rfl⟩
 | 2,_=>simp only[World.cell?,h];exact⟨rfl,rfl⟩
 | n+3,hi=>simp at hi;omega
theorem UW (W:World) (x1 y1 x2 y2:Nat) :
 Er (W.alloc (.cells #[.string (T (some x1)),.string (T (some y1)),.string (T (some x2)),.string (T (some y2))] 120)) W.heap.size [(x1,y1),(x2,y2)]:=by
 intro i hi;have h:=heap_alloc_new W (.cells #[.string (T (some x1)),.string (T (some y1)),.string (T (some x2)),.string (T (some y2))] 120)
 match i,hi with
 | 0,_=>simp only[World.cell?,h];exact⟨rfl,rfl⟩
 | 1,_=>simp only[World.cell?,h];exact⟨rfl,rfl⟩
 | n+2,hi=>simp at hi;omega
theorem OA (g1:Bool) (a b c d:Nat) (w:World) (hE:Env w) (ha:a<L1) (hb:b<L1) (hc:c<L1) (hd:d<L1) (am:b≠0) (ak:d≠0)  :
 Calls Tryz.prog 88 #[.agg #[.bool g1,.string (T (some a)),.string (T (some b))],.agg #[.bool g1,.string (T (some c)),.string (T (some d))]] w fun e w'=>e=.returned (.tuple #[qv (mkRat (sg g1 (a*d+c*b)) (b*d)),.int .i64 0])/\Below w.heap.size w w':=by
 have aa:b*d≠0:=Nat.mul_ne_zero am ak;have HS:=zh (And.intro (CF ha hd) (And.intro (CF hc hb) (And.intro (CF hb hd) IP)))
 have HP:Hid (∀p∈[(a,d),(c,b),(b,d)],p.1<Lim/\p.2<Lim/\p.1*p.2<Lim):=by
  have:=HS.out;intro p hp;simp only[List.mem_cons,List.not_mem_nil,or_false]at hp
  rcases hp with rfl | rfl | rfl
  · exact⟨AH ha,AH hd,by show a*d<Lim;omega⟩
  · exact⟨AH hc,AH hb,by show c*b<Lim;omega⟩
  · exact⟨AH hb,AH hd,by show b*d<Lim;omega⟩
 have an:Hid (Er ((D8 w g1 g1 a b c d).alloc (.cells #[.string (T (some a)),.string (T (some d)),.string (T (some c)),.string (T (some b)),.string (T (some b)),.string (T (some d))] 120)) (w.heap.size+1+1+1) [(a,d),(c,b),(b,d)]):=by
  have:=LY (D8 w g1 g1 a b c d) a d c b b d
  rwa [show (D8 w g1 g1 a b c d).heap.size=w.heap.size+1+1+1 by simp]at this
 have ai:Hid (Below w.heap.size w ((D8 w g1 g1 a b c d).alloc (.cells #[.string (T (some a)),.string (T (some d)),.string (T (some c)),.string (T (some b)),.string (T (some b)),.string (T (some d))] 120))):=(BS w g1 g1 a b c d).alloc (BS w g1 g1 a b c d).size _;have ar:Hid (SumBoxes ((D8 w g1 g1 a b c d).alloc (.cells #[.string (T (some a)),.string (T (some d)),.string (T (some c)),.string (T (some b)),.string (T (some b)),.string (T (some d))] 120)) w.heap.size g1 g1 a b c d):=(SumBoxes.new w g1 g1 a b c d).alloc _;replace hE:=zh hE;replace aa:=zh aa;clear ha hb hc hd am ak
 have hA:Hid (UM (some (a*d)) (some (c*b))=some (a*d+c*b)/\UN (some (a*d)) (some (c*b))=0):=by
  have:=HS.out;have h:a*d+c*b<Lim:=by omega
  exact⟨by simp only[UM,apO,JD,if_pos h],by simp only[UN,apE,if_pos h]⟩
 go_enter Tryz.func88,Tryz.ntmps88
 go_wp2_with fail
 refine(De _ (hE.out.below ai.out) (w.heap.size+1+1+1) 3 [(a,d),(c,b),(b,d)] (by simp) (by simp) an.out HP.out).mono ?_;rintro e w1 ⟨⟨v,rfl,ho⟩,ad⟩;have aj:Eq w1 v [a*d,c*b,b*d]:=FJ ho (by simp);obtain⟨lg,lcap,rfl,l0,l1,l2⟩:=LX aj;have q1:=ar.out.below ad;have al:=zh (ai.out.trans (ad.mono ai.out.size));obtain⟨a1,a2,a3,a4,a5,a6⟩:=q1.1.facts;obtain⟨b1,b2,b3,b4,b5,b6⟩:=q1.2.1.facts;obtain⟨c1,c2,c3,c4,c5,c6⟩:=q1.2.2.facts;have ao:=q1.2.2.lt;replace q1:=zh q1;clear ad aj ho
 go_wp2_with fail
 show Code.wp _ _ _ _ _
 go_quiet (fail)
 obtain⟨W,hW⟩:∃W,W=w1.drewN nq:=⟨_,rfl⟩;have qW:Hid (SumBoxes W w.heap.size g1 g1 a b c d):=by rw[hW];exact q1.out
 have ah:Hid (Below w.heap.size w W):=by rw[hW];exact Cp al.out nq
 rw[<-hW];clear a1 a2 a3 a4 a5 a6 b1 b2 b3 b4 b5 b6 c1 c2 c3 c4 c5 c6 ao l0 l1 l2 hW q1 al;obtain⟨a1,a2,a3,a4,a5,a6⟩:=qW.out.1.facts;obtain⟨b1,b2,b3,b4,b5,b6⟩:=qW.out.2.1.facts
 go_wp2_with fail
 refine(Wq (some (a*d)) (some (c*b)) _ (hE.out.below ah.out) (Ah (by have:=HS.out;omega)) (Ah (by have:=HS.out;omega))).mono ?_;rintro e w2 ⟨rfl,ae⟩;rw[hA.out.1,hA.out.2];have q2:=qW.out.below ae;have af:=zh (ah.out.trans (ae.mono ah.out.size));clear a1 a2 a3 a4 a5 a6 b1 b2 b3 b4 b5 b6 ae;obtain⟨a1,a2,a3,a4,a5,a6⟩:=q2.1.facts;obtain⟨b1,b2,b3,b4,b5,b6⟩:=q2.2.1.facts;replace q2:=zh q2
 go_wp2_with fail
 refine(Dx g1 (a*d+c*b) (b*d) _ (hE.out.below af.out) (by have:=HS.out;omega) (by have:=HS.out;omega) aa.out).mono ?_;rintro e w3 ⟨rfl,ag⟩;have q3:=q2.out.below ag;have aq:=zh (af.out.trans (ag.mono af.out.size));clear a1 a2 a3 a4 a5 a6 b1 b2 b3 b4 b5 b6 ag;obtain⟨c1,c2,c3,c4,c5,c6⟩:=q3.2.2.facts;replace q3:=zh q3;unfold qv;go_wp2;refine bodyPost_ret (v:=.tuple #[.agg #[.bool (decide ((mkRat (sg g1 (a*d+c*b)) (b*d)).num<0)),.string (T (some (mkRat (sg g1 (a*d+c*b)) (b*d)).num.natAbs)),.string (T (some (mkRat (sg g1 (a*d+c*b)) (b*d)).den))],.int .i64 0]) (by simp[results,Tryz.results88,go_sem,c1,c2,c3]) rfl ⟨rfl,?_⟩
 repeat refine Below.setCell ?_ (by simp only[];omega) _
 exact aq.out
theorem OB (g1 g2:Bool) (a b c d:Nat) (w:World) (hE:Env w) (ha:a<L1) (hb:b<L1) (hc:c<L1) (hd:d<L1) (ao:b≠0) (an:d≠0) (hg:(g1==g2)=false) (hl:a*d<c*b) :
 Calls Tryz.prog 88 #[.agg #[.bool g1,.string (T (some a)),.string (T (some b))],.agg #[.bool g2,.string (T (some c)),.string (T (some d))]] w fun e w'=>e=.returned (.tuple #[qv (mkRat (sg g2 (c*b-a*d)) (b*d)),.int .i64 0])/\Below w.heap.size w w':=by
 have ai:b*d≠0:=Nat.mul_ne_zero ao an;have HS:=zh (And.intro (CF ha hd) (And.intro (CF hc hb) (And.intro (CF hb hd) IP)))
 have HP:Hid (∀p∈[(a,d),(c,b),(b,d)],p.1<Lim/\p.2<Lim/\p.1*p.2<Lim):=by
  have:=HS.out;intro p hp;simp only[List.mem_cons,List.not_mem_nil,or_false]at hp
  rcases hp with rfl | rfl | rfl
  · exact⟨AH ha,AH hd,by show a*d<Lim;omega⟩
  · exact⟨AH hc,AH hb,by show c*b<Lim;omega⟩
  · exact⟨AH hb,AH hd,by show b*d<Lim;omega⟩
 have au:Hid (Er ((D8 w g1 g2 a b c d).alloc (.cells #[.string (T (some a)),.string (T (some d)),.string (T (some c)),.string (T (some b)),.string (T (some b)),.string (T (some d))] 120)) (w.heap.size+1+1+1) [(a,d),(c,b),(b,d)]):=by
  have:=LY (D8 w g1 g2 a b c d) a d c b b d
  rwa [show (D8 w g1 g2 a b c d).heap.size=w.heap.size+1+1+1 by simp]at this
 have af:Hid (Below w.heap.size w ((D8 w g1 g2 a b c d).alloc (.cells #[.string (T (some a)),.string (T (some d)),.string (T (some c)),.string (T (some b)),.string (T (some b)),.string (T (some d))] 120))):=(BS w g1 g2 a b c d).alloc (BS w g1 g2 a b c d).size _;have aw:Hid (SumBoxes ((D8 w g1 g2 a b c d).alloc (.cells #[.string (T (some a)),.string (T (some d)),.string (T (some c)),.string (T (some b)),.string (T (some b)),.string (T (some d))] 120)) w.heap.size g1 g2 a b c d):=(SumBoxes.new w g1 g2 a b c d).alloc _;replace hE:=zh hE;replace ai:=zh ai;clear ha hb hc hd ao an;have ar:Hid (Tr (some (a*d)) (some (c*b))=0):=rfl;have am:Hid (Tp (some (c*b)) (some (a*d))=some (c*b-a*d)/\Tq (some (c*b)) (some (a*d))=0):=⟨if_pos (by omega),if_pos (by omega)⟩;have hC:Hid (Q1 (some (a*d)) (some (c*b))=-1):=Cv hl;replace hl:=zh hl;go_enter Tryz.func88,Tryz.ntmps88
 go_wp2_with fail
 refine(De _ (hE.out.below af.out) (w.heap.size+1+1+1) 3 [(a,d),(c,b),(b,d)] (by simp) (by simp) au.out HP.out).mono ?_;rintro e w1 ⟨⟨v,rfl,ho⟩,ad⟩;have al:Eq w1 v [a*d,c*b,b*d]:=FJ ho (by simp);obtain⟨lg,lcap,rfl,l0,l1,l2⟩:=LX al;have q1:=aw.out.below ad;have ak:=zh (af.out.trans (ad.mono af.out.size));obtain⟨a1,a2,a3,a4,a5,a6⟩:=q1.1.facts;obtain⟨b1,b2,b3,b4,b5,b6⟩:=q1.2.1.facts;obtain⟨c1,c2,c3,c4,c5,c6⟩:=q1.2.2.facts;have av:=q1.2.2.lt;replace q1:=zh q1;clear ad al ho
 go_wp2_with fail
 show Code.wp _ _ _ _ _
 go_quiet (fail)
 obtain⟨W,hW⟩:∃W,W=w1.drewN nq:=⟨_,rfl⟩;have qW:Hid (SumBoxes W w.heap.size g1 g2 a b c d):=by rw[hW];exact q1.out
 have ah:Hid (Below w.heap.size w W):=by rw[hW];exact Cp ak.out nq
 rw[<-hW];clear a1 a2 a3 a4 a5 a6 b1 b2 b3 b4 b5 b6 c1 c2 c3 c4 c5 c6 av l0 l1 l2 hW q1 ak;obtain⟨a1,a2,a3,a4,a5,a6⟩:=qW.out.1.facts;obtain⟨b1,b2,b3,b4,b5,b6⟩:=qW.out.2.1.facts
 go_wp2_with fail
 refine(VI (some (a*d)) (some (c*b)) _ (hE.out.below ah.out) (Ah (by have:=HS.out;omega)) (Ah (by have:=HS.out;omega))).mono ?_;rintro e w2 ⟨rfl,h⟩;rw[hC.out,ar.out];have q2:=qW.out.below h;have aa:=zh (ah.out.trans (h.mono ah.out.size));clear a1 a2 a3 a4 a5 a6 b1 b2 b3 b4 b5 b6 h;obtain⟨a1,a2,a3,a4,a5,a6⟩:=q2.1.facts;obtain⟨b1,b2,b3,b4,b5,b6⟩:=q2.2.1.facts;replace q2:=zh q2
 go_wp2_with fail
 refine(VH (some (c*b)) (some (a*d)) _ (hE.out.below aa.out) (Ah (by have:=HS.out;omega)) (Ah (by have:=HS.out;omega))).mono ?_;rintro e w3 ⟨rfl,ag⟩;rw[am.out.1,am.out.2];have q3:=q2.out.below ag;have aj:=zh (aa.out.trans (ag.mono aa.out.size));clear a1 a2 a3 a4 a5 a6 b1 b2 b3 b4 b5 b6 ag;obtain⟨a1,a2,a3,a4,a5,a6⟩:=q3.1.facts;obtain⟨b1,b2,b3,b4,b5,b6⟩:=q3.2.1.facts;replace q3:=zh q3
 go_wp2_with fail
 refine(Dx g2 (c*b-a*d) (b*d) _ (hE.out.below aj.out) (by have:=HS.out;omega) (by have:=HS.out;omega) ai.out).mono ?_;rintro e w4 ⟨rfl,ae⟩;have q4:=q3.out.below ae;have aq:=zh (aj.out.trans (ae.mono aj.out.size));clear a1 a2 a3 a4 a5 a6 b1 b2 b3 b4 b5 b6 ae;obtain⟨c1,c2,c3,c4,c5,c6⟩:=q4.2.2.facts;replace q4:=zh q4;unfold qv;go_wp2;refine bodyPost_ret (v:=.tuple #[.agg #[.bool (decide ((mkRat (sg g2 (c*b-a*d)) (b*d)).num<0)),.string (T (some (mkRat (sg g2 (c*b-a*d)) (b*d)).num.natAbs)),.string (T (some (mkRat (sg g2 (c*b-a*d)) (b*d)).den))],.int .i64 0]) (by simp[results,Tryz.results88,go_sem,c1,c2,c3]) rfl ⟨rfl,?_⟩
 repeat refine Below.setCell ?_ (by simp only[];omega) _
 exact aq.out
theorem OC (g1 g2:Bool) (a b c d:Nat) (w:World) (hE:Env w) (ha:a<L1) (hb:b<L1) (hc:c<L1) (hd:d<L1) (ao:b≠0) (an:d≠0) (hg:(g1==g2)=false) (hl:c*b<=a*d) :
 Calls Tryz.prog 88 #[.agg #[.bool g1,.string (T (some a)),.string (T (some b))],.agg #[.bool g2,.string (T (some c)),.string (T (some d))]] w fun e w'=>e=.returned (.tuple #[qv (mkRat (sg g1 (a*d-c*b)) (b*d)),.int .i64 0])/\Below w.heap.size w w':=by
 have ai:b*d≠0:=Nat.mul_ne_zero ao an;have HS:=zh (And.intro (CF ha hd) (And.intro (CF hc hb) (And.intro (CF hb hd) IP)))
 have HP:Hid (∀p∈[(a,d),(c,b),(b,d)],p.1<Lim/\p.2<Lim/\p.1*p.2<Lim):=by
  have:=HS.out;intro p hp;simp only[List.mem_cons,List.not_mem_nil,or_false]at hp
  rcases hp with rfl | rfl | rfl
  · exact⟨AH ha,AH hd,by show a*d<Lim;omega⟩
  · exact⟨AH hc,AH hb,by show c*b<Lim;omega⟩
  · exact⟨AH hb,AH hd,by show b*d<Lim;omega⟩
 have av:Hid (Er ((D8 w g1 g2 a b c d).alloc (.cells #[.string (T (some a)),.string (T (some d)),.string (T (some c)),.string (T (some b)),.string (T (some b)),.string (T (some d))] 120)) (w.heap.size+1+1+1) [(a,d),(c,b),(b,d)]):=by
  have:=LY (D8 w g1 g2 a b c d) a d c b b d
  rwa [show (D8 w g1 g2 a b c d).heap.size=w.heap.size+1+1+1 by simp]at this
 have af:Hid (Below w.heap.size w ((D8 w g1 g2 a b c d).alloc (.cells #[.string (T (some a)),.string (T (some d)),.string (T (some c)),.string (T (some b)),.string (T (some b)),.string (T (some d))] 120))):=(BS w g1 g2 a b c d).alloc (BS w g1 g2 a b c d).size _;have ax:Hid (SumBoxes ((D8 w g1 g2 a b c d).alloc (.cells #[.string (T (some a)),.string (T (some d)),.string (T (some c)),.string (T (some b)),.string (T (some b)),.string (T (some d))] 120)) w.heap.size g1 g2 a b c d):=(SumBoxes.new w g1 g2 a b c d).alloc _;replace hE:=zh hE;replace ai:=zh ai;clear ha hb hc hd ao an;have au:Hid (Tr (some (a*d)) (some (c*b))=0):=rfl;have am:Hid (Tp (some (a*d)) (some (c*b))=some (a*d-c*b)/\Tq (some (a*d)) (some (c*b))=0):=⟨if_pos (by omega),if_pos (by omega)⟩;obtain⟨cv,aq,ay⟩:∃cv:Int,cv=Q1 (some (a*d)) (some (c*b))/\0<=cv:=⟨_,rfl,by show 0<=Bm (a*d) (c*b);unfold Bm;rw[if_neg (by omega)];split<;>omega⟩;have hC:Hid (Q1 (some (a*d)) (some (c*b))=cv):=aq.symm;clear aq;replace hl:=zh hl;go_enter Tryz.func88,Tryz.ntmps88
 go_wp2_with fail
 refine(De _ (hE.out.below af.out) (w.heap.size+1+1+1) 3 [(a,d),(c,b),(b,d)] (by simp) (by simp) av.out HP.out).mono ?_;rintro e w1 ⟨⟨v,rfl,ho⟩,ad⟩;have al:Eq w1 v [a*d,c*b,b*d]:=FJ ho (by simp);obtain⟨lg,lcap,rfl,l0,l1,l2⟩:=LX al;have q1:=ax.out.below ad;have ak:=zh (af.out.trans (ad.mono af.out.size));obtain⟨a1,a2,a3,a4,a5,a6⟩:=q1.1.facts;obtain⟨b1,b2,b3,b4,b5,b6⟩:=q1.2.1.facts;obtain⟨c1,c2,c3,c4,c5,c6⟩:=q1.2.2.facts;have aw:=q1.2.2.lt;replace q1:=zh q1;clear ad al ho
 go_wp2_with fail
 show Code.wp _ _ _ _ _
 go_quiet (fail)
 obtain⟨W,hW⟩:∃W,W=w1.drewN nq:=⟨_,rfl⟩;have qW:Hid (SumBoxes W w.heap.size g1 g2 a b c d):=by rw[hW];exact q1.out
 have ah:Hid (Below w.heap.size w W):=by rw[hW];exact Cp ak.out nq
 rw[<-hW];clear a1 a2 a3 a4 a5 a6 b1 b2 b3 b4 b5 b6 c1 c2 c3 c4 c5 c6 aw l0 l1 l2 hW q1 ak;obtain⟨a1,a2,a3,a4,a5,a6⟩:=qW.out.1.facts;obtain⟨b1,b2,b3,b4,b5,b6⟩:=qW.out.2.1.facts
 go_wp2_with fail
 refine(VI (some (a*d)) (some (c*b)) _ (hE.out.below ah.out) (Ah (by have:=HS.out;omega)) (Ah (by have:=HS.out;omega))).mono ?_;rintro e w2 ⟨rfl,h⟩;rw[hC.out,au.out];have q2:=qW.out.below h;have aa:=zh (ah.out.trans (h.mono ah.out.size));clear a1 a2 a3 a4 a5 a6 b1 b2 b3 b4 b5 b6 h;obtain⟨a1,a2,a3,a4,a5,a6⟩:=q2.1.facts;obtain⟨b1,b2,b3,b4,b5,b6⟩:=q2.2.1.facts;replace q2:=zh q2
 go_wp2_with fail
 refine(VH (some (a*d)) (some (c*b)) _ (hE.out.below aa.out) (Ah (by have:=HS.out;omega)) (Ah (by have:=HS.out;omega))).mono ?_;rintro e w3 ⟨rfl,ag⟩;rw[am.out.1,am.out.2];have q3:=q2.out.below ag;have aj:=zh (aa.out.trans (ag.mono aa.out.size));clear a1 a2 a3 a4 a5 a6 b1 b2 b3 b4 b5 b6 ag;obtain⟨a1,a2,a3,a4,a5,a6⟩:=q3.1.facts;obtain⟨b1,b2,b3,b4,b5,b6⟩:=q3.2.1.facts;replace q3:=zh q3
 go_wp2_with fail
 refine(Dx g1 (a*d-c*b) (b*d) _ (hE.out.below aj.out) (by have:=HS.out;omega) (by have:=HS.out;omega) ai.out).mono ?_;rintro e w4 ⟨rfl,ae⟩;have q4:=q3.out.below ae;have ar:=zh (aj.out.trans (ae.mono aj.out.size));clear a1 a2 a3 a4 a5 a6 b1 b2 b3 b4 b5 b6 ae;obtain⟨c1,c2,c3,c4,c5,c6⟩:=q4.2.2.facts;replace q4:=zh q4;unfold qv;go_wp2;refine bodyPost_ret (v:=.tuple #[.agg #[.bool (decide ((mkRat (sg g1 (a*d-c*b)) (b*d)).num<0)),.string (T (some (mkRat (sg g1 (a*d-c*b)) (b*d)).num.natAbs)),.string (T (some (mkRat (sg g1 (a*d-c*b)) (b*d)).den))],.int .i64 0]) (by simp[results,Tryz.results88,go_sem,c1,c2,c3]) rfl ⟨rfl,?_⟩
 repeat refine Below.setCell ?_ (by simp only[];omega) _
 exact ar.out
end Nt
end
section
open Go.RowKit Go.Shelf
namespace Nt
theorem A8 (W:World) (B b o:Nat) (x y z:Value) (h:b≠B):(((W.setCell ⟨B,0,none⟩ x).setCell ⟨B,1,none⟩ y).setCell ⟨B,2,none⟩ z).cell? ⟨b,o,none⟩=W.cell? ⟨b,o,none⟩ :=
 World.cell?_of_block (w:=W) (a:=⟨b,o,none⟩) (((Below.heap_setCell _ _ _ _ (by exact h)).trans (Below.heap_setCell _ _ _ _ (by exact h))).trans (Below.heap_setCell _ _ _ _ (by exact h)))
theorem GC (g1 g2:Bool) (a b c d:Nat) (w:World) (hE:Env w) (ha:a<Lim) (hb:b<Lim) (hc:c<Lim) (hd:d<Lim) (af:a*c<Lim) (ae:b*d<Lim) (h0:b*d≠0) :
 Calls Tryz.prog 62 #[.agg #[.bool g1,.string (T (some a)),.string (T (some b))],.agg #[.bool g2,.string (T (some c)),.string (T (some d))]] w fun e w'=>e=.returned (.tuple #[qv (mkRat (sg (!(g1==g2)) (a*c)) (b*d)),.int .i64 0])/\Below w.heap.size w w':=by
 have HP:Hid (∀p∈[(a,c),(b,d)],p.1<Lim/\p.2<Lim/\p.1*p.2<Lim):=by
  intro p hp;simp only[List.mem_cons,List.not_mem_nil,or_false]at hp
  rcases hp with rfl | rfl
  · exact⟨ha,hc,af⟩
  · exact⟨hb,hd,ae⟩
 have ak:Hid (Er ((D8 w g1 g2 a b c d).alloc (.cells #[.string (T (some a)),.string (T (some c)),.string (T (some b)),.string (T (some d))] 120)) (w.heap.size+1+1+1) [(a,c),(b,d)]):=by
  have:=UW (D8 w g1 g2 a b c d) a c b d
  rwa [show (D8 w g1 g2 a b c d).heap.size=w.heap.size+1+1+1 by simp]at this
 have ah:Hid (Below w.heap.size w ((D8 w g1 g2 a b c d).alloc (.cells #[.string (T (some a)),.string (T (some c)),.string (T (some b)),.string (T (some d))] 120))):=(BS w g1 g2 a b c d).alloc (BS w g1 g2 a b c d).size _;have al:Hid (SumBoxes ((D8 w g1 g2 a b c d).alloc (.cells #[.string (T (some a)),.string (T (some c)),.string (T (some b)),.string (T (some d))] 120)) w.heap.size g1 g2 a b c d):=(SumBoxes.new w g1 g2 a b c d).alloc _;replace hE:=zh hE;replace h0:=zh h0;replace af:=zh af;replace ae:=zh ae;clear ha hb hc hd;go_enter Tryz.func62,Tryz.ntmps62
 go_wp2_with fail
 refine(De _ (hE.out.below ah.out) (w.heap.size+1+1+1) 2 [(a,c),(b,d)] (by simp) (by simp) ak.out HP.out).mono ?_;rintro e w1 ⟨⟨v,rfl,ho⟩,ag⟩;have aj:Eq w1 v [a*c,b*d]:=FJ ho (by simp);obtain⟨lg,lcap,rfl,ai,l0,l1⟩:=UV aj
 have an:w.heap.size+1+1+1<lg:=by
  have h1:=(ho.lt lg rfl).1;simp at h1;omega
 have q1:=al.out.below ag;have ad:=zh (ah.out.trans (ag.mono ah.out.size));obtain⟨a1,a2,a3,a4,a5,a6⟩:=q1.1.facts;obtain⟨b1,b2,b3,b4,b5,b6⟩:=q1.2.1.facts;obtain⟨c1,c2,c3,c4,c5,c6⟩:=q1.2.2.facts;have am:=q1.2.2.lt;replace q1:=zh q1;clear ag aj ho
 go_wp2_with fail
 have hl:=fun W (h:Below w1.heap.size w1 W)=>Dx (!(g1==g2)) (a*c) (b*d) W (hE.out.below (ad.out.trans (h.mono ad.out.size))) af.out ae.out h0.out;simp only[qv]at hl;have q1d:Hid (SumBoxes w1.drew w.heap.size g1 g2 a b c d):=q1.out
 go_region_held3 (fun w'=>w'.cell? ⟨w.heap.size,0,none⟩=some (.bool g1)/\w'.cell? ⟨w.heap.size+1,0,none⟩=some (.bool g2)/\w'.cell? ⟨lg,0,none⟩=some (.string (T (some (a*c))))/\w'.cell? ⟨lg,1,none⟩=some (.string (T (some (b*d))))) (first | exact⟨a1,b1,l0,l1⟩ | exact⟨k1,k2,k3,k4⟩ | exact⟨(A8 _ _ _ _ _ _ _ (by omega)).trans k1,(A8 _ _ _ _ _ _ _ (by omega)).trans k2,(A8 _ _ _ _ _ _ _ (by omega)).trans k3,(A8 _ _ _ _ _ _ _ (by omega)).trans k4⟩ | go_keep)
  (first | (go_at_call 115;refine(hl _ ?_).mono ?_;(exact(Below.refl _ _).drew);rintro e w2 ⟨rfl,aa⟩;have q2:=q1d.out.below aa;obtain⟨c1',c2',c3',c4',c5',c6'⟩:=q2.2.2.facts;have k1:=q2.1.facts.1;have k2:=q2.2.1.facts.1;have k3:=(aa.cell (p:=⟨lg,0,none⟩) ai).trans l0;have k4:=(aa.cell (p:=⟨lg,1,none⟩) ai).trans l1))
 go_wp2;refine bodyPost_ret (v:=.tuple #[.agg #[.bool (decide ((mkRat (sg (!(g1==g2)) (a*c)) (b*d)).num<0)),.string (T (some (mkRat (sg (!(g1==g2)) (a*c)) (b*d)).num.natAbs)),.string (T (some (mkRat (sg (!(g1==g2)) (a*c)) (b*d)).den))],.int .i64 0]) (by simp[results,Tryz.results62,go_sem,c1',c2',c3']) rfl ⟨rfl,?_⟩
 repeat refine Below.setCell ?_ (by simp only[];omega) _
 exact(ad.out.drew).trans (aa.mono ad.out.size)
theorem Tv (g:Bool) (n d:ByteArray) (w:World) :
 Calls Tryz.prog 148 #[.agg #[.bool g,.string n,.string d]] w fun e w'=>e=.returned (.agg #[.bool (!g&&!(n.toList==[48])),.string n,.string d])/\Below w.heap.size w w':=by
 cases g with
 | true =>
   go_enter Tryz.func148,Tryz.ntmps148;go_wp2;refine bodyPost_ret (v:=.agg #[.bool false,.string n,.string d]) (by simp[results,Tryz.results148,go_sem]) rfl ⟨rfl,?_⟩
   repeat refine Below.setCell ?_ (by simp only[];omega) _
   exact((Below.refl _ w).alloc (Nat.le_refl _) _).alloc (by simp) _
 | false =>
   cases hz:(n.toList==[48]) with
   | true =>
     go_enter Tryz.func148,Tryz.ntmps148;go_wp2;refine bodyPost_ret (v:=.agg #[.bool false,.string n,.string d]) (by simp[results,Tryz.results148,go_sem]) rfl ⟨rfl,?_⟩
     repeat refine Below.setCell ?_ (by simp only[];omega) _
     exact((Below.refl _ w).alloc (Nat.le_refl _) _).alloc (by simp) _
   | false =>
     go_enter Tryz.func148,Tryz.ntmps148;go_wp2;refine bodyPost_ret (v:=.agg #[.bool true,.string n,.string d]) (by simp[results,Tryz.results148,go_sem]) rfl ⟨rfl,?_⟩
     repeat refine Below.setCell ?_ (by simp only[];omega) _
     exact((Below.refl _ w).alloc (Nat.le_refl _) _).alloc (by simp) _
end Nt
end
section
open Go.RowKit Go.Shelf
namespace Nt
theorem U5 (p q:Rat) (hp:ShortQ p) (hq:ShortQ q) (w:World) (hE:Env w) :
 Calls Tryz.prog 88 #[qv p,qv q] w fun e w'=>e=.returned (.tuple #[qv (p+q),.int .i64 0])/\Below w.heap.size w w':=by
 by_cases hg:decide (p.num<0)=decide (q.num<0)
 · have h:=OA (decide (p.num<0)) p.num.natAbs p.den q.num.natAbs q.den w hE hp.1 hp.2 hq.1 hq.2 p.den_nz q.den_nz;rw[QA rfl hg rfl rfl,JE]at h;have e:qv q=.agg #[.bool (decide (p.num<0)),.string (T (some q.num.natAbs)),.string (T (some q.den))]:=by rw[hg];rfl
   rw[e];exact h
 · have a:(decide (p.num<0)==decide (q.num<0))=false:=by rw[beq_eq_false_iff_ne];exact hg
   rcases Nat.lt_or_ge (p.num.natAbs*q.den) (q.num.natAbs*p.den) with hl | hl
   · have h:=OB (decide (p.num<0)) (decide (q.num<0)) p.num.natAbs p.den q.num.natAbs q.den w hE hp.1 hp.2 hq.1 hq.2 p.den_nz q.den_nz a hl;rw[QB rfl rfl rfl rfl hg hl,JE]at h;exact h
   · have h:=OC (decide (p.num<0)) (decide (q.num<0)) p.num.natAbs p.den q.num.natAbs q.den w hE hp.1 hp.2 hq.1 hq.2 p.den_nz q.den_nz a hl;rw[QC rfl rfl rfl rfl hg hl,JE]at h;exact h
theorem OD (p q:Rat) (hp:ShortQ p) (hq:ShortQ q) (w:World) (hE:Env w) :
 Calls Tryz.prog 62 #[qv p,qv q] w fun e w'=>e=.returned (.tuple #[qv (p*q),.int .i64 0])/\Below w.heap.size w w':=by
 have h1:=CF hp.1 hq.1;have h2:=CF hp.2 hq.2;have h3:=IP;have h:=GC (decide (p.num<0)) (decide (q.num<0)) p.num.natAbs p.den q.num.natAbs q.den w hE (AH hp.1) (AH hp.2) (AH hq.1) (AH hq.2) (by omega) (by omega) (Nat.mul_ne_zero p.den_nz q.den_nz);have e:=UP p q;rw[show (decide (p.num<0) != decide (q.num<0))=!(decide (p.num<0)==decide (q.num<0)) from rfl]at e;rw[e]at h;exact h
theorem LZ (p q:Rat) (hp:ShortQ p) (hq:ShortQ q) (h0:q.num≠0) (w:World) (hE:Env w) :
 Calls Tryz.prog 62 #[qv p,.agg #[.bool (decide (q.num<0)),.string (T (some q.den)),.string (T (some q.num.natAbs))]] w fun e w'=>e=.returned (.tuple #[qv (p/q),.int .i64 0])/\Below w.heap.size w w':=by
 have h1:=CF hp.1 hq.2;have h2:=CF hp.2 hq.1;have h3:=IP;have h:=GC (decide (p.num<0)) (decide (q.num<0)) p.num.natAbs p.den q.den q.num.natAbs w hE (AH hp.1) (AH hp.2) (AH hq.2) (AH hq.1) (by omega) (by omega) (Nat.mul_ne_zero p.den_nz (by omega));have e:=QD p q;rw[show (decide (p.num<0) != decide (q.num<0))=!(decide (p.num<0)==decide (q.num<0)) from rfl]at e;rw[e]at h;exact h
theorem UX (q:Rat):(.agg #[.bool (!decide (q.num<0)&&!((T (some q.num.natAbs)).toList==[48])),.string (T (some q.num.natAbs)),.string (T (some q.den))]:Value)=qv (-q):=by
 unfold qv;rw[AC];have e1:(-q).num=-q.num:=rfl;have e2:(-q).den=q.den:=rfl;rw[e1,e2,Int.natAbs_neg]
 have e3:(!decide (q.num<0)&&!decide (q.num.natAbs=0))=decide (-q.num<0):=by
  generalize q.num=z;rw[Bool.eq_iff_iff];simp;omega
 rw[e3]
theorem VO (q:Rat) (w:World) :
 Calls Tryz.prog 148 #[qv q] w fun e w'=>e=.returned (qv (-q))/\Below w.heap.size w w':=by
 refine(Tv (decide (q.num<0)) (T (some q.num.natAbs)) (T (some q.den)) w).mono ?_;rintro e w' ⟨rfl,hb⟩;exact⟨by rw[UX],hb⟩
theorem ShortQ.neg {q:Rat} (h:ShortQ q):ShortQ (-q):=⟨by show (-q.num).natAbs<L1;rw[Int.natAbs_neg];exact h.1,h.2⟩
abbrev Tw (w:World) (g1 g2:Bool) (n1 d1 n2 d2:ByteArray):World :=
 ((w.alloc (.cells #[.bool g1,.string n1,.string d1] 40)).alloc (.cells #[.bool g2,.string n2,.string d2] 40)).alloc (.cells #[.bool false,.string ⟨#[]⟩,.string ⟨#[]⟩] 40)
def TwoBoxes (W:World) (B:Nat) (g1 g2:Bool) (n1 d1 n2 d2:ByteArray):Prop:=B3 W B g1 n1 d1/\B3 W (B+1) g2 n2 d2/\B3 W (B+1+1) false ⟨#[]⟩ ⟨#[]⟩
theorem TwoBoxes.new (w:World) (g1 g2:Bool) (n1 d1 n2 d2:ByteArray):TwoBoxes (Tw w g1 g2 n1 d1 n2 d2) w.heap.size g1 g2 n1 d1 n2 d2:=by
 have e1:(w.alloc (.cells #[.bool g1,.string n1,.string d1] 40)).heap.size=w.heap.size+1:=by simp
 have e2:((w.alloc (.cells #[.bool g1,.string n1,.string d1] 40)).alloc (.cells #[.bool g2,.string n2,.string d2] 40)).heap.size=w.heap.size+1+1:=by simp
 refine⟨((B3.new w _ _ _).alloc _).alloc _,?_,?_⟩
 · have h:=B3.new (w.alloc (.cells #[.bool g1,.string n1,.string d1] 40)) g2 n2 d2;rw[e1]at h;exact h.alloc _
 · have h:=B3.new ((w.alloc (.cells #[.bool g1,.string n1,.string d1] 40)).alloc (.cells #[.bool g2,.string n2,.string d2] 40)) false ⟨#[]⟩ ⟨#[]⟩;rw[e2]at h;exact h
theorem CH (w:World) (g1 g2:Bool) (n1 d1 n2 d2:ByteArray):Below w.heap.size w (Tw w g1 g2 n1 d1 n2 d2) :=
 (((Below.refl _ w).alloc (Nat.le_refl _) _).alloc (by simp) _).alloc (by simp;omega) _
theorem TwoBoxes.below {W W':World} {B:Nat} {g1 g2:Bool} {n1 d1 n2 d2:ByteArray} (h:TwoBoxes W B g1 g2 n1 d1 n2 d2) (hb:Below W.heap.size W W'):TwoBoxes W' B g1 g2 n1 d1 n2 d2:=⟨h.1.below hb,h.2.1.below hb,h.2.2.below hb⟩
theorem UY (p q:Rat) (hp:ShortQ p) (hq:ShortQ q) (h0:q.num≠0) (w:World) (hE:Env w) :
 Calls Tryz.prog 146 #[qv p,qv q] w fun e w'=>e=.returned (.tuple #[qv (p/q),.int .i64 0])/\Below w.heap.size w w':=by
 have hc:=fun W (h:Env W)=>LZ p q hp hq h0 W h;have ad:=zh (TwoBoxes.new w (decide (p.num<0)) (decide (q.num<0)) (T (some p.num.natAbs)) (T (some p.den)) (T (some q.num.natAbs)) (T (some q.den)));have d:=zh (CH w (decide (p.num<0)) (decide (q.num<0)) (T (some p.num.natAbs)) (T (some p.den)) (T (some q.num.natAbs)) (T (some q.den)));simp only[qv]at hc ⊢;replace hE:=zh hE;replace hc:=zh hc;clear hp hq h0;go_enter Tryz.func146,Tryz.ntmps146
 go_wp2_with fail
 refine(hc.out _ (hE.out.below d.out)).mono ?_;rintro e w1 ⟨rfl,a⟩;have q1:=ad.out.below a;have aa:=zh (d.out.trans (a.mono d.out.size));obtain⟨c1,c2,c3,c4,c5,c6⟩:=q1.2.2.facts;have ae:=q1.2.2.lt;clear a;replace q1:=zh q1;go_wp2;refine bodyPost_ret (v:=.tuple #[.agg #[.bool (decide ((p/q).num<0)),.string (T (some (p/q).num.natAbs)),.string (T (some (p/q).den))],.int .i64 0]) (by simp[results,Tryz.results146,go_sem,c1,c2,c3]) rfl ⟨rfl,?_⟩
 repeat refine Below.setCell ?_ (by simp only[];omega) _
 exact aa.out
theorem TwoBoxes.six {W:World} {B:Nat} {g1 g2:Bool} {n1 d1 n2 d2:ByteArray} (h:TwoBoxes W B g1 g2 n1 d1 n2 d2) :
 W.cell? ⟨B,0,none⟩=some (.bool g1)/\W.cell? ⟨B,1,none⟩=some (.string n1)/\W.cell? ⟨B,2,none⟩=some (.string d1) /\
 W.cell? ⟨B+1,0,none⟩=some (.bool g2)/\W.cell? ⟨B+1,1,none⟩=some (.string n2)/\W.cell? ⟨B+1,2,none⟩=some (.string d2) :=
 ⟨h.1.facts.1,h.1.facts.2.1,h.1.facts.2.2.1,h.2.1.facts.1,h.2.1.facts.2.1,h.2.1.facts.2.2.1⟩
theorem TwoBoxes.six_set {W:World} {B:Nat} {g1 g2:Bool} {n1 d1 n2 d2:ByteArray} (h:TwoBoxes W B g1 g2 n1 d1 n2 d2) (x y z:Value) :
 (((W.setCell ⟨B+1+1,0,none⟩ x).setCell ⟨B+1+1,1,none⟩ y).setCell ⟨B+1+1,2,none⟩ z).cell? ⟨B,0,none⟩=some (.bool g1)/\(((W.setCell ⟨B+1+1,0,none⟩ x).setCell ⟨B+1+1,1,none⟩ y).setCell ⟨B+1+1,2,none⟩ z).cell? ⟨B,1,none⟩=some (.string n1)/\(((W.setCell ⟨B+1+1,0,none⟩ x).setCell ⟨B+1+1,1,none⟩ y).setCell ⟨B+1+1,2,none⟩ z).cell? ⟨B,2,none⟩=some (.string d1) /\
 (((W.setCell ⟨B+1+1,0,none⟩ x).setCell ⟨B+1+1,1,none⟩ y).setCell ⟨B+1+1,2,none⟩ z).cell? ⟨B+1,0,none⟩=some (.bool g2)/\(((W.setCell ⟨B+1+1,0,none⟩ x).setCell ⟨B+1+1,1,none⟩ y).setCell ⟨B+1+1,2,none⟩ z).cell? ⟨B+1,1,none⟩=some (.string n2)/\(((W.setCell ⟨B+1+1,0,none⟩ x).setCell ⟨B+1+1,1,none⟩ y).setCell ⟨B+1+1,2,none⟩ z).cell? ⟨B+1,2,none⟩=some (.string d2):=by
 obtain⟨h1,h2,h3,h4,h5,h6⟩:=h.six;exact⟨(A8 _ _ _ _ _ _ _ (by omega)).trans h1,(A8 _ _ _ _ _ _ _ (by omega)).trans h2,(A8 _ _ _ _ _ _ _ (by omega)).trans h3,(A8 _ _ _ _ _ _ _ (by omega)).trans h4,(A8 _ _ _ _ _ _ _ (by omega)).trans h5,(A8 _ _ _ _ _ _ _ (by omega)).trans h6⟩
theorem UZ (g1 g2 g3:Bool) (n1 d1 n2 d2:ByteArray) (r:Bool) (n d:ByteArray) (E:Int) (w:World) (hE:Env w)
 (ho:∀W,Calls Tryz.prog 148 #[.agg #[.bool g2,.string n2,.string d2]] W fun e w'=>e=.returned (.agg #[.bool g3,.string n2,.string d2])/\Below W.heap.size W w')
 (hc:∀W,Env W->Calls Tryz.prog 88 #[.agg #[.bool g1,.string n1,.string d1],.agg #[.bool g3,.string n2,.string d2]] W fun e w'=>e=.returned (.tuple #[.agg #[.bool r,.string n,.string d],.int .i64 E])/\Below W.heap.size W w') :
 Calls Tryz.prog 147 #[.agg #[.bool g1,.string n1,.string d1],.agg #[.bool g2,.string n2,.string d2]] w fun e w'=>e=.returned (.tuple #[.agg #[.bool r,.string n,.string d],.int .i64 E])/\Below w.heap.size w w':=by
 have h:=zh (TwoBoxes.new w g1 g2 n1 d1 n2 d2);have ag:=zh (CH w g1 g2 n1 d1 n2 d2);obtain⟨W0,a⟩:∃W0,W0=Tw w g1 g2 n1 d1 n2 d2:=⟨_,rfl⟩;rw[<-a]at h ag;simp only[Tw]at a;have q0d:Hid (TwoBoxes W0.drew w.heap.size g1 g2 n1 d1 n2 d2):=h.out;have af:Hid (Below w.heap.size w W0.drew):=ag.out.drew;replace hE:=zh hE;replace a:=zh a;replace ho:=zh ho;replace hc:=zh hc;go_enter Tryz.func147,Tryz.ntmps147
 go_wp2_with fail
 rw[<-a.out];obtain⟨a1,a2,a3,b1,b2,b3⟩:=h.out.six
 go_region_held3 (fun w'=>w'.cell? ⟨w.heap.size,0,none⟩=some (.bool g1)/\w'.cell? ⟨w.heap.size,1,none⟩=some (.string n1)/\w'.cell? ⟨w.heap.size,2,none⟩=some (.string d1)/\w'.cell? ⟨w.heap.size+1,0,none⟩=some (.bool g2)/\w'.cell? ⟨w.heap.size+1,1,none⟩=some (.string n2)/\w'.cell? ⟨w.heap.size+1,2,none⟩=some (.string d2)) (first | (with_reducible exact h.out.six) | (with_reducible exact q0d.out.six) | (with_reducible exact q2.out.six) | (with_reducible exact q3.out.six) | (with_reducible exact q3.out.six_set _ _ _) | go_keep)
  (first
    | (go_at_call 148;refine(ho.out _).mono ?_;rintro e w2 ⟨rfl,aa⟩;have q2:=zh (q0d.out.below aa);have ad:=zh (af.out.trans (aa.mono af.out.size));clear aa)
    | (go_at_call 88;refine(hc.out _ ?_).mono ?_;(exact hE.out.below ad.out);rintro e w3 ⟨rfl,ae⟩;have q3:=zh (q2.out.below ae);obtain⟨c1,c2,c3,c4,c5,c6⟩:=q3.out.2.2.facts;have ah:=zh (ad.out.trans (ae.mono ad.out.size));clear ae))
 go_wp2;refine bodyPost_ret (v:=.tuple #[.agg #[.bool r,.string n,.string d],.int .i64 E]) (by simp[results,Tryz.results147,go_sem,c1,c2,c3]) rfl ⟨rfl,?_⟩
 repeat refine Below.setCell ?_ (by simp only[];omega) _
 exact ah.out
theorem Vc (p q:Rat) (hp:ShortQ p) (hq:ShortQ q) (w:World) (hE:Env w) :
 Calls Tryz.prog 147 #[qv p,qv q] w fun e w'=>e=.returned (.tuple #[qv (p-q),.int .i64 0])/\Below w.heap.size w w':=by
 have hc:=fun W (h:Env W)=>U5 p (-q) hp hq.neg W h;rw[<-Rat.sub_eq_add_neg]at hc;have ho:=fun W=>VO q W
 have e:qv (-q)=.agg #[.bool (decide ((-q).num<0)),.string (T (some q.num.natAbs)),.string (T (some q.den))]:=by
  unfold qv;rw[show (-q).num.natAbs=q.num.natAbs from Int.natAbs_neg _];rfl
 rw[e]at hc ho;exact UZ _ _ _ _ _ _ _ _ _ _ _ w hE ho hc
end Nt
end
section
open Go.RowKit Go.Shelf
namespace Nt
def B2 (W:World) (b:Nat) (z:Bool) (f:Nat):Prop:=W.heap[b]? = some (.cells #[.bool z,.func (.func f) #[] #[]] 86 (0,0))
theorem B2.lt {W:World} {b:Nat} {z:Bool} {f:Nat} (h:B2 W b z f):b<W.heap.size:=(Array.getElem?_eq_some_iff.1 h).1
theorem B2.facts {W:World} {b:Nat} {z:Bool} {f:Nat} (h:B2 W b z f):W.cell? ⟨b,0,none⟩=some (.bool z)/\W.cell? ⟨b,1,none⟩=some (.func (.func f) #[] #[]):=by
 unfold B2 at h;simp[World.cell?,h]
theorem B2.below {W W':World} {b:Nat} {z:Bool} {f:Nat} (h:B2 W b z f) (hb:Below W.heap.size W W'):B2 W' b z f:=(hb.block b h.lt).trans h
def RunBoxes (W:World) (B:Nat) (z:Bool) (f:Nat) (g1 g2:Bool) (n1 d1 n2 d2:ByteArray):Prop :=
 B2 W B z f/\B3 W (B+1) g1 n1 d1/\B3 W (B+2) g2 n2 d2/\B3 W (B+3) false ⟨#[]⟩ ⟨#[]⟩
theorem RunBoxes.new (w:World) (z:Bool) (f:Nat) (g1 g2:Bool) (n1 d1 n2 d2:ByteArray) :
 RunBoxes ((((w.alloc (.cells #[.bool z,.func (.func f) #[] #[]] 86)).alloc (.cells #[.bool g1,.string n1,.string d1] 40)).alloc (.cells #[.bool g2,.string n2,.string d2] 40)).alloc (.cells #[.bool false,.string ⟨#[]⟩,.string ⟨#[]⟩] 40)) w.heap.size z f g1 g2 n1 d1 n2 d2:=by
 have e1:(w.alloc (.cells #[.bool z,.func (.func f) #[] #[]] 86)).heap.size=w.heap.size+1:=by simp
 have e2:((w.alloc (.cells #[.bool z,.func (.func f) #[] #[]] 86)).alloc (.cells #[.bool g1,.string n1,.string d1] 40)).heap.size=w.heap.size+2:=by simp
 have e3:(((w.alloc (.cells #[.bool z,.func (.func f) #[] #[]] 86)).alloc (.cells #[.bool g1,.string n1,.string d1] 40)).alloc (.cells #[.bool g2,.string n2,.string d2] 40)).heap.size=w.heap.size+3:=by simp
 refine⟨?_,?_,?_,?_⟩
 · unfold B2;rw[Below.heap_alloc _ _ _ (by rw[e3];omega),Below.heap_alloc _ _ _ (by rw[e2];omega),Below.heap_alloc _ _ _ (by rw[e1];omega)];exact heap_alloc_new _ _
 · have h:=B3.new (w.alloc (.cells #[.bool z,.func (.func f) #[] #[]] 86)) g1 n1 d1;rw[e1]at h;exact(h.alloc _).alloc _
 · have h:=B3.new ((w.alloc (.cells #[.bool z,.func (.func f) #[] #[]] 86)).alloc (.cells #[.bool g1,.string n1,.string d1] 40)) g2 n2 d2;rw[e2]at h;exact h.alloc _
 · have h:=B3.new (((w.alloc (.cells #[.bool z,.func (.func f) #[] #[]] 86)).alloc (.cells #[.bool g1,.string n1,.string d1] 40)).alloc (.cells #[.bool g2,.string n2,.string d2] 40)) false ⟨#[]⟩ ⟨#[]⟩;rw[e3]at h;exact h
theorem RunBoxes.below {W W':World} {B:Nat} {z:Bool} {f:Nat} {g1 g2:Bool} {n1 d1 n2 d2:ByteArray} (h:RunBoxes W B z f g1 g2 n1 d1 n2 d2) (hb:Below W.heap.size W W'):RunBoxes W' B z f g1 g2 n1 d1 n2 d2 :=
 ⟨h.1.below hb,h.2.1.below hb,h.2.2.1.below hb,h.2.2.2.below hb⟩
theorem A0 (w:World) (o1 o2 o3 o4:Obj):Below w.heap.size w ((((w.alloc o1).alloc o2).alloc o3).alloc o4) :=
 ((((Below.refl _ w).alloc (Nat.le_refl _) _).alloc (by simp) _).alloc (by simp;omega) _).alloc (by simp;omega) _
theorem VP (z:Bool) (f:Nat) (g1 g2:Bool) (n1 d1 n2 d2:ByteArray) (w:World) (hE:Env w) (s1:n1.size<=140737488355328) (s2:d1.size<=140737488355328) (_s3:n2.size<=140737488355328) (_s4:d2.size<=140737488355328) (v1:Ax g1 n1 d1=false) :
 Calls Tryz.prog 63 #[.agg #[.bool z,.func (.func f) #[] #[]],.agg #[.bool g1,.string n1,.string d1],.agg #[.bool g2,.string n2,.string d2]] w fun e w'=>e=.returned (.tuple #[.agg #[.bool false,.string ⟨#[]⟩,.string ⟨#[]⟩],.int .i64 1])/\Below w.heap.size w w':=by
 have V1:=zh v1;clear v1;replace hE:=zh hE;go_enter Tryz.func63,Tryz.ntmps63
 go_wp2_with fail
 refine(AO g1 n1 d1 _ (hE.out.below (A0 w _ _ _ _)) s1 s2).mono ?_;rintro e w1 ⟨rfl,a⟩;rw[V1.out];have q1:=(RunBoxes.new w z f g1 g2 n1 d1 n2 d2).below a;have d:=zh ((A0 w _ _ _ _).trans (a.mono (A0 w _ _ _ _).size));obtain⟨a1,a2⟩:=q1.1.facts;obtain⟨b1,b2,b3,b4,b5,b6⟩:=q1.2.1.facts;obtain⟨c1,c2,c3,c4,c5,c6⟩:=q1.2.2.1.facts;obtain⟨d1',d2',d3,d4,d5,d6⟩:=q1.2.2.2.facts;have h:=q1.2.2.2.lt;replace q1:=zh q1;clear a;go_wp2;refine bodyPost_ret (v:=.tuple #[.agg #[.bool false,.string ⟨#[]⟩,.string ⟨#[]⟩],.int .i64 1]) (by simp[results,Tryz.results63,go_sem,d1',d2',d3]) rfl ⟨rfl,?_⟩
 repeat refine Below.setCell ?_ (by simp only[];omega) _
 exact d.out
theorem VQ (z:Bool) (f:Nat) (g1 g2:Bool) (n1 d1 n2 d2:ByteArray) (w:World) (hE:Env w) (s1:n1.size<=140737488355328) (s2:d1.size<=140737488355328) (s3:n2.size<=140737488355328) (s4:d2.size<=140737488355328) (v1:Ax g1 n1 d1=true) (v2:Ax g2 n2 d2=false) :
 Calls Tryz.prog 63 #[.agg #[.bool z,.func (.func f) #[] #[]],.agg #[.bool g1,.string n1,.string d1],.agg #[.bool g2,.string n2,.string d2]] w fun e w'=>e=.returned (.tuple #[.agg #[.bool false,.string ⟨#[]⟩,.string ⟨#[]⟩],.int .i64 1])/\Below w.heap.size w w':=by
 have V1:=zh v1;clear v1;have V2:=zh v2;clear v2;replace hE:=zh hE;go_enter Tryz.func63,Tryz.ntmps63
 go_wp2_with fail
 refine(AO g1 n1 d1 _ (hE.out.below (A0 w _ _ _ _)) s1 s2).mono ?_;rintro e w1 ⟨rfl,a⟩;rw[V1.out];have q1:=(RunBoxes.new w z f g1 g2 n1 d1 n2 d2).below a;have h:=zh ((A0 w _ _ _ _).trans (a.mono (A0 w _ _ _ _).size));obtain⟨a1,a2⟩:=q1.1.facts;obtain⟨b1,b2,b3,b4,b5,b6⟩:=q1.2.1.facts;obtain⟨c1,c2,c3,c4,c5,c6⟩:=q1.2.2.1.facts;obtain⟨d1',d2',d3,d4,d5,d6⟩:=q1.2.2.2.facts;have ad:=q1.2.2.2.lt;replace q1:=zh q1;clear a
 go_wp2_with fail
 refine(AO g2 n2 d2 _ (hE.out.below h.out) s3 s4).mono ?_;rintro e w2 ⟨rfl,d⟩;rw[V2.out];have q2:=q1.out.below d;have aa:=zh (h.out.trans (d.mono h.out.size));clear a1 a2 b1 b2 b3 b4 b5 b6 c1 c2 c3 c4 c5 c6 d1' d2' d3 d4 d5 d6 d q1;obtain⟨a1,a2⟩:=q2.1.facts;obtain⟨b1,b2,b3,b4,b5,b6⟩:=q2.2.1.facts;obtain⟨c1,c2,c3,c4,c5,c6⟩:=q2.2.2.1.facts;obtain⟨d1',d2',d3,d4,d5,d6⟩:=q2.2.2.2.facts;have ae:=q2.2.2.2.lt;replace q2:=zh q2;go_wp2;refine bodyPost_ret (v:=.tuple #[.agg #[.bool false,.string ⟨#[]⟩,.string ⟨#[]⟩],.int .i64 1]) (by simp[results,Tryz.results63,go_sem,d1',d2',d3]) rfl ⟨rfl,?_⟩
 repeat refine Below.setCell ?_ (by simp only[];omega) _
 exact aa.out
theorem FK (z:Bool) (f:Nat) (g1 g2:Bool) (n1 d1 n2 d2:ByteArray) (w:World) (hE:Env w) (s1:n1.size<=140737488355328) (s2:d1.size<=140737488355328) (s3:n2.size<=140737488355328) (s4:d2.size<=140737488355328) (v1:Ax g1 n1 d1=true) (v2:Ax g2 n2 d2=true) (hz:z=false∨(z=true/\(n2.toList==[48])=false)) (hl:¬(n1.size<=140/\d1.size<=140/\n2.size<=140/\d2.size<=140)) :
 Calls Tryz.prog 63 #[.agg #[.bool z,.func (.func f) #[] #[]],.agg #[.bool g1,.string n1,.string d1],.agg #[.bool g2,.string n2,.string d2]] w fun e w'=>e=.returned (.tuple #[.agg #[.bool false,.string ⟨#[]⟩,.string ⟨#[]⟩],.int .i64 2])/\Below w.heap.size w w':=by
 have V1:=zh v1;clear v1;have V2:=zh v2;clear v2
 rcases hz with rfl | ⟨rfl,h0⟩
 all_goals
 have hk:140<n1.size∨(n1.size<=140/\140<d1.size)∨(n1.size<=140/\d1.size<=140/\140<n2.size)∨(n1.size<=140/\d1.size<=140/\n2.size<=140/\140<d2.size):=by omega
 clear hl
 rcases hk with l1 | ⟨l1,l2⟩ | ⟨l1,l2,l3⟩ | ⟨l1,l2,l3,l4⟩
 all_goals
  replace hE:=zh hE;go_enter Tryz.func63,Tryz.ntmps63
  go_wp2_with fail
  refine(AO g1 n1 d1 _ (hE.out.below (A0 w _ _ _ _)) s1 s2).mono ?_;rintro e w1 ⟨rfl,a⟩;rw[V1.out];have q1:=(RunBoxes.new w _ f g1 g2 n1 d1 n2 d2).below a;have h:=zh ((A0 w _ _ _ _).trans (a.mono (A0 w _ _ _ _).size));obtain⟨a1,a2⟩:=q1.1.facts;obtain⟨b1,b2,b3,b4,b5,b6⟩:=q1.2.1.facts;obtain⟨c1,c2,c3,c4,c5,c6⟩:=q1.2.2.1.facts;obtain⟨d1',d2',d3,d4,d5,d6⟩:=q1.2.2.2.facts;have ad:=q1.2.2.2.lt;replace q1:=zh q1;clear a
  go_wp2_with fail
  refine(AO g2 n2 d2 _ (hE.out.below h.out) s3 s4).mono ?_;rintro e w2 ⟨rfl,d⟩;rw[V2.out];have q2:=q1.out.below d;have aa:=zh (h.out.trans (d.mono h.out.size));clear a1 a2 b1 b2 b3 b4 b5 b6 c1 c2 c3 c4 c5 c6 d1' d2' d3 d4 d5 d6 d q1;obtain⟨a1,a2⟩:=q2.1.facts;obtain⟨b1,b2,b3,b4,b5,b6⟩:=q2.2.1.facts;obtain⟨c1,c2,c3,c4,c5,c6⟩:=q2.2.2.1.facts;obtain⟨d1',d2',d3,d4,d5,d6⟩:=q2.2.2.2.facts;have ae:=q2.2.2.2.lt;replace q2:=zh q2;go_wp2;refine bodyPost_ret (v:=.tuple #[.agg #[.bool false,.string ⟨#[]⟩,.string ⟨#[]⟩],.int .i64 2]) (by simp[results,Tryz.results63,go_sem,d1',d2',d3]) rfl ⟨rfl,?_⟩
  repeat refine Below.setCell ?_ (by simp only[];omega) _
  exact aa.out
theorem Tx (g1 g2:Bool) (n1 d1 n2 d2:ByteArray) (w:World) (hE:Env w) (s1:n1.size<=140737488355328) (s2:d1.size<=140737488355328) (s3:n2.size<=140737488355328) (s4:d2.size<=140737488355328) (v1:Ax g1 n1 d1=true) (v2:Ax g2 n2 d2=true) (l1:n1.size<=140) (l2:d1.size<=140) (l3:n2.size<=140) (l4:d2.size<=140) (r:Bool) (n d:ByteArray) (E:Int)
 (hf:∀W,Env W->Calls Tryz.prog 88 #[.agg #[.bool g1,.string n1,.string d1],.agg #[.bool g2,.string n2,.string d2]] W fun e w'=>e=.returned (.tuple #[.agg #[.bool r,.string n,.string d],.int .i64 E])/\Below W.heap.size W w') :
 Calls Tryz.prog 63 #[.agg #[.bool false,.func (.func 88) #[] #[]],.agg #[.bool g1,.string n1,.string d1],.agg #[.bool g2,.string n2,.string d2]] w fun e w'=>e=.returned (.tuple #[.agg #[.bool r,.string n,.string d],.int .i64 E])/\Below w.heap.size w w':=by
 have V1:=zh v1;clear v1;have V2:=zh v2;clear v2;have HF:=zh hf;clear hf;replace hE:=zh hE;go_enter Tryz.func63,Tryz.ntmps63
 go_wp2_with fail
 refine(AO g1 n1 d1 _ (hE.out.below (A0 w _ _ _ _)) s1 s2).mono ?_;rintro e w1 ⟨rfl,a⟩;rw[V1.out];have q1:=(RunBoxes.new w _ _ g1 g2 n1 d1 n2 d2).below a;have ae:=zh ((A0 w _ _ _ _).trans (a.mono (A0 w _ _ _ _).size));obtain⟨a1,a2⟩:=q1.1.facts;obtain⟨b1,b2,b3,b4,b5,b6⟩:=q1.2.1.facts;obtain⟨c1,c2,c3,c4,c5,c6⟩:=q1.2.2.1.facts;obtain⟨d1',d2',d3,d4,d5,d6⟩:=q1.2.2.2.facts;have ag:=q1.2.2.2.lt;replace q1:=zh q1;clear a
 go_wp2_with fail
 refine(AO g2 n2 d2 _ (hE.out.below ae.out) s3 s4).mono ?_;rintro e w2 ⟨rfl,h⟩;rw[V2.out];have q2:=q1.out.below h;have aa:=zh (ae.out.trans (h.mono ae.out.size));clear a1 a2 b1 b2 b3 b4 b5 b6 c1 c2 c3 c4 c5 c6 d1' d2' d3 d4 d5 d6 h q1;obtain⟨a1,a2⟩:=q2.1.facts;obtain⟨b1,b2,b3,b4,b5,b6⟩:=q2.2.1.facts;obtain⟨c1,c2,c3,c4,c5,c6⟩:=q2.2.2.1.facts;obtain⟨d1',d2',d3,d4,d5,d6⟩:=q2.2.2.2.facts;have ai:=q2.2.2.2.lt;replace q2:=zh q2
 go_wp2_with fail
 refine(HF.out _ (hE.out.below aa.out)).mono ?_;rintro e w3 ⟨rfl,ad⟩;have q3:=q2.out.below ad;have af:=zh (aa.out.trans (ad.mono aa.out.size));clear a1 a2 b1 b2 b3 b4 b5 b6 c1 c2 c3 c4 c5 c6 d1' d2' d3 d4 d5 d6 ad q2;obtain⟨d1',d2',d3,d4,d5,d6⟩:=q3.2.2.2.facts;have ah:=q3.2.2.2.lt;replace q3:=zh q3;go_wp2;refine bodyPost_ret (v:=.tuple #[.agg #[.bool r,.string n,.string d],.int .i64 E]) (by simp[results,Tryz.results63,go_sem,d1',d2',d3]) rfl ⟨rfl,?_⟩
 repeat refine Below.setCell ?_ (by simp only[];omega) _
 exact af.out
theorem Ty (g1 g2:Bool) (n1 d1 n2 d2:ByteArray) (w:World) (hE:Env w) (s1:n1.size<=140737488355328) (s2:d1.size<=140737488355328) (s3:n2.size<=140737488355328) (s4:d2.size<=140737488355328) (v1:Ax g1 n1 d1=true) (v2:Ax g2 n2 d2=true) (l1:n1.size<=140) (l2:d1.size<=140) (l3:n2.size<=140) (l4:d2.size<=140) (r:Bool) (n d:ByteArray) (E:Int)
 (hf:∀W,Env W->Calls Tryz.prog 147 #[.agg #[.bool g1,.string n1,.string d1],.agg #[.bool g2,.string n2,.string d2]] W fun e w'=>e=.returned (.tuple #[.agg #[.bool r,.string n,.string d],.int .i64 E])/\Below W.heap.size W w') :
 Calls Tryz.prog 63 #[.agg #[.bool false,.func (.func 147) #[] #[]],.agg #[.bool g1,.string n1,.string d1],.agg #[.bool g2,.string n2,.string d2]] w fun e w'=>e=.returned (.tuple #[.agg #[.bool r,.string n,.string d],.int .i64 E])/\Below w.heap.size w w':=by
 have V1:=zh v1;clear v1;have V2:=zh v2;clear v2;have HF:=zh hf;clear hf;replace hE:=zh hE;go_enter Tryz.func63,Tryz.ntmps63
 go_wp2_with fail
 refine(AO g1 n1 d1 _ (hE.out.below (A0 w _ _ _ _)) s1 s2).mono ?_;rintro e w1 ⟨rfl,a⟩;rw[V1.out];have q1:=(RunBoxes.new w _ _ g1 g2 n1 d1 n2 d2).below a;have ae:=zh ((A0 w _ _ _ _).trans (a.mono (A0 w _ _ _ _).size));obtain⟨a1,a2⟩:=q1.1.facts;obtain⟨b1,b2,b3,b4,b5,b6⟩:=q1.2.1.facts;obtain⟨c1,c2,c3,c4,c5,c6⟩:=q1.2.2.1.facts;obtain⟨d1',d2',d3,d4,d5,d6⟩:=q1.2.2.2.facts;have ag:=q1.2.2.2.lt;replace q1:=zh q1;clear a
 go_wp2_with fail
 refine(AO g2 n2 d2 _ (hE.out.below ae.out) s3 s4).mono ?_;rintro e w2 ⟨rfl,h⟩;rw[V2.out];have q2:=q1.out.below h;have aa:=zh (ae.out.trans (h.mono ae.out.size));clear a1 a2 b1 b2 b3 b4 b5 b6 c1 c2 c3 c4 c5 c6 d1' d2' d3 d4 d5 d6 h q1;obtain⟨a1,a2⟩:=q2.1.facts;obtain⟨b1,b2,b3,b4,b5,b6⟩:=q2.2.1.facts;obtain⟨c1,c2,c3,c4,c5,c6⟩:=q2.2.2.1.facts;obtain⟨d1',d2',d3,d4,d5,d6⟩:=q2.2.2.2.facts;have ai:=q2.2.2.2.lt;replace q2:=zh q2
 go_wp2_with fail
 refine(HF.out _ (hE.out.below aa.out)).mono ?_;rintro e w3 ⟨rfl,ad⟩;have q3:=q2.out.below ad;have af:=zh (aa.out.trans (ad.mono aa.out.size));clear a1 a2 b1 b2 b3 b4 b5 b6 c1 c2 c3 c4 c5 c6 d1' d2' d3 d4 d5 d6 ad q2;obtain⟨d1',d2',d3,d4,d5,d6⟩:=q3.2.2.2.facts;have ah:=q3.2.2.2.lt;replace q3:=zh q3;go_wp2;refine bodyPost_ret (v:=.tuple #[.agg #[.bool r,.string n,.string d],.int .i64 E]) (by simp[results,Tryz.results63,go_sem,d1',d2',d3]) rfl ⟨rfl,?_⟩
 repeat refine Below.setCell ?_ (by simp only[];omega) _
 exact af.out
theorem KI (g1 g2:Bool) (n1 d1 n2 d2:ByteArray) (w:World) (hE:Env w) (s1:n1.size<=140737488355328) (s2:d1.size<=140737488355328) (s3:n2.size<=140737488355328) (s4:d2.size<=140737488355328) (v1:Ax g1 n1 d1=true) (v2:Ax g2 n2 d2=true) (l1:n1.size<=140) (l2:d1.size<=140) (l3:n2.size<=140) (l4:d2.size<=140) (r:Bool) (n d:ByteArray) (E:Int)
 (hf:∀W,Env W->Calls Tryz.prog 62 #[.agg #[.bool g1,.string n1,.string d1],.agg #[.bool g2,.string n2,.string d2]] W fun e w'=>e=.returned (.tuple #[.agg #[.bool r,.string n,.string d],.int .i64 E])/\Below W.heap.size W w') :
 Calls Tryz.prog 63 #[.agg #[.bool false,.func (.func 62) #[] #[]],.agg #[.bool g1,.string n1,.string d1],.agg #[.bool g2,.string n2,.string d2]] w fun e w'=>e=.returned (.tuple #[.agg #[.bool r,.string n,.string d],.int .i64 E])/\Below w.heap.size w w':=by
 have V1:=zh v1;clear v1;have V2:=zh v2;clear v2;have HF:=zh hf;clear hf;replace hE:=zh hE;go_enter Tryz.func63,Tryz.ntmps63
 go_wp2_with fail
 refine(AO g1 n1 d1 _ (hE.out.below (A0 w _ _ _ _)) s1 s2).mono ?_;rintro e w1 ⟨rfl,a⟩;rw[V1.out];have q1:=(RunBoxes.new w _ _ g1 g2 n1 d1 n2 d2).below a;have ae:=zh ((A0 w _ _ _ _).trans (a.mono (A0 w _ _ _ _).size));obtain⟨a1,a2⟩:=q1.1.facts;obtain⟨b1,b2,b3,b4,b5,b6⟩:=q1.2.1.facts;obtain⟨c1,c2,c3,c4,c5,c6⟩:=q1.2.2.1.facts;obtain⟨d1',d2',d3,d4,d5,d6⟩:=q1.2.2.2.facts;have ag:=q1.2.2.2.lt;replace q1:=zh q1;clear a
 go_wp2_with fail
 refine(AO g2 n2 d2 _ (hE.out.below ae.out) s3 s4).mono ?_;rintro e w2 ⟨rfl,h⟩;rw[V2.out];have q2:=q1.out.below h;have aa:=zh (ae.out.trans (h.mono ae.out.size));clear a1 a2 b1 b2 b3 b4 b5 b6 c1 c2 c3 c4 c5 c6 d1' d2' d3 d4 d5 d6 h q1;obtain⟨a1,a2⟩:=q2.1.facts;obtain⟨b1,b2,b3,b4,b5,b6⟩:=q2.2.1.facts;obtain⟨c1,c2,c3,c4,c5,c6⟩:=q2.2.2.1.facts;obtain⟨d1',d2',d3,d4,d5,d6⟩:=q2.2.2.2.facts;have ai:=q2.2.2.2.lt;replace q2:=zh q2
 go_wp2_with fail
 refine(HF.out _ (hE.out.below aa.out)).mono ?_;rintro e w3 ⟨rfl,ad⟩;have q3:=q2.out.below ad;have af:=zh (aa.out.trans (ad.mono aa.out.size));clear a1 a2 b1 b2 b3 b4 b5 b6 c1 c2 c3 c4 c5 c6 d1' d2' d3 d4 d5 d6 ad q2;obtain⟨d1',d2',d3,d4,d5,d6⟩:=q3.2.2.2.facts;have ah:=q3.2.2.2.lt;replace q3:=zh q3;go_wp2;refine bodyPost_ret (v:=.tuple #[.agg #[.bool r,.string n,.string d],.int .i64 E]) (by simp[results,Tryz.results63,go_sem,d1',d2',d3]) rfl ⟨rfl,?_⟩
 repeat refine Below.setCell ?_ (by simp only[];omega) _
 exact af.out
theorem Tz (g1 g2:Bool) (n1 d1 n2 d2:ByteArray) (w:World) (hE:Env w) (s1:n1.size<=140737488355328) (s2:d1.size<=140737488355328) (s3:n2.size<=140737488355328) (s4:d2.size<=140737488355328) (v1:Ax g1 n1 d1=true) (v2:Ax g2 n2 d2=true) (h0:(n2.toList==[48])=false) (l1:n1.size<=140) (l2:d1.size<=140) (l3:n2.size<=140) (l4:d2.size<=140) (r:Bool) (n d:ByteArray) (E:Int)
 (hf:∀W,Env W->Calls Tryz.prog 146 #[.agg #[.bool g1,.string n1,.string d1],.agg #[.bool g2,.string n2,.string d2]] W fun e w'=>e=.returned (.tuple #[.agg #[.bool r,.string n,.string d],.int .i64 E])/\Below W.heap.size W w') :
 Calls Tryz.prog 63 #[.agg #[.bool true,.func (.func 146) #[] #[]],.agg #[.bool g1,.string n1,.string d1],.agg #[.bool g2,.string n2,.string d2]] w fun e w'=>e=.returned (.tuple #[.agg #[.bool r,.string n,.string d],.int .i64 E])/\Below w.heap.size w w':=by
 have V1:=zh v1;clear v1;have V2:=zh v2;clear v2;have HF:=zh hf;clear hf;replace hE:=zh hE;go_enter Tryz.func63,Tryz.ntmps63
 go_wp2_with fail
 refine(AO g1 n1 d1 _ (hE.out.below (A0 w _ _ _ _)) s1 s2).mono ?_;rintro e w1 ⟨rfl,a⟩;rw[V1.out];have q1:=(RunBoxes.new w _ _ g1 g2 n1 d1 n2 d2).below a;have ae:=zh ((A0 w _ _ _ _).trans (a.mono (A0 w _ _ _ _).size));obtain⟨a1,a2⟩:=q1.1.facts;obtain⟨b1,b2,b3,b4,b5,b6⟩:=q1.2.1.facts;obtain⟨c1,c2,c3,c4,c5,c6⟩:=q1.2.2.1.facts;obtain⟨d1',d2',d3,d4,d5,d6⟩:=q1.2.2.2.facts;have ag:=q1.2.2.2.lt;replace q1:=zh q1;clear a
 go_wp2_with fail
 refine(AO g2 n2 d2 _ (hE.out.below ae.out) s3 s4).mono ?_;rintro e w2 ⟨rfl,h⟩;rw[V2.out];have q2:=q1.out.below h;have aa:=zh (ae.out.trans (h.mono ae.out.size));clear a1 a2 b1 b2 b3 b4 b5 b6 c1 c2 c3 c4 c5 c6 d1' d2' d3 d4 d5 d6 h q1;obtain⟨a1,a2⟩:=q2.1.facts;obtain⟨b1,b2,b3,b4,b5,b6⟩:=q2.2.1.facts;obtain⟨c1,c2,c3,c4,c5,c6⟩:=q2.2.2.1.facts;obtain⟨d1',d2',d3,d4,d5,d6⟩:=q2.2.2.2.facts;have ai:=q2.2.2.2.lt;replace q2:=zh q2
 go_wp2_with fail
 refine(HF.out _ (hE.out.below aa.out)).mono ?_;rintro e w3 ⟨rfl,ad⟩;have q3:=q2.out.below ad;have af:=zh (aa.out.trans (ad.mono aa.out.size));clear a1 a2 b1 b2 b3 b4 b5 b6 c1 c2 c3 c4 c5 c6 d1' d2' d3 d4 d5 d6 ad q2;obtain⟨d1',d2',d3,d4,d5,d6⟩:=q3.2.2.2.facts;have ah:=q3.2.2.2.lt;replace q3:=zh q3;go_wp2;refine bodyPost_ret (v:=.tuple #[.agg #[.bool r,.string n,.string d],.int .i64 E]) (by simp[results,Tryz.results63,go_sem,d1',d2',d3]) rfl ⟨rfl,?_⟩
 repeat refine Below.setCell ?_ (by simp only[];omega) _
 exact af.out
end Nt
end
end Go.Proofs.YtilodknkildkbaaGreatDoor

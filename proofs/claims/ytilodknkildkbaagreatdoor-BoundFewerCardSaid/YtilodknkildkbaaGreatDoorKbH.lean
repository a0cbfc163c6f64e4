/- Texts that the proof needs: BndSum, BndP, BndVal, BndLeast, CirQueue, CirRepeat, CirInts, CirList, CirRanks. -/
import Derived.Deep.RegionHeld3
import Derived.ArgAppend
import Derived.Test.YtilodknkildkbaaGreatDoorShelf
import Derived.Laws.CopyOwn
import Derived.Deep.RegionLaw
import Derived.Deep.QuietTactic
import Derived.BigQuiet
import Derived.IntWalk
import Derived.Deep.LoopGhost
import Derived.Test.YtilodknkildkbaaGreatDoorKbA
import Derived.Test.YtilodknkildkbaaGreatDoorKbB
import Derived.Test.YtilodknkildkbaaGreatDoorKbC
import Derived.Test.YtilodknkildkbaaGreatDoorKbD
import Derived.Test.YtilodknkildkbaaGreatDoorKbE
import Derived.Test.YtilodknkildkbaaGreatDoorKbF
import Derived.Test.YtilodknkildkbaaGreatDoorKbG
set_option maxHeartbeats 16000000
set_option maxRecDepth 100000
namespace Go.Proofs.YtilodknkildkbaaGreatDoor
section
open Go.RowKit Go.Shelf
attribute [local go_sem] Oper.semAt_some
namespace Bd
open Nt Ci Sh
theorem Gl {B:Nat} {W A:World} {row:Option Nat} {b:Nat} {t:TypeId} {cs:List Value} (h:Bk W b t cs) (hg:W.grownBy A row) (hr:∀r,row=some r→B≤r∧∃o:Obj,W.heap[r]? = some o∧o.isCells=false):Bk A b t cs :=
 h.grown hg fun e=>by
  obtain⟨_,o,ho,hn⟩:=hr b e.symm;rw[show W.heap[b]? = some (.cells cs.toArray t (0,0)) from h]at ho
  cases ho;cases hn
def D4 (L:List Lp) (val:Nat→Rat) (i:Nat):Rat:=(L.getD i (0,0,0)).2.2*val (L.getD i (0,0,0)).2.1
def En {n:Nat} (L:List Lp) (val:Nat→Rat) (pre:List (E0 n)):Rat:=pre.foldl (fun a i=>a+D4 L val i.1) 0
theorem Gm {n:Nat} (L:List Lp) (val:Nat→Rat) (pre:List (E0 n)) (x:E0 n):En L val (pre++[x])=En L val pre+D4 L val x.1:=by
 unfold En;rw[List.foldl_append];rfl
theorem Gn {s:SR} (hsd:soundB s=true) (val:Nat→Rat) (p:Nat):∀k,k≤s.cap.length→En (Ad s.cap) val (Ek (p:Int) s.cap k)=Aj p val ((Ad s.cap).take k)
 | 0,_=>by rw[List.take_zero];rfl
 | k + 1,hk=>by
   have hcl:(Ad s.cap).length=s.cap.length:=by unfold Ad;rw[List.length_map]
   obtain⟨co,ho,Ag,hle,hlp,hco,hho⟩:=CX hsd (k:=k) (by omega);have hst:=Cy (p:=p) (f:=val) (l:=Ad s.cap) (k:=k) (by rw[hcl];omega);have hht:=IH (p:Int) s.cap (k:=k) (by omega);rw[hle]at hht;dsimp only at hht;rw[hst,hlp,hht];have ih:=Gn hsd val p k (by omega);dsimp only
   by_cases c:co=p
   · have hk2:k<(Ad s.cap).length:=by omega
     have ht:D4 (Ad s.cap) val k=Ag*val ho:=by
      unfold D4;rw[List.getD_eq_getElem?_getD,List.getElem?_eq_getElem hk2,hlp];rfl
     rw[if_pos c,if_pos (by omega),Gm,ih];exact congrArg (Aj p val ((Ad s.cap).take k)+·) ht
   · rw[if_neg c,if_neg (by omega),List.append_nil,ih,Rat.add_zero]
theorem KL (s:SR) (Ap Ac Av Aw Ar:Option Addr) (cp cc cv cw cr nr:Nat) (ab:Bool) (sb qb p:Nat) (val:Nat→Rat) (w:World) (hE:Env w) (hc:InLk w Ac s.cap) (hsd:soundB s=true) (hc3:s.cap.length≤300)
 (hv:InRow w Aw (AG s.ps.length val)) (hsv:∀q,q<s.ps.length→ShortQ (val q)) (hpv:∀i,i<s.cap.length→ShortQ (D4 (Ad s.cap) val i)) (hsm:∀pre:List (E0 s.cap.length),pre.length≤s.cap.length→ShortQ (En (Ad s.cap) val pre))
 (hS:Bk w sb 25 [.slice Ap s.ps.length cp,.slice Ac s.cap.length cc,.slice Av s.vot.length cv]) (hQ:Bk w qb 29 [.bool ab,.slice Aw s.ps.length cw,.slice Ar nr cr]) :
 Calls Tryz.prog 39 #[.int .i64 (p:Int),.pointer (some ⟨sb,0,none⟩),.pointer (some ⟨qb,0,none⟩)] w fun e w'=>e=.returned (.agg #[.bool (rq (Aj p val (Ad s.cap))).1,.string (rq (Aj p val (Ad s.cap))).2.1,.string (rq (Aj p val (Ad s.cap))).2.2])∧Below w.heap.size w w':=by
 have hL:=AQ hsd;have u0:=hS.c0;have u1:=hS.c1;have u2:=hS.c2;have u9:=hS.lt;have kh:=zh (fun W=>G4 s Ap Ac Av cp cc cv (p:Int) W);have h0z:Hid (([.bool false,.string ⟨#[48]⟩,.string ⟨#[49]⟩]:List Value)=[.bool (rq (0)).1,.string (rq (0)).2.1,.string (rq (0)).2.2]):=zh (by kernel_rfl);obtain⟨w1,hw1⟩:∃W,W=(((w.alloc (.cells #[.bool false,.string ⟨#[]⟩,.string ⟨#[]⟩] 40)).alloc (.cells #[.bool false,.string ⟨#[48]⟩,.string ⟨#[49]⟩] 40)).alloc (.cells #[.slice Ap s.ps.length cp,.slice Ac s.cap.length cc,.slice Av s.vot.length cv] 25)).alloc (.cells #[.int .i64 (p:Int)] 3):=⟨_,rfl⟩;have hsz:w1.heap.size=w.heap.size+4:=by rw[hw1];simp
 have hB1:Hid (Below w.heap.size w w1):=by rw[hw1];exact((((Below.refl _ w).alloc (Nat.le_refl _) _).alloc (by simp) _).alloc (by simp;omega) _).alloc (by simp;omega) _
 have hR1:Hid (Bk w1 w.heap.size 40 [.bool false,.string ⟨#[]⟩,.string ⟨#[]⟩]):=by rw[hw1];exact(((Bk.new w _ _).alloc _).alloc _).alloc _
 have hT1:Hid (Bk w1 (w.heap.size+1) 40 [.bool (rq (0)).1,.string (rq (0)).2.1,.string (rq (0)).2.2]):=by
  rw[hw1,←h0z.out];have h:=Bk.new (w.alloc (.cells #[.bool false,.string ⟨#[]⟩,.string ⟨#[]⟩] 40)) 40 [.bool false,.string ⟨#[48]⟩,.string ⟨#[49]⟩];rw[World.size_alloc]at h;exact(h.alloc _).alloc _
 have hS1:Hid (Bk w1 (w.heap.size+1+1) 25 [.slice Ap s.ps.length cp,.slice Ac s.cap.length cc,.slice Av s.vot.length cv]):=by
  rw[hw1];have h:=Bk.new ((w.alloc (.cells #[.bool false,.string ⟨#[]⟩,.string ⟨#[]⟩] 40)).alloc (.cells #[.bool false,.string ⟨#[48]⟩,.string ⟨#[49]⟩] 40)) 25 [.slice Ap s.ps.length cp,.slice Ac s.cap.length cc,.slice Av s.vot.length cv];rw[World.size_alloc,World.size_alloc]at h;exact h.alloc _
 have hPb:Hid (Bk w1 (w.heap.size+1+1+1) 3 [.int .i64 (p:Int)]):=by
  rw[hw1];have h:=(Bk.new (((w.alloc (.cells #[.bool false,.string ⟨#[]⟩,.string ⟨#[]⟩] 40)).alloc (.cells #[.bool false,.string ⟨#[48]⟩,.string ⟨#[49]⟩] 40)).alloc (.cells #[.slice Ap s.ps.length cp,.slice Ac s.cap.length cc,.slice Av s.vot.length cv] 25)) 3 [.int .i64 (p:Int)]);rw[World.size_alloc,World.size_alloc,World.size_alloc]at h;exact h
 have hP1:Hid (w1.cell? ⟨w.heap.size+1+1+1,0,none⟩=some (.int .i64 (p:Int))):=hPb.out.c0;have hc1:Hid (InLk w1 Ac s.cap):=hc.below hB1.out
 have hcb:Hid (0<s.cap.length→∀b o,Ac=some ⟨b,o,none⟩→b<w.heap.size):=fun h0 b o e=>by
  obtain⟨b',o',e',hl,_⟩:=hc h0;rw[e]at e';cases e';exact hl
 replace hE:=zh hE;replace hc:=zh hc;replace hv:=zh hv;replace hsv:=zh hsv;replace hpv:=zh hpv;replace hsm:=zh hsm;replace hS:=zh hS;replace hQ:=zh hQ;replace hL:=zh hL;refine(callsIn_wide (n:=3)).1 ?_;refine callsIn_of_wp_marks Tryz.func39 rfl trivial ?_ rfl;simp only[Tryz.ntmps39,List.size_toArray,List.length_cons,List.length_nil,Nat.reduceAdd,Nat.reduceSub,Array.replicate_succ,Array.replicate_zero,List.push_toArray,List.append_toArray,List.nil_append,List.cons_append];refine wpIn_wide.2 ?_
 go_wp2_with fail
 refine(kh.out _).mono ?_;rintro e w2 ⟨rfl,rfl⟩
 go_wp2_with fail
 rw[←hw1];replace hw1:=zh hw1;clear u0 u1 u2 u9 kh;refine(wpIn_wide (n:=3)).1 ?_
 refine wpIn_rangeFunc_ownH (F:=Fence.wide) rfl (by decide) (gf:=87) (lb:=#[.pointer (some ⟨w.heap.size+1+1,0,none⟩),.pointer (some ⟨w.heap.size+1+1+1,0,none⟩)]) rfl trivial (enters_of Tryz.func87 (by kernel_rfl) rfl)
  (Fd Fence.wide 2 trivial rfl (by decide) s Ap Ac Av cp cc cv (w.heap.size+1+1) (w.heap.size+1+1+1) w.heap.size (p:Int) w1 hc1.out (by omega) (by omega) hcb.out (by omega) hS1.out hP1.out) (fun h k=>Kq.trans h k) (UF (by omega) (by omega)) (Below.refl _ _) (fun _=>rfl)
  (fun pre W=>(Bk W (w.heap.size+1) 40 [.bool (rq (En (Ad s.cap) val pre)).1,.string (rq (En (Ad s.cap) val pre)).2.1,.string (rq (En (Ad s.cap) val pre)).2.2]∧Bk W w.heap.size 40 [.bool false,.string ⟨#[]⟩,.string ⟨#[]⟩]∧Bk W (w.heap.size+1+1+1) 3 [.int .i64 (p:Int)])∧Below w.heap.size w W)
  (fun _ _ _=>False)
  (OwnFrom.and (fun _ _ _ _ hs hg hr=>⟨Gl hs.1 hg hr,Gl hs.2.1 hg hr,Gl hs.2.2 hg hr⟩) (ownFrom_below (Nat.le_refl _) (by omega)))
  (fun _ _ _ _ _ hs _ _=>hs)
  ⟨⟨hT1.out,hR1.out,hPb.out⟩,hB1.out⟩
  (fun x a' W=>∃Bx,w.heap.size+1+1+1<Bx∧Bk W Bx 59 [.int .i64 (s.cap[x.1]'x.2).1,.int .i64 (s.cap[x.1]'x.2).2.1,.bool (s.cap[x.1]'x.2).2.2.1,.string (s.cap[x.1]'x.2).2.2.2.1,.string (s.cap[x.1]'x.2).2.2.2.2]∧a'={ tmps:=#[.int .i64 (p:Int),.pointer (some ⟨sb,0,none⟩),.pointer (some ⟨qb,0,none⟩),undef,.pointer (some ⟨w.heap.size,0,none⟩),.pointer (some ⟨w.heap.size+1,0,none⟩),.pointer (some ⟨Bx,0,none⟩),undef,undef,.agg #[.bool false,.string ⟨#[48]⟩,.string ⟨#[49]⟩],.agg #[.slice Ap s.ps.length cp,.slice Ac s.cap.length cc,.slice Av s.vot.length cv],.int .i64 (p:Int),.func (.func 87) #[] #[.pointer (some ⟨w.heap.size+1+1,0,none⟩),.pointer (some ⟨w.heap.size+1+1+1,0,none⟩)],lkV (s.cap[x.1]'x.2),undef,undef,undef,undef,undef,undef,undef,undef,undef,undef,undef,undef,undef,undef,undef,undef,undef,undef,undef],defers:=[] })
  (fun x a' _ X Y row hs hg hr=>by obtain⟨Bx,h1,h2,h3⟩:=hs;exact⟨Bx,h1,Gl h2 hg hr,h3⟩)
  ?assign ?body ?done ?stop
 case assign =>
  rintro l pre x W K ⟨⟨bT,bR,bP⟩,hB⟩ hK;have hWs:=hB.size;have hP:=bP.lt;unfold lkV
  gi_wp2
  exact hK _ _ ((KeepsOthers.alloc _ _).from _) ((Kq.refl W).alloc hWs hP _) ⟨⟨bT.alloc _,bR.alloc _,bP.alloc _⟩,hB.alloc hWs _⟩ ⟨W.heap.size,by omega,Bk.new W _ _,rfl⟩
 case body =>
  rintro l pre x a' W hl ⟨r,hr⟩ ⟨⟨bT,bR,bP⟩,hB⟩ ⟨Bx,hBx,bX,rfl⟩ hlt;obtain⟨i,hi⟩:=x;obtain⟨co,ho,Ag,hle,hlp,hco,hho⟩:=CX hsd (k:=i) hi;dsimp only at bX ⊢;have hcl:(Ad s.cap).length=s.cap.length:=by unfold Ad;rw[List.length_map]
  have hps:=HJ hL.out (k:=i) (by rw[hcl];exact hi);rw[hlp]at hps;dsimp only at hps;have hterm:D4 (Ad s.cap) val i=Ag*val ho:=by unfold D4;rw[List.getD_eq_getElem?_getD,List.getElem?_eq_getElem (by rw[hcl];exact hi),hlp];rfl
  have hsn:=Gm (Ad s.cap) val pre (⟨i,hi⟩:E0 s.cap.length);dsimp only at hsn;rw[hterm]at hsn;have hsp:=hpv.out i hi;rw[hterm]at hsp;have hss:=hsm.out pre (by omega);rw[hle]at bX ⊢;dsimp only at bX;have hWs:=hB.size;have hPl:=bP.lt;have bQ:=hQ.out.below hB;obtain⟨vb,vo,rfl,hvl,hvc⟩:=(hv.out.below hB (Nat.le_refl _)) (by rw[Ah];omega);obtain⟨v0,v1,v2⟩:=hvc ho (by rw[Ah];omega);rw[B7]at v0 v1 v2;clear hvc;have q4:(0:Int)≤(ho:Int):=by omega
  have q5:(ho:Int)<(s.ps.length:Int):=by omega
  have hEl:Hid (∀W2,Below W.heap.size W W2→Env W2):=fun W2 h=>hE.out.below (hB.trans (h.mono hWs));have km:Hid (∀W2,Env W2→Calls Tryz.prog 26 #[.agg #[.bool (rq (Ag)).1,.string (rq (Ag)).2.1,.string (rq (Ag)).2.2],.agg #[.bool (rq (val ho)).1,.string (rq (val ho)).2.1,.string (rq (val ho)).2.2]] W2 fun e w'=>e=.returned (.tuple #[.agg #[.bool (rq (Ag*val ho)).1,.string (rq (Ag*val ho)).2.1,.string (rq (Ag*val ho)).2.2],.int .i64 0])∧Below W2.heap.size W2 w'):=fun W2 hW=>EK Ag (val ho) hps (hsv.out ho hho) W2 hW;have ka:Hid (∀W2,Env W2→Calls Tryz.prog 41 #[.agg #[.bool (rq (En (Ad s.cap) val pre)).1,.string (rq (En (Ad s.cap) val pre)).2.1,.string (rq (En (Ad s.cap) val pre)).2.2],.agg #[.bool (rq (Ag*val ho)).1,.string (rq (Ag*val ho)).2.1,.string (rq (Ag*val ho)).2.2]] W2 fun e w'=>e=.returned (.tuple #[.agg #[.bool (rq (En (Ad s.cap) val (pre++[⟨i,hi⟩]))).1,.string (rq (En (Ad s.cap) val (pre++[⟨i,hi⟩]))).2.1,.string (rq (En (Ad s.cap) val (pre++[⟨i,hi⟩]))).2.2],.int .i64 0])∧Below W2.heap.size W2 w'):=fun W2 hW=>by rw[hsn];exact I6 _ _ hss hsp W2 hW
  have HS:Hid (∀W2,Below W.heap.size W W2→(fun W=>W.cell? ⟨Bx,1,none⟩=some (.int .i64 (ho:Int))∧W.cell? ⟨Bx,2,none⟩=some (.bool (rq (Ag)).1)∧W.cell? ⟨Bx,3,none⟩=some (.string (rq (Ag)).2.1)∧W.cell? ⟨Bx,4,none⟩=some (.string (rq (Ag)).2.2)∧W.cell? ⟨qb,1,none⟩=some (.slice (some ⟨vb,vo,none⟩) s.ps.length cw)∧W.cell? ⟨vb,vo+ho*3,none⟩=some (.bool (rq (val ho)).1)∧W.cell? ⟨vb,vo+ho*3+1,none⟩=some (.string (rq (val ho)).2.1)∧W.cell? ⟨vb,vo+ho*3+2,none⟩=some (.string (rq (val ho)).2.2)) W2):=fun W2 h=>⟨(bX.below h).c1,(bX.below h).c2,(bX.below h).c3,(bX.below h).c4,(bQ.below h).c1,(h.cell (p:=⟨vb,vo+ho*3,none⟩) hvl).trans v0,(h.cell (p:=⟨vb,vo+ho*3+1,none⟩) hvl).trans v1,(h.cell (p:=⟨vb,vo+ho*3+2,none⟩) hvl).trans v2⟩;have hD:Hid (Below W.heap.size W W.drew):=(Below.refl _ _).drew;have hwz:Hid (W.heap.size≤W.heap.size):=Nat.le_refl _;replace hB:=zh hB;replace bT:=zh bT;replace bR:=zh bR;replace bP:=zh bP;replace hterm:=zh hterm;replace hsn:=zh hsn;replace hlp:=zh hlp;replace hle:=zh hle;replace hr:=zh hr;clear bX bQ v0 v1 v2 hvl hps hsp hss
  gi_wp2
  refine FD (S:=fun W=>W.cell? ⟨Bx,1,none⟩=some (.int .i64 (ho:Int))∧W.cell? ⟨Bx,2,none⟩=some (.bool (rq (Ag)).1)∧W.cell? ⟨Bx,3,none⟩=some (.string (rq (Ag)).2.1)∧W.cell? ⟨Bx,4,none⟩=some (.string (rq (Ag)).2.2)∧W.cell? ⟨qb,1,none⟩=some (.slice (some ⟨vb,vo,none⟩) s.ps.length cw)∧W.cell? ⟨vb,vo+ho*3,none⟩=some (.bool (rq (val ho)).1)∧W.cell? ⟨vb,vo+ho*3+1,none⟩=some (.string (rq (val ho)).2.1)∧W.cell? ⟨vb,vo+ho*3+2,none⟩=some (.string (rq (val ho)).2.2)) (by kernel_rfl) (by kernel_rfl) (fun⟨_,_,h⟩=>h) (HS.out _ hD.out) (fun hS0=>?_);refine Bn (i:=0) (by kernel_rfl) (by kernel_rfl) (by kernel_rfl) (by rfl) (by assumption) (fun oi ho=>?_);simp only[List.getElem?_toArray,List.getElem?_cons_zero,Option.some.injEq]at ho;subst ho;refine⟨?_,fun _ _ _ h=>h,.inl ⟨by rfl,fun W hSw=>?_⟩,?_⟩;rotate_left
  · (obtain⟨q1,q2,q3,q4,q5,q6,q7,q8⟩:=hSw;go_simp<;>with_reducible rfl)
  simp only[Act.put,List.setIfInBounds_toArray,List.set_cons_zero,List.set_cons_succ];refine Bn (i:=1) (by kernel_rfl) (by kernel_rfl) (by kernel_rfl) (by rfl) (by assumption) (fun oi ho=>?_);simp only[List.getElem?_toArray,List.getElem?_cons_succ,List.getElem?_cons_zero,Option.some.injEq]at ho;subst ho;refine⟨?_,fun _ _ _ h=>h,.inl ⟨by rfl,fun W hSw=>?_⟩,?_⟩;rotate_left
  · (obtain⟨q1,q2,q3,q4,q5,q6,q7,q8⟩:=hSw;go_simp<;>with_reducible rfl)
  simp only[Act.put,List.setIfInBounds_toArray,List.set_cons_zero,List.set_cons_succ];refine Bn (i:=2) (by kernel_rfl) (by kernel_rfl) (by kernel_rfl) (by rfl) (by assumption) (fun oi ho=>?_);simp only[List.getElem?_toArray,List.getElem?_cons_succ,List.getElem?_cons_zero,Option.some.injEq]at ho;subst ho;refine⟨?_,fun _ _ _ h=>h,.inl ⟨by rfl,fun W hSw=>?_⟩,?_⟩;rotate_left
  · (obtain⟨q1,q2,q3,q4,q5,q6,q7,q8⟩:=hSw;go_simp<;>with_reducible rfl)
  simp only[Act.put,List.setIfInBounds_toArray,List.set_cons_zero,List.set_cons_succ];refine Bn (i:=3) (by kernel_rfl) (by kernel_rfl) (by kernel_rfl) (by rfl) (by assumption) (fun oi ho=>?_);simp only[List.getElem?_toArray,List.getElem?_cons_succ,List.getElem?_cons_zero,Option.some.injEq]at ho;subst ho;refine⟨?_,fun _ _ _ h=>h,.inl ⟨by rfl,fun W hSw=>?_⟩,?_⟩;rotate_left
  · (obtain⟨q1,q2,q3,q4,q5,q6,q7,q8⟩:=hSw;go_simp<;>with_reducible rfl)
  simp only[Act.put,List.setIfInBounds_toArray,List.set_cons_zero,List.set_cons_succ];refine Bn (i:=4) (by kernel_rfl) (by kernel_rfl) (by kernel_rfl) (by rfl) (by assumption) (fun oi ho=>?_);simp only[List.getElem?_toArray,List.getElem?_cons_succ,List.getElem?_cons_zero,Option.some.injEq]at ho;subst ho;refine⟨?_,fun _ _ _ h=>h,.inl ⟨by rfl,fun W hSw=>?_⟩,?_⟩;rotate_left
  · (obtain⟨q1,q2,q3,q4,q5,q6,q7,q8⟩:=hSw;go_simp<;>with_reducible rfl)
  simp only[Act.put,List.setIfInBounds_toArray,List.set_cons_zero,List.set_cons_succ];refine Bn (i:=5) (by kernel_rfl) (by kernel_rfl) (by kernel_rfl) (by rfl) (by assumption) (fun oi ho=>?_);simp only[List.getElem?_toArray,List.getElem?_cons_succ,List.getElem?_cons_zero,Option.some.injEq]at ho;subst ho;refine⟨?_,fun _ _ _ h=>h,.inl ⟨by rfl,fun W hSw=>?_⟩,?_⟩;rotate_left
  · (obtain⟨q1,q2,q3,q4,q5,q6,q7,q8⟩:=hSw;go_simp<;>with_reducible rfl)
  simp only[Act.put,List.setIfInBounds_toArray,List.set_cons_zero,List.set_cons_succ];refine Bn (i:=6) (by kernel_rfl) (by kernel_rfl) (by kernel_rfl) (by rfl) (by assumption) (fun oi ho=>?_);simp only[List.getElem?_toArray,List.getElem?_cons_succ,List.getElem?_cons_zero,Option.some.injEq]at ho;subst ho;refine⟨?_,fun _ _ _ h=>h,.inl ⟨by rfl,fun W hSw=>?_⟩,?_⟩;rotate_left
  · (obtain⟨q1,q2,q3,q4,q5,q6,q7,q8⟩:=hSw;go_simp<;>with_reducible rfl)
  simp only[Act.put,List.setIfInBounds_toArray,List.set_cons_zero,List.set_cons_succ];refine Bn (i:=7) (by kernel_rfl) (by kernel_rfl) (by kernel_rfl) (by rfl) (by assumption) (fun oi ho=>?_);simp only[List.getElem?_toArray,List.getElem?_cons_succ,List.getElem?_cons_zero,Option.some.injEq]at ho;subst ho;refine⟨?_,fun _ _ _ h=>h,.inl ⟨by rfl,fun W hSw=>?_⟩,?_⟩;rotate_left
  · (obtain⟨q1,q2,q3,q4,q5,q6,q7,q8⟩:=hSw;go_simp<;>with_reducible rfl)
  simp only[Act.put,List.setIfInBounds_toArray,List.set_cons_zero,List.set_cons_succ];refine wpAnyH_ready (rs:=[8,12]) (by kernel_rfl) (by simp) ?_;refine AllReadyH.cons (o:=_) rfl (fun K hK=>?_) (AllReadyH.cons (o:=_) rfl (fun K hK=>?_) AllReadyH.nil)
  · go_simp;refine(km.out _ (hEl.out _ hD.out)).mono ?_;rintro e w8 ⟨rfl,hb⟩;have h8:=zh (hD.out.trans (hb.mono hD.out.size));clear hb km;refine hK.out _ _ (HS.out _ h8.out) (fun hS8=>?_)
    (try simp only[Act.put,List.setIfInBounds_toArray,List.set_cons_zero,List.set_cons_succ])
    clear hS0;refine Bn (i:=9) (by kernel_rfl) (by kernel_rfl) (by kernel_rfl) (by rfl) (by assumption) (fun oi ho=>?_);simp only[List.getElem?_toArray,List.getElem?_cons_succ,List.getElem?_cons_zero,Option.some.injEq]at ho;subst ho;refine⟨?_,fun _ _ _ h=>h,.inl ⟨by rfl,fun W hSw=>?_⟩,?_⟩;rotate_left
    · (obtain⟨q1,q2,q3,q4,q5,q6,q7,q8⟩:=hSw;go_simp<;>with_reducible rfl)
    simp only[Act.put,List.setIfInBounds_toArray,List.set_cons_zero,List.set_cons_succ];refine Bn (i:=10) (by kernel_rfl) (by kernel_rfl) (by kernel_rfl) (by rfl) (by assumption) (fun oi ho=>?_);simp only[List.getElem?_toArray,List.getElem?_cons_succ,List.getElem?_cons_zero,Option.some.injEq]at ho;subst ho;refine⟨?_,fun _ _ _ h=>h,.inl ⟨by rfl,fun W hSw=>?_⟩,?_⟩;rotate_left
    · (obtain⟨q1,q2,q3,q4,q5,q6,q7,q8⟩:=hSw;go_simp<;>with_reducible rfl)
    simp only[Act.put,List.setIfInBounds_toArray,List.set_cons_zero,List.set_cons_succ];refine Bn (i:=11) (by kernel_rfl) (by kernel_rfl) (by kernel_rfl) (by rfl) (by assumption) (fun oi ho=>?_);simp only[List.getElem?_toArray,List.getElem?_cons_succ,List.getElem?_cons_zero,Option.some.injEq]at ho;subst ho;refine⟨?_,fun _ _ _ h=>h,.inl ⟨by rfl,fun W hSw=>?_⟩,?_⟩;rotate_left
    · (obtain⟨q1,q2,q3,q4,q5,q6,q7,q8⟩:=hSw;go_simp<;>with_reducible rfl)
    simp only[Act.put,List.setIfInBounds_toArray,List.set_cons_zero,List.set_cons_succ];refine wpAnyH_ready (rs:=[12]) (by kernel_rfl) (by simp) ?_;refine AllReadyH.cons (o:=_) rfl (fun K hK=>?_) AllReadyH.nil;go_simp;refine hK.out _ _ (by first | (with_reducible exact HS.out _ (h8.out.alloc h8.out.size _)) | (with_reducible exact HS.out _ (((h8.out.setCell hwz.out _).setCell hwz.out _).setCell hwz.out _))) (fun _=>?_)
    (try simp only[Act.put,List.setIfInBounds_toArray,List.set_cons_zero,List.set_cons_succ])
    refine wpAnyH_ready (rs:=[13]) (by kernel_rfl) (by simp) ?_;refine AllReadyH.cons (o:=_) rfl (fun K hK=>?_) AllReadyH.nil;go_simp;refine hK.out _ _ (by first | (with_reducible exact HS.out _ (h8.out.alloc h8.out.size _)) | (with_reducible exact HS.out _ (((h8.out.setCell hwz.out _).setCell hwz.out _).setCell hwz.out _))) (fun _=>?_)
    (try simp only[Act.put,List.setIfInBounds_toArray,List.set_cons_zero,List.set_cons_succ])
    refine Bn (i:=14) (by kernel_rfl) (by kernel_rfl) (by kernel_rfl) (by rfl) (by assumption) (fun oi ho=>?_);simp only[List.getElem?_toArray,List.getElem?_cons_succ,List.getElem?_cons_zero,Option.some.injEq]at ho;subst ho;refine⟨?_,fun _ _ _ h=>h,.inl ⟨by rfl,fun W hSw=>?_⟩,?_⟩;rotate_left
    · (obtain⟨q1,q2,q3,q4,q5,q6,q7,q8⟩:=hSw;go_simp<;>with_reducible rfl)
    simp only[Act.put,List.setIfInBounds_toArray,List.set_cons_zero,List.set_cons_succ];refine wpAnyH_done (by kernel_rfl) ?_ _;obtain⟨w9,hw9⟩:∃X,X=(w8.alloc (.cells #[.bool (rq (Ag*val ho)).1,.string (rq (Ag*val ho)).2.1,.string (rq (Ag*val ho)).2.2] 40)):=⟨_,rfl⟩;obtain⟨xb,hxb⟩:∃x,x=w8.heap.size:=⟨_,rfl⟩;have h9:Hid (Below W.heap.size W w9):=by rw[hw9];exact h8.out.alloc h8.out.size _
    have hP:Hid (Bk w9 xb 40 [.bool (rq (Ag*val ho)).1,.string (rq (Ag*val ho)).2.1,.string (rq (Ag*val ho)).2.2]):=by rw[hw9,hxb];exact Bk.new _ _ _
    rw[←hw9,←hxb];replace hw9:=zh hw9;replace hxb:=zh hxb;have bT9:=zh (bT.out.below h9.out);have hE9:=zh (hEl.out _ h9.out);have x0:=bT9.out.c0;have x1:=bT9.out.c1;have x2:=bT9.out.c2;have x9:=bT9.out.lt;have y0:=hP.out.c0;have y1:=hP.out.c1;have y2:=hP.out.c2;have y9:=hP.out.lt;have k9:=zh (ka.out _ hE9.out);clear hS8 HS hD hEl ka
    gi_wp2_with (refine⟨trivial,?_⟩;refine(CallsIn.inRound l (callsIn_wide.2 k9.out)).mono ?_;rintro e w10 ⟨rfl,hb⟩;have bT10:=zh (bT9.out.below hb);have h10:=zh (h9.out.trans (hb.mono h9.out.size));clear hb bT9 hP k9 x0 x1 x2 x9 y0 y1 y2 y9;have x0:=bT10.out.c0;have x1:=bT10.out.c1;have x2:=bT10.out.c2;have x9:=bT10.out.lt;have xf0:=bT10.out.frozen 0;have xf1:=bT10.out.frozen 1;have xf2:=bT10.out.frozen 2)
    have hB10:=hB.out.trans (h10.out.mono hWs);have hp3:w.heap.size+1+1+1≠w.heap.size+1:=by omega
    refine⟨((G3 h10.out).from _).trans (((KeepsOthers.setCell _ _ _).trans (KeepsOthers.setCell _ _ _)).trans (KeepsOthers.setCell _ _ _) |>.from _),?_,⟨?_,?_,?_⟩,?_⟩
    · exact((((Kq.refl W).below h10.out hWs hPl).set (a:=⟨w.heap.size+1,0,none⟩) (by simp) (by show w.heap.size+1+1+1≠w.heap.size+1;omega) _).set (a:=⟨w.heap.size+1,1,none⟩) (by simp) (by show w.heap.size+1+1+1≠w.heap.size+1;omega) _).set (a:=⟨w.heap.size+1,2,none⟩) (by simp) (by show w.heap.size+1+1+1≠w.heap.size+1;omega) _
    · exact Bk.set (Bk.set (Bk.set bT10.out 0 _) 1 _) 2 _
    · exact(((bR.out.below h10.out).far (by simp) _).far (by simp) _).far (by simp) _
    · exact(((bP.out.below h10.out).far hp3 _).far hp3 _).far hp3 _
    · exact((hB10.setCell (p:=⟨w.heap.size+1,0,none⟩) (by simp) _).setCell (p:=⟨w.heap.size+1,1,none⟩) (by simp) _).setCell (p:=⟨w.heap.size+1,2,none⟩) (by simp) _
  · go_simp;have hDa:Hid (Below W.heap.size W (W.alloc (.cells #[.bool false,.string ⟨#[]⟩,.string ⟨#[]⟩] 40)).drew):=((Below.refl _ W).alloc (Nat.le_refl _) _).drew;have hZ:Hid (Bk (W.alloc (.cells #[.bool false,.string ⟨#[]⟩,.string ⟨#[]⟩] 40)).drew W.heap.size 40 [.bool false,.string ⟨#[]⟩,.string ⟨#[]⟩]):=(show Bk (W.alloc (.cells #[.bool false,.string ⟨#[]⟩,.string ⟨#[]⟩] 40)) W.heap.size 40 [.bool false,.string ⟨#[]⟩,.string ⟨#[]⟩] from Bk.new _ _ _);refine hK.out _ _ (HS.out _ hDa.out) (fun hSa=>?_)
    (try simp only[Act.put,List.setIfInBounds_toArray,List.set_cons_zero,List.set_cons_succ])
    clear hS0;refine wpAnyH_ready (rs:=[8]) (by kernel_rfl) (by simp) ?_;refine AllReadyH.cons (o:=_) rfl (fun K hK=>?_) AllReadyH.nil;go_simp;refine(km.out _ (hEl.out _ hDa.out)).mono ?_;rintro e w8 ⟨rfl,hb⟩;have h8:=zh (hDa.out.trans (hb.mono hDa.out.size));have hz8:=zh (hZ.out.below hb);clear hb km hZ hDa;have y0:=hz8.out.c0;have y1:=hz8.out.c1;have y2:=hz8.out.c2;have y9:=hz8.out.lt;have yf0:=hz8.out.frozen 0;have yf1:=hz8.out.frozen 1;have yf2:=hz8.out.frozen 2;refine hK.out _ _ (HS.out _ h8.out) (fun hS8=>?_)
    (try simp only[Act.put,List.setIfInBounds_toArray,List.set_cons_zero,List.set_cons_succ])
    clear hSa;refine Bn (i:=9) (by kernel_rfl) (by kernel_rfl) (by kernel_rfl) (by rfl) (by assumption) (fun oi ho=>?_);simp only[List.getElem?_toArray,List.getElem?_cons_succ,List.getElem?_cons_zero,Option.some.injEq]at ho;subst ho;refine⟨?_,fun _ _ _ h=>h,.inl ⟨by rfl,fun W hSw=>?_⟩,?_⟩;rotate_left
    · (obtain⟨q1,q2,q3,q4,q5,q6,q7,q8⟩:=hSw;go_simp<;>with_reducible rfl)
    simp only[Act.put,List.setIfInBounds_toArray,List.set_cons_zero,List.set_cons_succ];refine Bn (i:=10) (by kernel_rfl) (by kernel_rfl) (by kernel_rfl) (by rfl) (by assumption) (fun oi ho=>?_);simp only[List.getElem?_toArray,List.getElem?_cons_succ,List.getElem?_cons_zero,Option.some.injEq]at ho;subst ho;refine⟨?_,fun _ _ _ h=>h,.inl ⟨by rfl,fun W hSw=>?_⟩,?_⟩;rotate_left
    · (obtain⟨q1,q2,q3,q4,q5,q6,q7,q8⟩:=hSw;go_simp<;>with_reducible rfl)
    simp only[Act.put,List.setIfInBounds_toArray,List.set_cons_zero,List.set_cons_succ];refine Bn (i:=11) (by kernel_rfl) (by kernel_rfl) (by kernel_rfl) (by rfl) (by assumption) (fun oi ho=>?_);simp only[List.getElem?_toArray,List.getElem?_cons_succ,List.getElem?_cons_zero,Option.some.injEq]at ho;subst ho;refine⟨?_,fun _ _ _ h=>h,.inl ⟨by rfl,fun W hSw=>?_⟩,?_⟩;rotate_left
    · (obtain⟨q1,q2,q3,q4,q5,q6,q7,q8⟩:=hSw;go_simp<;>with_reducible rfl)
    simp only[Act.put,List.setIfInBounds_toArray,List.set_cons_zero,List.set_cons_succ];refine wpAnyH_ready (rs:=[13]) (by kernel_rfl) (by simp) ?_;refine AllReadyH.cons (o:=_) rfl (fun K hK=>?_) AllReadyH.nil;go_simp;refine hK.out _ _ (by first | (with_reducible exact HS.out _ (h8.out.alloc h8.out.size _)) | (with_reducible exact HS.out _ (((h8.out.setCell hwz.out _).setCell hwz.out _).setCell hwz.out _))) (fun _=>?_)
    (try simp only[Act.put,List.setIfInBounds_toArray,List.set_cons_zero,List.set_cons_succ])
    refine Bn (i:=14) (by kernel_rfl) (by kernel_rfl) (by kernel_rfl) (by rfl) (by assumption) (fun oi ho=>?_);simp only[List.getElem?_toArray,List.getElem?_cons_succ,List.getElem?_cons_zero,Option.some.injEq]at ho;subst ho;refine⟨?_,fun _ _ _ h=>h,.inl ⟨by rfl,fun W hSw=>?_⟩,?_⟩;rotate_left
    · (obtain⟨q1,q2,q3,q4,q5,q6,q7,q8⟩:=hSw;go_simp<;>with_reducible rfl)
    simp only[Act.put,List.setIfInBounds_toArray,List.set_cons_zero,List.set_cons_succ];refine wpAnyH_done (by kernel_rfl) ?_ _;clear y0 y1 y2 y9 yf0 yf1 yf2;have hS8:=0;obtain⟨w9,hw9⟩:∃X,X=((w8.setCell ⟨W.heap.size,0,none⟩ (.bool (rq (Ag*val ho)).1)).setCell ⟨W.heap.size,1,none⟩ (.string (rq (Ag*val ho)).2.1)).setCell ⟨W.heap.size,2,none⟩ (.string (rq (Ag*val ho)).2.2):=⟨_,rfl⟩;obtain⟨xb,hxb⟩:∃x,x=W.heap.size:=⟨_,rfl⟩;have h9:Hid (Below W.heap.size W w9):=by rw[hw9];exact((h8.out.setCell hwz.out _).setCell hwz.out _).setCell hwz.out _
    have hP:Hid (Bk w9 xb 40 [.bool (rq (Ag*val ho)).1,.string (rq (Ag*val ho)).2.1,.string (rq (Ag*val ho)).2.2]):=by rw[hw9,hxb];exact((hz8.out.set 0 _).set 1 _).set 2 _
    rw[←hw9,←hxb];replace hw9:=zh hw9;replace hxb:=zh hxb;have bT9:=zh (bT.out.below h9.out);have hE9:=zh (hEl.out _ h9.out);have x0:=bT9.out.c0;have x1:=bT9.out.c1;have x2:=bT9.out.c2;have x9:=bT9.out.lt;have y0:=hP.out.c0;have y1:=hP.out.c1;have y2:=hP.out.c2;have y9:=hP.out.lt;have k9:=zh (ka.out _ hE9.out);clear hS8 HS hD hEl ka
    gi_wp2_with (refine⟨trivial,?_⟩;refine(CallsIn.inRound l (callsIn_wide.2 k9.out)).mono ?_;rintro e w10 ⟨rfl,hb⟩;have bT10:=zh (bT9.out.below hb);have h10:=zh (h9.out.trans (hb.mono h9.out.size));clear hb bT9 hP k9 x0 x1 x2 x9 y0 y1 y2 y9;have x0:=bT10.out.c0;have x1:=bT10.out.c1;have x2:=bT10.out.c2;have x9:=bT10.out.lt;have xf0:=bT10.out.frozen 0;have xf1:=bT10.out.frozen 1;have xf2:=bT10.out.frozen 2)
    have hB10:=hB.out.trans (h10.out.mono hWs);have hp3:w.heap.size+1+1+1≠w.heap.size+1:=by omega
    refine⟨((G3 h10.out).from _).trans (((KeepsOthers.setCell _ _ _).trans (KeepsOthers.setCell _ _ _)).trans (KeepsOthers.setCell _ _ _) |>.from _),?_,⟨?_,?_,?_⟩,?_⟩
    · exact((((Kq.refl W).below h10.out hWs hPl).set (a:=⟨w.heap.size+1,0,none⟩) (by simp) (by show w.heap.size+1+1+1≠w.heap.size+1;omega) _).set (a:=⟨w.heap.size+1,1,none⟩) (by simp) (by show w.heap.size+1+1+1≠w.heap.size+1;omega) _).set (a:=⟨w.heap.size+1,2,none⟩) (by simp) (by show w.heap.size+1+1+1≠w.heap.size+1;omega) _
    · exact Bk.set (Bk.set (Bk.set bT10.out 0 _) 1 _) 2 _
    · exact(((bR.out.below h10.out).far (by simp) _).far (by simp) _).far (by simp) _
    · exact(((bP.out.below h10.out).far hp3 _).far hp3 _).far hp3 _
    · exact((hB10.setCell (p:=⟨w.heap.size+1,0,none⟩) (by simp) _).setCell (p:=⟨w.heap.size+1,1,none⟩) (by simp) _).setCell (p:=⟨w.heap.size+1,2,none⟩) (by simp) _
 case done =>
  rintro D ys W hD rfl ⟨⟨bT,bR,_⟩,hB⟩ hK;rw[Gn hsd val p _ (Nat.le_refl _),List.take_of_length_le (by unfold Ad;rw[List.length_map];exact Nat.le_refl _)]at bT;have x0:=bT.c0;have x1:=bT.c1;have x2:=bT.c2;have x9:=bT.lt;have r0:=bR.c0;have r1:=bR.c1;have r2:=bR.c2;have r9:=bR.lt;have rf0:=bR.frozen 0;have rf1:=bR.frozen 1;have rf2:=bR.frozen 2;replace hB:=zh hB;replace hK:=zh hK;obtain⟨W2,hW2⟩:∃X,X=((W.setCell ⟨w.heap.size,0,none⟩ (.bool (rq (Aj p val (Ad s.cap))).1)).setCell ⟨w.heap.size,1,none⟩ (.string (rq (Aj p val (Ad s.cap))).2.1)).setCell ⟨w.heap.size,2,none⟩ (.string (rq (Aj p val (Ad s.cap))).2.2):=⟨_,rfl⟩;have hB2:Hid (Below w.heap.size w W2):=by rw[hW2];exact((hB.out.setCell (p:=⟨w.heap.size,0,none⟩) (Nat.le_refl _) _).setCell (p:=⟨w.heap.size,1,none⟩) (Nat.le_refl _) _).setCell (p:=⟨w.heap.size,2,none⟩) (Nat.le_refl _) _
  have hR2:Hid (Bk W2 w.heap.size 40 [.bool (rq (Aj p val (Ad s.cap))).1,.string (rq (Aj p val (Ad s.cap))).2.1,.string (rq (Aj p val (Ad s.cap))).2.2]):=by rw[hW2];exact Bk.set (Bk.set (Bk.set bR 0 _) 1 _) 2 _
  have hK2:Hid (W2.heap[D]? = some (.deferred (some []))):=by
   rw[hW2];exact(((KeepsOthers.setCell _ _ _).trans (KeepsOthers.setCell _ _ _)).trans (KeepsOthers.setCell _ _ _)).same D _ hK.out rfl
  go_wp2
  (try rw[←hW2])
  refine⟨by simp,.inl ⟨_,_,rfl,run_takeDeferred hK2.out,?_⟩⟩;have hne:w.heap.size≠D:=by omega
  have bR3:Bk (W2.putObj D (.deferred none)) w.heap.size 40 [.bool (rq (Aj p val (Ad s.cap))).1,.string (rq (Aj p val (Ad s.cap))).2.1,.string (rq (Aj p val (Ad s.cap))).2.2]:=hR2.out.grown (grownBy_putObj' W2 D _) (fun e=>by cases e;exact hne rfl);have s0:=bR3.c0;have s1:=bR3.c1;have s2:=bR3.c2;refine⟨.agg #[.bool (rq (Aj p val (Ad s.cap))).1,.string (rq (Aj p val (Ad s.cap))).2.1,.string (rq (Aj p val (Ad s.cap))).2.2],?_,rfl,hB2.out.trans (belowK_b (w:=w) (Nat.le_refl _) W2 D _ _ (by omega) hK2.out rfl rfl)⟩;simp[results,Tryz.results39,go_sem,s0,s1,s2]
 case stop =>
  rintro D c pre W _ _ h _;exact h.elim
end Bd
end
section
namespace Bd
open Nt Ci Sh
section
variable {n:Nat} {L:List Lp} {F:List Nat}
def Abv (n:Nat) (L:List Lp) (F:List Nat) (v:Nat→Rat):Prop:=∀p,p<n→0≤v p∧(p∈F→1≤v p)∧(p∉F→Aj p v L≤v p)
def QU (L:List Lp) (F:List Nat) (v:Nat→Rat) (r:Nat→Int) (p:Nat):Prop :=
 (v p=0→r p=-1)∧(v p≠0→p∈F→r p=0∧v p≤1)∧(v p≠0→p∉F→1≤r p∧v p≤Aj p v L∧∃x,x∈L∧x.1=p∧0≤r x.2.1∧r x.2.1<r p∧v x.2.1≠0)
def Blw (n:Nat) (L:List Lp) (F:List Nat) (v:Nat→Rat) (r:Nat→Int):Prop:=∀p,p<n→0≤v p∧QU L F v r p
theorem Abv.eff (hL:Caps n L) {v e:Nat→Rat} (h:Abv n L F v) (he:Eff n L F e):∀p,p<n→e p≤v p :=
 he.least hL (fun p hp=>(h p hp).1) (fun p hp hF=>(h p hp).2.1 hF) fun p hp hF=>(h p hp).2.2 hF
theorem Blw.grounded {v:Nat→Rat} {r:Nat→Int} (h:Blw n L F v r):∀p,p<n→p∉F→0<v p→v p≤Aj p v L∧∃x,x∈L∧x.1=p∧(r x.2.1).toNat<(r p).toNat:=fun p hp hF hv=>by
 obtain⟨h1,h2,x,x1,x2,x3,x4,_⟩:=(h p hp).2.2.2 (by grind) hF;exact⟨h2,x,x1,x2,by omega⟩
theorem Blw.le1 {v:Nat→Rat} {r:Nat→Int} (h:Blw n L F v r):∀p,p<n→p∈F→v p≤1:=fun p hp hF=>by
 by_cases c:v p=0
 · rw[c];decide
 · exact((h p hp).2.2.1 c hF).2
theorem Blw.eff (hL:Caps n L) {v e:Nat→Rat} {r:Nat→Int} (h:Blw n L F v r) (he:Eff n L F e):∀p,p<n→v p≤e p :=
 he.most hL (fun p=>(r p).toNat) h.le1 h.grounded
theorem Blw.meet (hL:Caps n L) {v w:Nat→Rat} {r:Nat→Int} (h:Blw n L F v r) (hw:Abv n L F w):∀p,p<n→v p≤w p :=
 Sh.meet hL (fun p=>(r p).toNat) h.le1 h.grounded (fun p hp=>(hw p hp).1) (fun p hp hF=>(hw p hp).2.1 hF) fun p hp hF=>(hw p hp).2.2 hF
theorem Eff.abv {e:Nat→Rat} (he:Eff n L F e):Abv n L F e:=fun p hp=>⟨(he.rng p).1,fun hF=>by rw[he.listed p hF];exact Rat.le_refl,fun hF=>by rw[←he.sum p hp hF];exact Rat.le_refl⟩
theorem Eff.blw (hL:Caps n L) {e:Nat→Rat} (he:Eff n L F e):Blw n L F e (rk (Ae L) F):=fun p hp=>by
 have hz:e p=0↔rk (Ae L) F p=-1:=by
  have h1:=he.pos p hp;have h2:=To (E:=Ae L) (F:=F) (p:=p);have h3:=(he.rng p).1;constructor
  · intro e0
    rcases Int.lt_or_le (rk (Ae L) F p) 0 with c | c
    · omega
    · have:=h1.2 c;grind
  · intro e0;exact he.out p hp (by omega)
 refine⟨(he.rng p).1,hz.1,fun _ hF=>⟨Dv.2 hF,(he.rng p).2⟩,fun hne hF=>?_⟩;have h2:=To (E:=Ae L) (F:=F) (p:=p);have h0:rk (Ae L) F p≠0:=fun e=>hF (Dv.1 e);have hm:rk (Ae L) F p≠-1:=fun e=>hne (hz.2 e);refine⟨by omega,by rw[←he.sum p hp hF];exact Rat.le_refl,?_⟩;obtain⟨r,hr⟩:∃r:Nat,rk (Ae L) F p=((r+1:Nat):Int):=⟨(rk (Ae L) F p).toNat-1,by omega⟩;obtain⟨q,k1,k2⟩:=EG hr;obtain⟨x,x1,x2,x3⟩:=EN k2;refine⟨x,x1,x2,by rw[x3];omega,by rw[x3];omega,?_⟩;have:=(he.pos x.2.1 (hL.lt x x1).2).2 (by rw[x3];omega);grind
theorem Abv.fewer (hL:Caps n L) {v:Nat→Rat} (h:Abv n L F v) (k:Nat):Abv n (L.eraseIdx k) F v:=fun p hp=>by
 obtain⟨h1,h2,h3⟩:=h p hp;refine⟨h1,h2,fun c=>?_⟩;have e1:=h3 c;have e2:=Mg (p:=p) (f:=fun q=>if q<n then v q else 0) (fun q=>by split;(· next c=>exact(h q c).1);(· exact Rat.le_refl)) k hL.pos;rw[BH (f:=fun q=>if q<n then v q else 0) (g:=v) (L:=L) fun x hx _=>if_pos (hL.lt x hx).2,BH (f:=fun q=>if q<n then v q else 0) (g:=v) (L:=L.eraseIdx k) fun x hx _=>if_pos (hL.lt x (List.mem_of_mem_eraseIdx hx)).2]at e2;grind
end
theorem isI_dvd {x:Rat} {D:Nat} (h:x.den∣D):IsI ((D:Rat)*x):=by
 obtain⟨k,rfl⟩:=h;have hq:=Rat.mkRat_self x;rw[Rat.mkRat_eq_div]at hq
 have hd:(x.den:Rat)≠0:=by
  have:(0:Rat)<(x.den:Rat):=Rat.natCast_pos.2 x.den_pos;grind
 refine⟨k*x.num,?_⟩;rw[Rat.natCast_mul,Rat.intCast_mul,Rat.intCast_natCast];rw[Rat.div_def]at hq;have hi:=Rat.mul_inv_cancel _ hd;generalize (x.den:Rat)=D at *;generalize (x.num:Rat)=N at *;rw[←hq];have e:D*(k:Rat)*(N*D⁻¹)=(k:Rat)*N*(D*D⁻¹):=by grind
 rw[e,hi];grind
structure Fits (M n:Nat) (v:Nat→Rat) (D:Nat):Prop where
 dp:0<D
 dm:D<M
 nn:∀p,p<n→0≤v p
 num:∀p,p<n→(v p).num.natAbs<M
 dvd:∀p,p<n→(v p).den∣D
theorem OE {x:Rat} {M:Nat} (_:0≤x) (h:x.num.natAbs<M):x≤(M:Rat):=by
 rw[Rat.le_iff];have e1:((M:Nat):Rat).num=M:=Rat.num_natCast M;have e2:((M:Nat):Rat).den=1:=Rat.den_natCast M;rw[e1,e2];have hd:=x.den_pos;have:(M:Int)*1≤(M:Int)*(x.den:Int):=Int.mul_le_mul_of_nonneg_left (by omega) (by omega);omega
theorem Ub {x:Rat} {c d:Nat} (hd:0<d) (h0:0≤x) (h1:x≤(c:Rat)) (hi:IsI ((d:Rat)*x)):x.num.natAbs≤c*d∧x.den≤d:=by
 obtain⟨z,hz⟩:=hi
 have hdr:(d:Rat)≠0:=by
  have:(0:Rat)<(d:Rat):=Rat.natCast_pos.2 hd;grind
 have e:x=mkRat z d:=by
  rw[Rat.mkRat_eq_div,←hz,Rat.div_def];have:=Rat.mul_inv_cancel _ hdr;grind
 have hden:x.den∣d:=by
  rw[e,Rat.den_mkRat,if_neg (by omega)];exact Nat.div_dvd_of_dvd (Nat.gcd_dvd_left _ _)
 have hle:=Nat.le_of_dvd hd hden;refine⟨?_,hle⟩;have h2:=(Rat.le_iff _ _).1 h1;have e1:((c:Nat):Rat).num=c:=Rat.num_natCast c;have e2:((c:Nat):Rat).den=1:=Rat.den_natCast c;rw[e1,e2]at h2;have h3:=Rat.num_nonneg.2 h0
 have h4:x.num.natAbs≤c*x.den:=by
  have:((c*x.den:Nat):Int)=(c:Int)*(x.den:Int):=Int.natCast_mul ..;omega
 exact Nat.le_trans h4 (Nat.mul_le_mul_left _ hle)
theorem Fits.sum {M n D:Nat} {L:List Lp} {v:Nat→Rat} (h:Fits M n v D) (hL:Caps n L) (p k:Nat):(Aj p v (L.take k)).num.natAbs≤M*(6000*M)∧(Aj p v (L.take k)).den≤6000*M:=by
 have hT:=hL.take k;have h0:=BI (p:=p) (f:=v) hT.pos fun x hx _=>h.nn _ (hT.lt x hx).2;have h1:Aj p v (L.take k)≤(M:Rat):=hT.le_of (Rat.natCast_nonneg) fun x hx _=>OE (h.nn _ (hT.lt x hx).2) (h.num _ (hT.lt x hx).2);have h2:=hT.int_sum (p:=p) (f:=v) (D:=(D:Rat)) fun x hx _=>isI_dvd (h.dvd _ (hT.lt x hx).2);have h3:IsI (((6000*D:Nat):Rat)*Aj p v (L.take k)):=by rw[Rat.natCast_mul];exact h2
 obtain⟨a,b⟩:=Ub (Nat.mul_pos (by omega) h.dp) h0 h1 h3;have hm:6000*D≤6000*M:=Nat.mul_le_mul_left _ (Nat.le_of_lt h.dm);exact⟨Nat.le_trans a (Nat.mul_le_mul_left _ hm),Nat.le_trans b hm⟩
end Bd
end
section
namespace Bd
open Nt Ci Sh
def BT (V:List Raw) (p:Nat):Rat:=if p<V.length then vq (V.getD p zraw) else 0
structure FitV (val:Nat→Rat) (D:Nat):Prop where
 nn:∀p,0≤val p
 dp:0<D
 dlt:D<10^65
 num:∀p,(val p).num.natAbs<10^65
 whole:∀p,IsI ((D:Rat)*val p)
theorem QV {m d:Nat} (hm:0<m):m∣B4 m d∧d∣B4 m d:=by
 unfold B4;refine⟨Nat.dvd_mul_right _ _,?_⟩;have hg:=Nat.gcd_pos_of_pos_left d hm;obtain⟨a,ha⟩:=Nat.gcd_dvd_left m d;obtain⟨b,hb⟩:=Nat.gcd_dvd_right m d;generalize Nat.gcd m d=g at *;have e1:d/g=b:=by rw[hb,Nat.mul_div_cancel_left _ hg]
 rw[e1];exact⟨a,by rw[ha,hb];rw[Nat.mul_assoc,Nat.mul_assoc,Nat.mul_comm a b]⟩
theorem HW:∀(l:List Raw) (m:Nat),0<m→m<10^65→Gc m l=true→(∀x,x∈l→DP x=true∧x.1=false∧x.2.1.size≤65∧x.2.2.size≤65)∧∃D,0<D∧D<10^65∧m∣D∧∀x,x∈l→(vq x).den∣D
 | [],m,hm,h65,_=>⟨fun _ h=>(by cases h),m,hm,h65,Nat.dvd_refl _,fun _ h=>(by cases h)⟩
 | x :: t,m,hm,h65,h=>by
   rw[Ge]at h;simp only[Bool.and_eq_true,decide_eq_true_eq,Bool.not_eq_true']at h;obtain⟨h1,h2,h3,h4,h5,h6⟩:=h;obtain⟨i1,D,d1,d2,d3,d4⟩:=HW t (B4 m (vq x).den) (Gf hm (vq x).den_pos) ((BG (by decide)).1 h5) h6;have hn:=QV (d:=(vq x).den) hm;refine⟨fun y hy=>?_,D,d1,d2,Nat.dvd_trans hn.1 d3,fun y hy=>?_⟩
   · rcases List.mem_cons.1 hy with rfl | hy
     · exact⟨h1,h2,h3,h4⟩
     · exact i1 y hy
   · rcases List.mem_cons.1 hy with rfl | hy
     · exact Nat.dvd_trans hn.2 d3
     · exact d4 y hy
theorem JA {V:List Raw} {p:Nat} (h:p<V.length):BT V p=vq V[p]:=by
 unfold BT;rw[if_pos h,List.getD_eq_getElem?_getD,List.getElem?_eq_getElem h];rfl
theorem DW {V:List Raw} (h:D1 V=true):V=AG V.length (BT V)∧∃D,FitV (BT V) D:=by
 obtain⟨h1,D,d1,d2,_,d4⟩:=HW V 1 (by decide) (Nat.one_lt_pow (by decide) (by decide)) h;have hx:∀p (hp:p<V.length),rq (BT V p)=V[p]:=fun p hp=>by rw[JA hp];exact(Fu (h1 _ (List.getElem_mem hp)).1).1
 refine⟨List.ext_getElem (Ah _ _).symm fun i hi h2=>?_,D,fun p=>?_,d1,d2,fun p=>?_,fun p=>?_⟩
 · rw[B7,hx i hi]
 · by_cases hp:p<V.length
   · have e:(rq (BT V p)).1=false:=by rw[hx p hp];exact(h1 _ (List.getElem_mem hp)).2.1
     have e2:¬(BT V p).num<0:=of_decide_eq_false e;exact Rat.num_nonneg.1 (by omega)
   · rw[show BT V p=0 from if_neg hp];exact Rat.le_refl
 · by_cases hp:p<V.length
   · have e:(T (some (BT V p).num.natAbs))=V[p].2.1:=congrArg (·.2.1) (hx p hp);exact(BG (by decide)).1 (by rw[e];exact(h1 _ (List.getElem_mem hp)).2.2.1)
   · rw[show BT V p=0 from if_neg hp];exact Nat.pow_pos (by decide)
 · by_cases hp:p<V.length
   · rw[JA hp];exact isI_dvd (d4 _ (List.getElem_mem hp))
   · rw[show BT V p=0 from if_neg hp,Rat.mul_zero];exact IsI.zero
theorem FitV.dg {val:Nat→Rat} {D:Nat} (h:FitV val D) (p:Nat):Dg 65 (val p) :=
 ⟨h.num p,Nat.lt_of_le_of_lt (Nat.le_of_dvd h.dp (FI h.dp (h.whole p))) h.dlt⟩
theorem FitV.short {val:Nat→Rat} {D:Nat} (h:FitV val D) (p:Nat):ShortQ (val p):=(h.dg p).short (by decide)
theorem SS {q:Rat} (h:Fit 6000 q):Dg 4 q:=by
 obtain⟨h1,h2,d,d1,d2,d3⟩:=h;have hd:q.den≤6000:=Nat.le_trans (Nat.le_of_dvd d1 (FI d1 d3)) d2;have b:=(Rat.le_iff _ _).1 h2;have c:=(Rat.le_iff _ _).1 h1;have e3:(1:Rat).num=1:=rfl;have e4:(1:Rat).den=1:=rfl;have e5:(-1:Rat).num=-1:=rfl;have e6:(-1:Rat).den=1:=rfl;rw[e3,e4]at b;rw[e5,e6]at c;exact⟨by show q.num.natAbs<10^4;omega,by show q.den<10^4;omega⟩
theorem Uc {val:Nat→Rat} {D:Nat} (h:FitV val D) (p:Nat):val p≤((10^65:Nat):Rat):=by
 rw[Rat.le_iff];have e3:((10^65:Nat):Rat).num=((10^65:Nat):Int):=rfl;have e4:((10^65:Nat):Rat).den=1:=rfl;rw[e3,e4];have h1:=h.num p;have h2:=(val p).den_pos;have h3:(val p).num≤((10^65:Nat):Int):=by omega
 have h4:((10^65:Nat):Int)*1≤((10^65:Nat):Int)*((val p).den:Int):=Int.mul_le_mul_of_nonneg_left (by omega) (by omega);omega
theorem QW {q:Rat} {B d:Nat} (h0:0≤q) (hB:q≤(B:Rat)) (hd:0<d) (hi:IsI ((d:Rat)*q)) (h1:B*d<L1) (h2:d<L1):ShortQ q:=by
 have h3:=Nat.le_of_dvd hd (FI hd hi);have b:=(Rat.le_iff _ _).1 hB;have e3:((B:Nat):Rat).num=(B:Int):=rfl;have e4:((B:Nat):Rat).den=1:=rfl;rw[e3,e4]at b;have c:=Rat.num_nonneg.2 h0;have h4:B*q.den≤B*d:=Nat.mul_le_mul_left _ h3;have h5:((B*q.den:Nat):Int)=(B:Int)*(q.den:Int):=by push_cast;rfl
 exact⟨by omega,by omega⟩
theorem Nj:300*10^65*(6000*10^65)<L1:=by
 have e:L1=10^140:=by unfold L1;rw[DB]
 rw[e]
 have h:300*10^65*(6000*10^65)=1800000*10^130:=by
  rw[show (10:Nat)^130=10^65*10^65 by rw[←Nat.pow_add]]
 rw[h,show (10:Nat)^140=10^10*10^130 by rw[←Nat.pow_add]];exact Nat.mul_lt_mul_of_pos_right (by decide) (Nat.pow_pos (by decide))
section
variable {s:SR} {val:Nat→Rat} {D:Nat}
theorem JB (hsd:soundB s=true) (h:FitV val D) {i:Nat} (hi:i<s.cap.length):0≤D4 (Ad s.cap) val i∧D4 (Ad s.cap) val i≤((10^65:Nat):Rat)∧IsI (((6000*D:Nat):Rat)*D4 (Ad s.cap) val i)∧ShortQ (D4 (Ad s.cap) val i):=by
 have hL:=AQ hsd;have hcl:(Ad s.cap).length=s.cap.length:=by unfold Ad;rw[List.length_map]
 have hk:i<(Ad s.cap).length:=by omega
 have e:D4 (Ad s.cap) val i=(Ad s.cap)[i].2.2*val (Ad s.cap)[i].2.1:=by
  unfold D4;rw[List.getD_eq_getElem?_getD,List.getElem?_eq_getElem hk];rfl
 rw[e];have hf:=FK hL hk;have h0:=hL.pos _ (List.getElem_mem hk);have h2:=h.nn (Ad s.cap)[i].2.1;have h3:=Uc h (Ad s.cap)[i].2.1;have hw:=(hL.whole _ (List.getElem_mem hk)).mul (h.whole (Ad s.cap)[i].2.1);generalize (Ad s.cap)[i].2.2=pt at *;have hd:=h.dg (Ad s.cap)[i].2.1;generalize val (Ad s.cap)[i].2.1=v at *;refine⟨Rat.mul_nonneg (Rat.le_of_lt h0) h2,?_,?_,((SS hf).mul hd).short (by decide)⟩
 · have h5:=Rat.mul_le_mul_of_nonneg_right hf.2.1 h2;rw[Rat.one_mul]at h5;grind
 · have e2:6000*pt*((D:Rat)*v)=((6000*D:Nat):Rat)*(pt*v):=by
    rw[Rat.natCast_mul,show ((6000:Nat):Rat)=6000 from rfl];grind
   rw[e2]at hw;exact hw
theorem Nk (hsd:soundB s=true) (h:FitV val D):∀(k:Nat) (pre:List (E0 s.cap.length)),pre.length=k→0≤En (Ad s.cap) val pre∧En (Ad s.cap) val pre≤((k*10^65:Nat):Rat)∧IsI (((6000*D:Nat):Rat)*En (Ad s.cap) val pre)
 | 0,pre,hl=>by
   rw[List.length_eq_zero_iff.1 hl];refine⟨Rat.le_refl,by rw[Nat.zero_mul];exact Rat.le_refl,?_⟩
   show IsI (((6000*D:Nat):Rat)*0)
   rw[Rat.mul_zero];exact IsI.zero
 | k + 1,pre,hl=>by
   have hne:pre≠[]:=fun e=>by rw[e]at hl;cases hl
   have e:=List.dropLast_concat_getLast hne;obtain⟨a1,a2,a3⟩:=Nk hsd h k pre.dropLast (by rw[List.length_dropLast];omega);obtain⟨b1,b2,b3,_⟩:=JB hsd h (pre.getLast hne).2;rw[←e,Gm];generalize En (Ad s.cap) val pre.dropLast=x at *;generalize D4 (Ad s.cap) val (pre.getLast hne).1=y at *;refine⟨Rat.add_nonneg a1 b1,?_,?_⟩
   · rw[Nat.add_mul,Nat.one_mul,Rat.natCast_add];grind
   · rw[Rat.mul_add];exact a3.add b3
theorem Fw (hsd:soundB s=true) (hc3:s.cap.length≤300) (h:FitV val D) (pre:List (E0 s.cap.length)) (hp:pre.length≤s.cap.length):ShortQ (En (Ad s.cap) val pre):=by
 obtain⟨a1,a2,a3⟩:=Nk hsd h _ pre rfl;have hD:=h.dlt;have h1:pre.length*10^65≤300*10^65:=Nat.mul_le_mul_right _ (by omega);have h2:6000*D≤6000*10^65:=Nat.mul_le_mul_left _ (by omega);have h3:pre.length*10^65*(6000*D)<L1:=Nat.lt_of_le_of_lt (Nat.mul_le_mul h1 h2) Nj;have h4:6000*D<L1:=Nat.lt_of_le_of_lt (Nat.le_trans h2 (Nat.le_mul_of_pos_left _ (Nat.mul_pos (by decide) (Nat.pow_pos (by decide))))) Nj;exact QW a1 a2 (Nat.mul_pos (by decide) h.dp) a3 h3 h4
theorem KM (hsd:soundB s=true) (hc3:s.cap.length≤300) (h:FitV val D) (p:Nat):ShortQ (Aj p val (Ad s.cap)):=by
 have e:=Gn hsd val p s.cap.length (Nat.le_refl _);rw[List.take_of_length_le (by unfold Ad;rw[List.length_map];exact Nat.le_refl _)]at e;rw[←e];exact Fw hsd hc3 h _ (Fc _ _ _)
end
end Bd
end
section
open Go.RowKit Go.Shelf
namespace Bd
open Nt Ci Sh
theorem QX (g1 g2:Bool) (n1 d1 n2 d2:ByteArray) (c f:Int) (w:World) (hE:Env w)
 (hk:∀W,Env W→Calls Tryz.prog 57 #[.agg #[.bool g1,.string n1,.string d1],.agg #[.bool g2,.string n2,.string d2]] W fun e w'=>e=.returned (.tuple #[.int .i64 c,.int .i64 f])∧Below W.heap.size W w') :
 Calls Tryz.prog 43 #[.agg #[.bool g1,.string n1,.string d1],.agg #[.bool g2,.string n2,.string d2]] w fun e w'=>e=.returned (.bool (decide (f=0)&&decide (c≤0)))∧Below w.heap.size w w':=by
 have hB2:Hid (Below w.heap.size w ((w.alloc (.cells #[.bool g1,.string n1,.string d1] 40)).alloc (.cells #[.bool g2,.string n2,.string d2] 40))):=(((Below.refl _ w).alloc (Nat.le_refl _) _).alloc (by simp) _);have ha2:Hid (Bk ((w.alloc (.cells #[.bool g1,.string n1,.string d1] 40)).alloc (.cells #[.bool g2,.string n2,.string d2] 40)) (w.heap.size) 40 [.bool g1,.string n1,.string d1]):=by have h:=Bk.new w 40 [.bool g1,.string n1,.string d1];have h:=h.alloc (.cells #[.bool g2,.string n2,.string d2] 40); exact h
 have hb2:Hid (Bk ((w.alloc (.cells #[.bool g1,.string n1,.string d1] 40)).alloc (.cells #[.bool g2,.string n2,.string d2] 40)) (w.heap.size+1) 40 [.bool g2,.string n2,.string d2]):=by have h:=Bk.new (w.alloc (.cells #[.bool g1,.string n1,.string d1] 40)) 40 [.bool g2,.string n2,.string d2];simp only[World.size_alloc]at h;exact h
 have k1:=zh (hk ((w.alloc (.cells #[.bool g1,.string n1,.string d1] 40)).alloc (.cells #[.bool g2,.string n2,.string d2] 40)) (hE.below hB2.out));clear hk;have x0:=ha2.out.c0;have x1:=ha2.out.c1;have x2:=ha2.out.c2;have x9:=ha2.out.lt;have y0:=hb2.out.c0;have y1:=hb2.out.c1;have y2:=hb2.out.c2;have y9:=hb2.out.lt
 by_cases hf:f=0
 · subst hf;rw[show (decide ((0:Int)=0)&&decide (c≤0))=decide (c≤0) by simp]
   cases hc:decide (c≤0) with
   | true =>
     go_enter Tryz.func43,Tryz.ntmps43
     go_wp2_with fail
     refine k1.out.mono ?_;rintro e w3 ⟨rfl,hb⟩;have hB3:=zh (hB2.out.trans (hb.mono hB2.out.size));have ha3:=zh (ha2.out.below hb);have hb3:=zh (hb2.out.below hb);clear hb hB2 ha2 hb2 k1 x0 x1 x2 x9 y0 y1 y2 y9;go_wp2;go_ret;exact⟨rfl,hB3.out⟩
   | false =>
     go_enter Tryz.func43,Tryz.ntmps43
     go_wp2_with fail
     refine k1.out.mono ?_;rintro e w3 ⟨rfl,hb⟩;have hB3:=zh (hB2.out.trans (hb.mono hB2.out.size));have ha3:=zh (ha2.out.below hb);have hb3:=zh (hb2.out.below hb);clear hb hB2 ha2 hb2 k1 x0 x1 x2 x9 y0 y1 y2 y9;go_wp2;go_ret;exact⟨rfl,hB3.out⟩
 · have m1:(f==0)=false:=by rw[beq_eq_false_iff_ne];exact hf
   rw[decide_eq_false hf];replace hf:=zh hf;go_enter Tryz.func43,Tryz.ntmps43
   go_wp2_with fail
   refine k1.out.mono ?_;rintro e w3 ⟨rfl,hb⟩;have hB3:=zh (hB2.out.trans (hb.mono hB2.out.size));have ha3:=zh (ha2.out.below hb);have hb3:=zh (hb2.out.below hb);clear hb hB2 ha2 hb2 k1 x0 x1 x2 x9 y0 y1 y2 y9;go_wp2;go_ret;exact⟨rfl,hB3.out⟩
theorem BM (p q:Rat) (hp:ShortQ p) (hq:ShortQ q) (w:World) (hE:Env w) :
 Calls Tryz.prog 43 #[.agg #[.bool (rq (p)).1,.string (rq (p)).2.1,.string (rq (p)).2.2],.agg #[.bool (rq (q)).1,.string (rq (q)).2.1,.string (rq (q)).2.2]] w fun e w'=>e=.returned (.bool (decide (p≤q)))∧Below w.heap.size w w':=by
 have h:=QX _ _ _ _ _ _ _ _ w hE (fun W hW=>Fb p q hp hq W hW);rw[Nd]at h;exact h
theorem OF (g1 g2:Bool) (n1 d1 n2 d2:ByteArray) (c f:Int) (w:World) (hE:Env w)
 (hk:∀W,Env W→Calls Tryz.prog 57 #[.agg #[.bool g1,.string n1,.string d1],.agg #[.bool g2,.string n2,.string d2]] W fun e w'=>e=.returned (.tuple #[.int .i64 c,.int .i64 f])∧Below W.heap.size W w') :
 Calls Tryz.prog 21 #[.agg #[.bool g1,.string n1,.string d1],.agg #[.bool g2,.string n2,.string d2]] w fun e w'=>e=.returned (.bool (decide (f=0)&&decide (c≤0)))∧Below w.heap.size w w':=by
 have hB2:Hid (Below w.heap.size w ((w.alloc (.cells #[.bool g1,.string n1,.string d1] 40)).alloc (.cells #[.bool g2,.string n2,.string d2] 40))):=(((Below.refl _ w).alloc (Nat.le_refl _) _).alloc (by simp) _);have ha2:Hid (Bk ((w.alloc (.cells #[.bool g1,.string n1,.string d1] 40)).alloc (.cells #[.bool g2,.string n2,.string d2] 40)) (w.heap.size) 40 [.bool g1,.string n1,.string d1]):=by have h:=Bk.new w 40 [.bool g1,.string n1,.string d1];have h:=h.alloc (.cells #[.bool g2,.string n2,.string d2] 40); exact h
 have hb2:Hid (Bk ((w.alloc (.cells #[.bool g1,.string n1,.string d1] 40)).alloc (.cells #[.bool g2,.string n2,.string d2] 40)) (w.heap.size+1) 40 [.bool g2,.string n2,.string d2]):=by have h:=Bk.new (w.alloc (.cells #[.bool g1,.string n1,.string d1] 40)) 40 [.bool g2,.string n2,.string d2];simp only[World.size_alloc]at h;exact h
 have k1:=zh (hk ((w.alloc (.cells #[.bool g1,.string n1,.string d1] 40)).alloc (.cells #[.bool g2,.string n2,.string d2] 40)) (hE.below hB2.out));clear hk;have x0:=ha2.out.c0;have x1:=ha2.out.c1;have x2:=ha2.out.c2;have x9:=ha2.out.lt;have y0:=hb2.out.c0;have y1:=hb2.out.c1;have y2:=hb2.out.c2;have y9:=hb2.out.lt
 by_cases hf:f=0
 · subst hf;rw[show (decide ((0:Int)=0)&&decide (c≤0))=decide (c≤0) by simp]
   cases hc:decide (c≤0) with
   | true =>
     go_enter Tryz.func21,Tryz.ntmps21
     go_wp2_with fail
     refine k1.out.mono ?_;rintro e w3 ⟨rfl,hb⟩;have hB3:=zh (hB2.out.trans (hb.mono hB2.out.size));have ha3:=zh (ha2.out.below hb);have hb3:=zh (hb2.out.below hb);clear hb hB2 ha2 hb2 k1 x0 x1 x2 x9 y0 y1 y2 y9;go_wp2;go_ret;exact⟨rfl,hB3.out⟩
   | false =>
     go_enter Tryz.func21,Tryz.ntmps21
     go_wp2_with fail
     refine k1.out.mono ?_;rintro e w3 ⟨rfl,hb⟩;have hB3:=zh (hB2.out.trans (hb.mono hB2.out.size));have ha3:=zh (ha2.out.below hb);have hb3:=zh (hb2.out.below hb);clear hb hB2 ha2 hb2 k1 x0 x1 x2 x9 y0 y1 y2 y9;go_wp2;go_ret;exact⟨rfl,hB3.out⟩
 · have m1:(f==0)=false:=by rw[beq_eq_false_iff_ne];exact hf
   rw[decide_eq_false hf];replace hf:=zh hf;go_enter Tryz.func21,Tryz.ntmps21
   go_wp2_with fail
   refine k1.out.mono ?_;rintro e w3 ⟨rfl,hb⟩;have hB3:=zh (hB2.out.trans (hb.mono hB2.out.size));have ha3:=zh (ha2.out.below hb);have hb3:=zh (hb2.out.below hb);clear hb hB2 ha2 hb2 k1 x0 x1 x2 x9 y0 y1 y2 y9;go_wp2;go_ret;exact⟨rfl,hB3.out⟩
theorem ED (p q:Rat) (hp:ShortQ p) (hq:ShortQ q) (w:World) (hE:Env w) :
 Calls Tryz.prog 21 #[.agg #[.bool (rq (p)).1,.string (rq (p)).2.1,.string (rq (p)).2.2],.agg #[.bool (rq (q)).1,.string (rq (q)).2.1,.string (rq (q)).2.2]] w fun e w'=>e=.returned (.bool (decide (p≤q)))∧Below w.heap.size w w':=by
 have h:=OF _ _ _ _ _ _ _ _ w hE (fun W hW=>Fb p q hp hq W hW);rw[Nd]at h;exact h
end Bd
end
section
open Go.RowKit Go.Shelf
namespace Ci
def QIn (w:World) (B:Nat) (v:Value) (l:List Nat):Prop :=
 (∃A,v=.slice A 0 0∧l=[]∧∀b,v.ownBlock=some b→B≤b∧b<w.heap.size) ∨
 ∃g o cap,v=.slice (some ⟨g,o,none⟩) l.length cap∧B≤g∧g<w.heap.size∧l.length≤cap∧(∀j,j<cap→(w.cell? ⟨g,o+j,none⟩).isSome=true)∧(∀j,w.frozen? ⟨g,j,none⟩=false)∧∀j (h:j<l.length),w.cell? ⟨g,o+j,none⟩=some (.int .i64 (l[j]:Int))
section
variable {w w':World} {B:Nat} {v:Value} {l:List Nat} {q:Nat}
theorem QIn.block (h:QIn w B v l) {b:Nat} (hb:v.ownBlock=some b):B≤b∧b<w.heap.size:=by
 rcases h with⟨A,rfl,_,h⟩ | ⟨g,o,cap,rfl,h1,h2,_⟩
 · exact h b hb
 · cases hb;exact⟨h1,h2⟩
theorem QIn.grown {row:Option Nat} (h:QIn w B v l) (hg:w.grownBy w' row) (hne:v.ownBlock=none∨v.ownBlock≠row):QIn w' B v l:=by
 rcases h with⟨A,rfl,h1,h2⟩ | ⟨g,o,cap,rfl,h1,h2,h3,h4,h5,h6⟩
 · exact .inl ⟨A,rfl,h1,fun b hb=>⟨(h2 b hb).1,Nat.lt_of_lt_of_le (h2 b hb).2 hg.size⟩⟩
 · have hb:w'.heap[g]? = w.heap[g]?:=hg.block g h2 fun e=>by
    rcases hne with hne | hne
    · cases hne
    · exact hne e
   refine .inr ⟨g,o,cap,rfl,h1,Nat.lt_of_lt_of_le h2 hg.size,h3,fun j hj=>?_,fun j=>?_,fun j hj=>?_⟩
   · rw[World.cell?_of_block (a:=⟨g,o+j,none⟩) hb];exact h4 j hj
   · rw[World.frozen?_of_block (a:=⟨g,j,none⟩) hb];exact h5 j
   · rw[World.cell?_of_block (a:=⟨g,o+j,none⟩) hb];exact h6 j hj
theorem QIn.set (h:QIn w B v l) {a:Addr} (ha:v.ownBlock≠some a.block) (u:Value):QIn (w.setCell a u) B v l :=
 h.grown (row:=some a.block) ⟨rfl,rfl,rfl,by simp,fun k _ hk=>Below.heap_setCell _ _ _ _ (fun e=>hk (by rw[e]))⟩ (.inr ha)
theorem QIn.alloc (h:QIn w B v l) (o:Obj):QIn (w.alloc o) B v l :=
 h.grown (row:=none) ⟨rfl,rfl,rfl,by simp,fun k hk _=>heap_alloc_old w o hk⟩ (by cases hq:v.ownBlock<;>simp)
theorem QIn.drew (h:QIn w B v l):QIn w.drew B v l:=h
theorem QIn.head {p:Nat} (h:QIn w B v (p::l)):∃g o cap,v=.slice (some ⟨g,o,none⟩) (l.length+1) cap∧B≤g∧g<w.heap.size∧l.length+1≤cap∧w.cell? ⟨g,o,none⟩=some (.int .i64 (p:Int)) ∧
 QIn w B (.slice (some (if cap=1 then ⟨g,o,none⟩ else ⟨g,o+1,none⟩)) l.length (cap-1)) l:=by
 rcases h with⟨A,_,h1,_⟩ | ⟨g,o,cap,rfl,h1,h2,h3,h4,h5,h6⟩
 · cases h1
 · refine ⟨g,o,cap,rfl,h1,h2,h3,by have:=h6 0 (by simp);simpa using this,?_⟩;simp only[List.length_cons]at h3
   by_cases e:cap=1
   · rw[if_pos e];have hl:l=[]:=List.length_eq_zero_iff.1 (by omega);subst hl;subst e;exact .inl ⟨_,rfl,rfl,fun b hb=>by cases hb;exact⟨h1,h2⟩⟩
   · rw [if_neg e];refine .inr ⟨g,o+1,cap-1,rfl,h1,h2,by omega,fun j hj=>?_,h5,fun j hj=>?_⟩
     · have:=h4 (j+1) (by omega)
       rwa [show o+1+j=o+(j+1) by omega]
     · have:=h6 (j+1) (by simp;omega);rw[show o+1+j=o+(j+1) by omega]
       simpa using this
theorem QIn.of_row {e:TypeId} {u:Value} (h:w.ownsRow B e 1 u l.length (l.map fun(q:Nat)=>.int .i64 (q:Int))):QIn w B u l:=by
 rcases h.2 with⟨rfl,h0⟩ | ⟨g,cap,cur,rfl,hb,hg,h1,_,h3,_⟩
 · exact .inl ⟨none,rfl,List.length_eq_zero_iff.1 h0,fun b hb=>by cases hb⟩
 · have hadd:∀o,(⟨g,0,none⟩:Addr).add o=⟨g,0+o,none⟩:=fun o=>by unfold Addr.add;split<;>simp_all
   refine .inr ⟨g,0,cap,rfl,hb,(Array.getElem?_eq_some_iff.1 hg).1,h1,fun j hj=>?_,fun j=>by simp[World.frozen?,hg],fun j hj=>?_⟩
   · simp only[World.cell?,hg];have:0+j<cur.size:=by omega
     simp at this;simp[this]
   · have hc:=h.cells (g:=g) (by simp[Value.ownBlock]) j (.int .i64 (l[j]:Int)) (by simp[hj])
     rwa [hadd]at hc
theorem QIn.mono {B':Nat} (h:QIn w B v l) (hb:B'≤B):QIn w B' v l:=by
 rcases h with⟨A,rfl,h1,h2⟩ | ⟨g,o,cap,rfl,h1,h2⟩
 · exact .inl ⟨A,rfl,h1,fun b e=>⟨Nat.le_trans hb (h2 b e).1,(h2 b e).2⟩⟩
 · exact .inr ⟨g,o,cap,rfl,Nat.le_trans hb h1,h2⟩
theorem Gp {P:Program} (t ty e:TypeId) (i:TypeInfo) (z:Value) (bytes:Nat) (ht:P.underlying t=some (.slice e)) (hi:P.info? e=some i) (hz:i.zero=some z)
 (hsize:i.size=1) (hby:i.bytes=bytes) (hzs:z.cells.size=1) (h:QIn w B v l) (hB:B≤w.heap.size) (ad:Addr) (c:Nat) (had:w.cell? ad=some (.int .i64 (q:Int)))
 (hb:(l.length+1)*bytes≤140737488355328) (hm:l.length+1≤maxLen) :
 ∃v' w',(Builtin.append_ #[t,t] ty #[v,.slice (some ad) 1 c]).run P w=.ok v' w'∧QIn w' B v' (l++[q])∧w.grownBy w' v.ownBlock∧(v'.ownBlock=v.ownBlock∨v'.ownBlock=some w.heap.size):=by
 have hnews:∀j u,[(Value.int .i64 (q:Int))][j]? = some u→w.cell? (ad.add j)=some u:=fun j u hj=>by
  match j,hj with
  | 0,hj=>simp at hj;subst hj;rw[Addr.add_zero'];exact had
  | j+1,hj=>simp at hj
 have h1:∀u∈[(Value.int .i64 (q:Int))],u.oneCell'=true:=AU _ rfl;have hmap:(l++[q]).map (fun(x:Nat)=>Value.int .i64 (x:Int))=l.map (fun(x:Nat)=>Value.int .i64 (x:Int))++[.int .i64 (q:Int)]:=by simp
 have fin:∀{v':Value} {w':World},w'.ownsRow w.heap.size e 1 v' (l.length+1) (l.map (fun(x:Nat)=>Value.int .i64 (x:Int))++[.int .i64 (q:Int)])→w.grownBy w' none→(v'.ownBlock=none∨v'.ownBlock=some w.heap.size)→QIn w' B v' (l++[q])∧w.grownBy w' v.ownBlock∧(v'.ownBlock=v.ownBlock∨v'.ownBlock=some w.heap.size):=fun {v' w'} ho hg hn=>by
  refine⟨(QIn.of_row (e:=e) (by rw[hmap,List.length_append];exact ho)).mono hB,⟨hg.os,hg.tape,hg.output,hg.size,fun k hk _=>hg.block k hk (by simp)⟩,?_⟩
  rcases hn with hn | hn
  · rcases ho.2 with⟨_,h0⟩ | ⟨g,cap,cur,rfl,_⟩
    · omega
    · cases hn
  · exact .inr hn
 rcases h with⟨A,rfl,rfl,hA⟩ | ⟨g,o,cap,rfl,hg1,hg2,h3,h4,h5,h6⟩
 · cases A with
   | none =>
     obtain⟨v',w',hr,h2,h3,_⟩:=run_append_own (P:=P) w B t ty e i z 1 bytes ht hi hz hsize hby hzs (by decide) (.slice none 0 0) 0 [] (World.ownsRow_nil _ _ _ _) ad 1 c [.int .i64 (q:Int)] (by simp) hnews h1 (by simpa using hm) (by simpa using hb) hB;have h5:=B9 (P:=P) t ty e i z 1 bytes ht hi hz hsize hby (.slice none 0 0) 0 [] (World.ownsRow_nil w B _ _) ad 1 c [.int .i64 (q:Int)] (by simp) hnews h1 (by decide) (by simpa using hm) (by simpa using hb) hr;refine⟨v',w',hr,QIn.of_row (e:=e) (by simpa using h2),h3,h5⟩
   | some b =>
     obtain⟨b1,b2⟩:=hA b.block rfl;obtain⟨v',w',hr,r1,r2⟩:=run_append_arg_grows (P:=P) w t ty e i z 1 bytes ht hi hz hsize hby hzs (by decide) b 0 0 [] rfl (fun j u hj=>by simp at hj) ad 1 c [.int .i64 (q:Int)] (by simp) hnews (by decide) (by simpa using hm) (by simpa using hb);refine⟨v',w',hr,fin (by simpa using r1) r2 ?_⟩
     rcases r1.2 with⟨_,h0⟩ | ⟨g,cap,cur,rfl,hgg,hgc,_⟩
     · cases h0
     · have hr2:=run_append_grow (P:=P) w t ty e i z ht hi hz b 0 0 [] (by simp) (fun j u hj=>by simp at hj) ad 1 c [.int .i64 (q:Int)] (by rw[hsize];simp) hnews (by decide) (by decide) (growslice_fits (by decide) (by rw[hby];simpa using hb));rw[hr2]at hr;simp only[Result.ok.injEq]at hr;rw[←hr.1];exact .inr rfl
 · by_cases hroom:l.length+1≤cap
   · have hr:=run_append_room_cells (P:=P) w t ty e i ht hi g o l.length cap ad 1 c [.int .i64 (q:Int)] (by rw[hsize];simp) hnews h1 hroom
      (fun j hj=>by simp only[List.length_singleton]at hj;rw[hsize];have:=h4 (l.length+j) (by omega);rwa [show o+l.length*1+j=o+(l.length+j) by omega]) (fun j _=>h5 _)
     rw[hsize]at hr
     have hsame:∀j,j<cap→j≠l.length→(w.setCell ⟨g,o+l.length*1,none⟩ (.int .i64 (q:Int))).cell? ⟨g,o+j,none⟩=w.cell? ⟨g,o+j,none⟩:=fun j _ hne =>
      World.cell?_setCell_other _ _ _ _ (fun e=>by injection e with _ e2;omega)
     have hlast:(w.setCell ⟨g,o+l.length*1,none⟩ (.int .i64 (q:Int))).cell? ⟨g,o+l.length,none⟩=some (.int .i64 (q:Int)):=by
      have h7:=h4 l.length (by omega);obtain⟨u,hu⟩:=Option.isSome_iff_exists.1 h7;rw[Nat.mul_one];exact World.cell?_setCell_same _ _ _ hu
     refine⟨_,_,hr,.inr ⟨g,o,cap,by simp,hg1,by simpa [World.setCells] using hg2,by simpa using hroom,fun j hj=>?_,fun j=>?_,fun j hj=>?_⟩,?_,.inl rfl⟩
     · by_cases e:j=l.length
       · subst e
         show ((w.setCell _ _).cell? _).isSome=true
         rw[hlast];rfl
       · show ((w.setCell _ _).cell? _).isSome=true
         rw[hsame j hj e];exact h4 j hj
     · show (w.setCell _ _).frozen? _=false
       rw[World.frozen?_setCell];exact h5 j
     · by_cases e:j=l.length
       · subst e
         show (w.setCell _ _).cell? _=_
         rw[hlast];simp
       · have hj2:j<l.length:=by simp at hj;omega
         show (w.setCell _ _).cell? _=_
         rw[hsame j (by omega) e,h6 j hj2];simp[hj2]
     · exact⟨rfl,rfl,rfl,by simp[World.setCells],fun k _ hk=>Below.heap_setCell _ _ _ _ (fun e=>hk (by rw[e];rfl))⟩
   · have holds:∀j u,(l.map fun(x:Nat)=>Value.int .i64 (x:Int))[j]? = some u→w.cell? ((⟨g,o,none⟩:Addr).add j)=some u:=fun j u hj=>by
      obtain⟨hj2,e⟩:=List.getElem?_eq_some_iff.1 hj;rw[Addr.add_lit,h6 j (by simpa using hj2),←e];simp
     obtain⟨v',w',hr,r1,r2⟩:=run_append_arg_grows (P:=P) w t ty e i z 1 bytes ht hi hz hsize hby hzs (by decide) ⟨g,o,none⟩ l.length cap (l.map fun(x:Nat)=>Value.int .i64 (x:Int)) (by simp) holds ad 1 c [.int .i64 (q:Int)] (by simp) hnews (by omega) hm hb;refine⟨v',w',hr,fin r1 r2 ?_⟩;have hr2:=run_append_grow (P:=P) w t ty e i z ht hi hz ⟨g,o,none⟩ l.length cap (l.map fun(x:Nat)=>Value.int .i64 (x:Int)) (by rw[hsize];simp) holds ad 1 c [.int .i64 (q:Int)] (by rw[hsize];simp) hnews (by omega) (by simp only[maxLen]at hm;omega) (growslice_fits (by omega) (by rw[hby];exact hb));rw[hr2]at hr;simp only[Result.ok.injEq]at hr;rw[←hr.1];exact .inr rfl
end
theorem QIn.form {w:World} {B:Nat} {v:Value} {l:List Nat} (h:QIn w B v l):∃A c,v=.slice A l.length c:=by
 rcases h with⟨A,rfl,rfl,_⟩ | ⟨g,o,cap,rfl,_⟩
 · exact⟨A,0,rfl⟩
 · exact⟨_,_,rfl⟩
theorem EX {P:Program} (w:World) {ops:Array Oper} {rest:List Oper} {o:Oper} {a:Act} {Q:Exit→Act→World→Prop} (hgd:o.guard=none) (s x:Operand) (t:TypeId)
 (ho:o.op=.call { callee:=.builtin .append,args:=#[s,x],argTypes:=#[t,t] })
 (B:Nat) (e:TypeId) (i:TypeInfo) (z:Value) (bytes:Nat) (ht:P.underlying t=some (.slice e)) (hi:P.info? e=some i) (hz:i.zero=some z)
 (hsize:i.size=1) (hby:i.bytes=bytes) (hzs:z.cells.size=1)
 (v:Value) (l:List Nat) (q:Nat) (hs:a.eval s=v) (h:QIn w B v l) (hB:B≤w.heap.size) (ad:Addr) (c:Nat) (hx:a.eval x=.slice (some ad) 1 c) (had:w.cell? ad=some (.int .i64 (q:Int)))
 (hb:(l.length+1)*bytes≤140737488355328) (hm:l.length+1≤maxLen)
 (hK:∀v' w',QIn w' B v' (l++[q])→w.grownBy w' v.ownBlock→(v'.ownBlock=v.ownBlock∨v'.ownBlock=some w.heap.size)→wpList P ops Q rest (a.put o.dst v') w'):wpList P ops Q (o::rest) a w :=
 wpList_plain hgd fun _ hK2=>by
  obtain⟨v',w',hr,h2,h3,h4⟩:=Gp (P:=P) t o.type e i z bytes ht hi hz hsize hby hzs h hB ad c had hb hm;unfold Oper.wp execOp;simp only[ho,resolve,invoke,builtin,Sem.run_bind,Sem.run_pure,Result.andThen_ok,List.map_toArray,List.map_cons,List.map_nil,hs,hx,hr];exact hK2 _ _ (hK v' w' h2 h3 h4)
end Ci
end
section
open Go.RowKit Go.Shelf
namespace Ci
open Nt
def BN (n m:Nat):List Value:=List.replicate m (.int .i64 (-1))++List.replicate (n-m) (.int .i64 0)
theorem Mo (n:Nat):BN n 0=List.replicate n (.int .i64 0):=by simp[BN]
theorem OG (n:Nat):BN n n=List.replicate n (.int .i64 (-1)):=by simp[BN]
theorem IR {n m:Nat} (h:m≤n):(BN n m).length=n:=by simp[BN];omega
theorem QY {n m j:Nat} (h:j<m):(BN n m)[j]? = some (.int .i64 (-1)):=by
 unfold BN;rw[List.getElem?_append_left (by simpa using h),List.getElem?_replicate,if_pos h]
theorem FM {n m c:Nat} (h:m+c≤n):splice (BN n m) m (List.replicate c (.int .i64 (-1)))=BN n (m+c):=by
 unfold splice BN;rw[List.take_left' (by simp),List.length_replicate,List.drop_append,List.drop_eq_nil_of_le (by simp),List.nil_append,List.length_replicate,List.drop_replicate,←List.append_assoc,List.replicate_append_replicate,show n-m-(m+c-m)=n-(m+c) by omega]
theorem Mp (n:Nat):madeCells #[(.int .i64 0:Value)] n=(BN n 0).toArray:=by
 rw[Mo];unfold madeCells;apply Array.ext
 · simp
 · intro i h1 h2;simp;rw[Nat.mod_one];rfl
theorem Ia:(Tryz.prog.info? 3).map (fun i=>(i.zero,i.size,i.bytes))=some (some (.int .i64 0),1,8):=by kernel_rfl
theorem QZ:(Tryz.prog.info? 3).map (·.size)=some 1:=by kernel_rfl
theorem Mq (n b:Nat) (w:World) (hn:n≤1000) (hb:w.cell? ⟨b,0,none⟩=some (.int .i64 (-1))) (hbl:b<w.heap.size) :
 Calls Tryz.prog 80 #[.slice (some ⟨b,0,none⟩) 1 1,.int .i64 (n:Int)] w fun e w'=>(e=.returned (.slice (some ⟨w.heap.size,0,none⟩) n n)∧w'.heap[w.heap.size]? = some (.cells (List.replicate n (.int .i64 (-1))).toArray 3 (0,0)))∧Below w.heap.size w w':=by
 have kb:Hid (∀W,Calls Tryz.prog 128 #[.int .u64 1,.int .u64 (n:Int)] W fun e w'=>e=.returned (.tuple #[.int .u64 0,.int .u64 (n:Int)])∧w'=W):=fun W=>by
  have h:=Tryz.bits_Mul 1 n (by decide) (by omega) W;have h1:(1*n/18446744073709551616:Nat)=0:=by omega
  have h2:(1*n%18446744073709551616:Nat)=n:=by omega
  rw[h1,h2]at h;exact h
 have hmk:=run_make_row' (P:=Tryz.prog) 26 3 (.int .i64 0) 8 Tryz.underlying26 Ia rfl .i64 .i64 n (by omega) (by omega)
 have hg0:Hid ((w.alloc (.cells (madeCells #[(.int .i64 0:Value)] n) 3)).heap[w.heap.size]? = some (.cells (BN n 0).toArray 3 (0,0))):=by
  have h:=heap_alloc_new w (.cells (madeCells #[(.int .i64 0:Value)] n) 3);unfold Hid;rw[h,Mp]
 have hB0:Hid (Below w.heap.size w (w.alloc (.cells (madeCells #[(.int .i64 0:Value)] n) 3))):=(Below.refl _ w).alloc (Nat.le_refl _) _;have hb2:Hid ((w.alloc (.cells (madeCells #[(.int .i64 0:Value)] n) 3)).cell? ⟨b,0,none⟩=some (.int .i64 (-1))):=(hB0.out.cell (p:=⟨b,0,none⟩) hbl).trans hb;have hmin:Hid ((List.replicate (min 1 n) (Value.int .i64 (-1))).length=min 1 n):=List.length_replicate;have hone:Hid (∀c,∀v∈List.replicate c (Value.int .i64 (-1)),v.oneCell'=true):=fun c v hv=>by rw[(List.mem_replicate.1 hv).2];rfl
 have hmix0:Hid (0+(List.replicate (min 1 n) (Value.int .i64 (-1))).length≤(BN n 0).length):=by
  unfold Hid;rw[IR (Nat.zero_le _),List.length_replicate];omega
 have hpos:Hid (∀j v,(List.replicate (min 1 n) (Value.int .i64 (-1)))[j]? = some v→(w.alloc (.cells (madeCells #[(.int .i64 0:Value)] n) 3)).cell? (Addr.add ⟨b,0,none⟩ j)=some v):=fun j v hj=>by
  rw[List.getElem?_replicate]at hj
  split at hj
  · have h0:j=0:=by omega
    subst h0;rw[Addr.add_zero',←Option.some.inj hj];exact hb2.out
  · cases hj
 have hst:Hid (goInt (List.replicate (min 1 n) (Value.int .i64 (-1))).length=.int .i64 ((min 1 n:Nat):Int)):=by
  unfold Hid goInt;rw[List.length_replicate]
 have hsp0:Hid (splice (BN n 0) 0 (List.replicate (min 1 n) (Value.int .i64 (-1)))=BN n (min 1 n)):=by
  have:=FM (n:=n) (m:=0) (c:=min 1 n) (by omega)
  rwa [Nat.zero_add]at this
 clear hb;go_enter Tryz.func80,Tryz.ntmps80
 go_wp2_with fail
 refine(kb.out _).mono ?_;rintro e w2 ⟨rfl,rfl⟩
 go_wp2_with (refine wpList_copy_splice rfl _ _ _ _ rfl 3 Tryz.underlying26 QZ _ _ _ _ _ _ rfl rfl w2.heap.size 0 (BN n 0) 3 hg0.out (List.replicate (min 1 n) (.int .i64 (-1))) hmin.out (fun _=>⟨rfl,_,rfl,hpos.out⟩) hmix0.out (hone.out _) w2.heap.size w2 hB0.out (Nat.le_refl _) ?_;intro w3 hg3 hb3;rw[hsp0.out]at hg3;rw[hst.out];replace hb3:=zh hb3)
 clear hmk hg0 hB0 hb2 hmin hmix0 hpos hst hsp0
 go_loopw [8] (fun m wr=>∃k:Nat,m=.int .i64 (k:Int)∧k≤n∧(0<n→0<k)∧Hid (wr.heap[w2.heap.size]? = some (.cells (BN n k).toArray 3 (0,0)))∧Hid (Below w2.heap.size w2 wr)) (fun m _=>n-(intOf m).toNat)
 case atStart=>exact⟨min 1 n,rfl,by omega,by omega,hg3,hb3⟩
 case round =>
  obtain⟨k,rfl,hk,hk0,hg,hB⟩:=hrel;clear hg3 hb3
  by_cases hlt:k<n
  · have hnk:n≠k:=by omega
    have hk1:0<k:=hk0 (by omega);have hmin:Hid ((List.replicate (min k (n-k)) (Value.int .i64 (-1))).length=min k (n-k)):=List.length_replicate
    have hfit:Hid (k+(List.replicate (min k (n-k)) (Value.int .i64 (-1))).length≤(BN n k).length):=by
     unfold Hid;rw[IR (by omega),List.length_replicate];omega
    have hpos:Hid (∀j v,(List.replicate (min k (n-k)) (Value.int .i64 (-1)))[j]? = some v→wr.cell? (Addr.add ⟨w2.heap.size,0,none⟩ j)=some v):=fun j v hj=>by
     rw[List.getElem?_replicate]at hj
     split at hj
     · rename_i hj2;rw[Addr.add_lit,←Option.some.inj hj,Nat.zero_add];have h1:(BN n k)[j]? = some (.int .i64 (-1)):=QY (by omega);have h2:=hg.out;simp[World.cell?,h2,h1]
     · cases hj
    have hst:Hid (goInt (List.replicate (min k (n-k)) (Value.int .i64 (-1))).length=.int .i64 ((min k (n-k):Nat):Int)):=by
     unfold Hid goInt;rw[List.length_replicate]
    have hsp:Hid (splice (BN n k) k (List.replicate (min k (n-k)) (Value.int .i64 (-1)))=BN n (k+min k (n-k))):=FM (by omega);go_wp2
    go_region_law (refine step_copy_splice rfl (.tmp 41) (.tmp 44) 26 26 rfl 3 Tryz.underlying26 QZ (some ⟨w2.heap.size,k,none⟩) (some ⟨w2.heap.size,0,none⟩) (n-k) (n-k) k n (by simp[Act.eval,Act.put]) (by simp[Act.eval,Act.put]) w2.heap.size k (BN n k) 3 hg.out (List.replicate (min k (n-k)) (.int .i64 (-1))) hmin.out (fun _=>⟨rfl,_,rfl,hpos.out⟩) hfit.out (hone.out _) w2.heap.size w2 hB.out.drew (Nat.le_refl _) ?_;intro w4 hg4 hb4;rw[hsp.out]at hg4;rw[hst.out];replace hb4:=zh hb4)
    clear hmin hfit hpos hst hsp hg hB
    have hwr:IntKind.i64.wrap ((k:Int)+((min k (n-k):Nat):Int))=((k+min k (n-k):Nat):Int):=by
     rw[IntKind.wrap_i64];omega
    simp only[hwr];dsimp only[Act.put,List.getElem_toArray,List.getElem_cons_succ,List.getElem_cons_zero];simp only[List.setIfInBounds_toArray,List.set_cons_succ,List.set_cons_zero];go_wp2
    go_roundw
    case rel=>exact⟨k+min k (n-k),by go_num,by omega,by omega,hg4,hb4⟩
    case measure=>simp only[intOf];omega
  · obtain rfl:k=n:=by omega
    have hG:Hid (wr.heap[w2.heap.size]? = some (.cells (List.replicate k (.int .i64 (-1))).toArray 3 (0,0))):=by
     have h:=hg.out
     rwa [OG]at h
    go_wp2;go_ret;exact⟨⟨rfl,hG.out⟩,hB.out⟩
end Ci
end
section
open Go.RowKit Go.Shelf
namespace Ci
open Nt
theorem ST {a b:List Int} {k:Nat} (h1:k<a.length) (h2:k<b.length) (h:a[k]≠b[k]):decide (a=b)=false:=decide_eq_false fun e=>h (by simp only[e])
theorem SU {a b:List Int} (hl:a.length=b.length) (h:∀k (h1:k<a.length) (h2:k<b.length),a[k]=b[k]):decide (a=b)=true:=decide_eq_true (List.ext_getElem hl h)
theorem Rc (A B:Option Addr) (ca cb:Nat) (a b:List Int) (w:World) (hA:InInt w A a) (hB:InInt w B b) (ha:a.length≤140737488355328) :
 Calls Tryz.prog 37 #[.slice A a.length ca,.slice B b.length cb] w fun e w'=>e=.returned (.bool (decide (a=b)))∧∃q,w'=w.drewN q:=by
 by_cases hl:a.length=b.length
 · have hN:=zh (fun(k:Nat) (h1:k<a.length) (h2:k<b.length)=>ST (a:=a) (b:=b) h1 h2);have hY:=zh (SU (a:=a) (b:=b) hl);rw[←hl];have m1:((a.length:Int) != (a.length:Int))=false:=by simp
   replace hl:=zh hl;replace hA:=zh hA;replace hB:=zh hB;go_enter Tryz.func37,Tryz.ntmps37;go_wp2
   go_loopw [5] (fun i wr=>∃k q:Nat,k≤a.length∧i=.int .i64 (k:Int)∧wr=w.drewN q∧Hid (∀j (h1:j<a.length) (h2:j<b.length),j<k→a[j]=b[j])) (fun i _=>a.length-(intOf i).toNat)
   case atStart=>exact⟨0,0,Nat.zero_le _,rfl,rfl,fun j _ _ h=>absurd h (Nat.not_lt_zero _)⟩
   case round =>
    obtain⟨k,q,hk,rfl,rfl,hI⟩:=hrel
    by_cases hlt:k<a.length
    · have hlb:k<b.length:=by rw[←hl.out];exact hlt
      obtain⟨b1,o1,rfl,hb1,hc1⟩:=hA.out (by omega);obtain⟨b2,o2,rfl,hb2,hc2⟩:=hB.out (by omega);have e1:(w.drewN q).cell? ⟨b1,o1+k,none⟩=some (.int .i64 a[k]):=hc1 k hlt;have e2:(w.drewN q).cell? ⟨b2,o2+k,none⟩=some (.int .i64 b[k]):=hc2 k hlb;have hNk:=zh (hN.out k hlt hlb)
      have hIk:Hid (a[k]=b[k]→∀j (h1:j<a.length) (h2:j<b.length),j<k+1→a[j]=b[j]):=fun h j h1 h2 h3=>by
       by_cases e:j=k
       · subst e;exact h
       · exact hI.out j h1 h2 (by omega)
      obtain⟨x,hx⟩:∃x,x=a[k]:=⟨_,rfl⟩;obtain⟨y,hy⟩:∃y,y=b[k]:=⟨_,rfl⟩;rw[←hx]at e1 hNk hIk;rw[←hy]at e2 hNk hIk;have j0:(0:Int)≤(k:Int):=by omega
      have j1:(k:Int)<(a.length:Int):=by omega
      clear hc1 hc2 hI hx hy;generalize hwq:w.drewN q=wq at *;replace hwq:=zh hwq
      by_cases hxy:x=y
      · have m2:(x != y)=false:=by rw[bne_eq_false_iff_eq];exact hxy
        have hI2:=zh (hIk.out hxy);replace hxy:=zh hxy
        go_wp2_with fail
        go_quiet (fail)
        go_wp2;refine⟨⟨k+1,q+nq,by omega,by go_num,by rw[←hwq.out,World.drewN_drewN],hI2⟩,by simp only[intOf];omega⟩
      · have m2:(x != y)=true:=by rw[bne_iff_ne];exact hxy
        have hG:=zh (hNk.out hxy);replace hxy:=zh hxy
        go_wp2_with fail
        go_quiet (fail)
        go_wp2;go_ret;exact⟨Ai hG.out.symm,q+nq,by rw[←hwq.out,World.drewN_drewN]⟩
    · obtain rfl:k=a.length:=by omega
      have hG:=zh (hY.out fun j h1 h2=>hI.out j h1 h2 h1);generalize hwq:w.drewN q=wq at *;replace hwq:=zh hwq;go_wp2;go_ret;exact⟨Ai hG.out.symm,q,hwq.out.symm⟩
 · have hG:Hid (decide (a=b)=false):=decide_eq_false fun e=>hl (by rw[e]);have h1:((a.length:Int)==(b.length:Int))=false:=by rw[beq_eq_false_iff_ne];omega
   have h2:((a.length:Int) != (b.length:Int))=true:=by rw[bne_iff_ne];omega
   have h3:(a.length==b.length)=false:=by rw[beq_eq_false_iff_ne];exact hl
   clear hA hB;go_enter Tryz.func37,Tryz.ntmps37;go_wp2;go_ret;exact⟨Ai hG.out.symm,0,rfl⟩
end Ci
end
section
open Go.RowKit Go.Shelf
namespace Ci
open Nt
def Dn (n:Int) (l:List Int) (k:Nat) (h:k<l.length):Prop:=(0≤l[k]∧l[k]<n)∧(0<k→l[k-1]'(by omega)<l[k])
instance (n:Int) (l:List Int) (k:Nat) (h:k<l.length):Decidable (Dn n l k h):=inferInstanceAs (Decidable (_∧_))
def listB (n:Int) (l:List Int):Bool:=decide (∀k (h:k<l.length),Dn n l k h)
theorem KN {n:Int} {l:List Int} {k:Nat} (h:k<l.length) (hb:¬Dn n l k h):listB n l=false:=decide_eq_false fun hc=>hb (hc k h)
theorem KO {n:Int} {l:List Int} (h:∀k (h:k<l.length),Dn n l k h):listB n l=true:=decide_eq_true h
end Ci
end
section
open Go.RowKit Go.Shelf
namespace Ci
open Nt
def toN (F:List Int):List Nat:=F.map Int.toNat
def Mr (s:SR) (F:List Int) (w:World) (e:Ending) (w':World):Prop :=
 (if soundB s=true∧listB s.ps.length F=true then ∃b,e=.returned (.tuple #[.slice (some ⟨b,0,none⟩) s.ps.length s.ps.length,.int .i64 0])∧w.heap.size≤b∧RoI w' b s.ps.length (rk (edges s) (toN F))
   else e=.returned (.tuple #[.slice none 0 0,.int .i64 1]))∧Below w.heap.size w w'
theorem Do {n:Int} {l:List Int} (h:listB n l=true) {k:Nat} (hk:k<l.length):Dn n l k hk:=of_decide_eq_true h k hk
theorem Rd {n:Int} {F:List Int} (h:listB n F=true) {k:Nat} (hk:k<F.length):∃p:Nat,F[k]=(p:Int)∧(p:Int)<n∧(toN F)[k]? = some p:=by
 have h1:=(Do h hk).1;refine⟨F[k].toNat,by omega,by omega,by simp[toN,hk]⟩
theorem Ms {n:Nat} {F:List Int} (h:listB n F=true) {p:Nat} (hp:p∈toN F):p<n:=by
 obtain⟨x,hx,rfl⟩:=List.mem_map.1 hp;obtain⟨k,hk,rfl⟩:=List.getElem_of_mem hx;have:=(Do h hk).1;omega
theorem Mt {n:Nat} {F:List Int} (h:listB n F=true):(toN F).Pairwise (·<·):=by
 have hs:∀(i j:Nat) (hi:i<F.length) (hj:j<F.length),i<j→F[i]<F[j]:=by
  intro i j hi hj hij
  induction j with
  | zero=>omega
  | succ j ih =>
    have h1:=(Do h hj).2 (by omega);simp only[Nat.add_sub_cancel]at h1
    by_cases e:i=j
    · subst e;exact h1
    · have:=ih (by omega) (by omega);omega
 unfold toN;rw[List.pairwise_map];refine List.pairwise_iff_getElem.2 fun i j hi hj hij=>?_;have:=hs i j hi hj hij;have:=(Do h hi).1;have:=(Do h hj).1;omega
theorem IS {n:Nat} {F:List Int} (h:listB n F=true):(toN F).Nodup:=(Mt h).imp fun h=>Nat.ne_of_lt h
theorem Re {W:World} {base:Nat} {e:TypeId} {u:Value} {l:List Nat} (h:W.ownsRow base e 1 u l.length (BK l)) :
 ∃A cap,u=.slice A l.length cap∧∀j (hj:j<l.length),∃g,A=some ⟨g,0,none⟩∧g<W.heap.size∧W.cell? ⟨g,j,none⟩=some (.int .i64 (l[j]:Int)):=by
 rcases DU h with⟨rfl,rfl⟩ | ⟨g,cap,rfl,_,h1,_,h2⟩
 · exact⟨none,0,rfl,fun j hj=>absurd hj (Nat.not_lt_zero _)⟩
 · exact⟨_,cap,rfl,fun j hj=>⟨g,rfl,h1,h2 j hj⟩⟩
theorem OH (A:Option Addr) (c:Nat) (F:List Int) (w:World) (hF:InInt w A F) (h0:∀x,x∈F→0≤x) (hl:F.length≤1000) :
 Calls Tryz.prog 82 #[.slice A F.length c] w fun e w'=>(∃v,e=.returned v∧QIn w' w.heap.size v (toN F))∧Below w.heap.size w w':=by
 by_cases h:0<F.length
 · obtain ⟨b,o,rfl,hb,hc⟩:=hF h
   have hz:∀j,j<F.length→w.cell? ⟨b,o+j,none⟩=some (.int .i64 (F.getD j 0)):=fun j hj=>by
    rw[hc j hj];simp[hj]
   refine(Tryz.slices_Clone_int b o F.length c F w (Nat.le_refl _) (by omega) hz).mono ?_;rintro e w' ⟨v,rfl,ho,_,hbw⟩;refine⟨⟨v,rfl,QIn.of_row (e:=3) ?_⟩,hbw⟩;have e1:(toN F).length=F.length:=by simp[toN]
   have e2:((toN F).map fun(q:Nat)=>Value.int .i64 (q:Int))=F.map (Value.int .i64):=by
    unfold toN;rw[List.map_map];refine List.map_congr_left fun x hx=>?_;have:=h0 x hx;simp only[Function.comp_apply]
    congr 1
    omega
   rw[e1,e2]
   simpa using ho
 · have h1:F=[]:=List.length_eq_zero_iff.1 (by omega);subst h1
   cases A with
   | none =>
     refine(Tryz.slices_Clone_int_nil 0 c w).mono ?_;rintro e w' ⟨rfl,rfl⟩;exact⟨⟨_,rfl,.inl ⟨none,rfl,rfl,fun b hb=>by cases hb⟩⟩,Below.refl _ _⟩
   | some a =>
     refine(Tryz.slices_Clone_int_zero a c w).mono ?_;rintro e w' ⟨v,rfl,ho,_,hb⟩;exact⟨⟨v,rfl,QIn.of_row (e:=3) (by simpa [toN] using ho)⟩,hb⟩
theorem MZ (w:World) (v:Value) (t:TypeId):(w.alloc (.cells #[v] t)).cell? ⟨w.heap.size,0,none⟩=some v:=by
 have:=Cf w v t 0 v rfl
 rwa [Addr.add_zero']at this
theorem SV {n p:Nat} {o:Nat→Int} (hp:p<n) (h:0≤o p):Fi n o+1≤n:=by
 have h1:=EH (f:=fun x=>decide (o x<0)) (g:=fun _=>true) (l:=List.range n) (fun _ _ _=>rfl) ⟨p,List.mem_range.2 hp,decide_eq_false (by omega),rfl⟩
 have h2:(List.filter (fun _=>true) (List.range n)).length=n:=by
  rw[List.filter_eq_self.2 fun _ _=>rfl,List.length_range]
 rw[h2]at h1;exact h1
theorem SW (n:Nat) (o:Nat→Int):Fi n o≤n:=by
 have:=List.length_filter_le (fun x=>decide (o x<0)) (List.range n);rw[List.length_range]at this;exact this
def Bd (n:Nat) (o:Nat→Int):Prop:=∀x,x<n→o x+(Fi n o:Int)<n
theorem Bd.start {n:Nat} {F:List Nat} {o:Nat→Int} (h:∀x,o x=if x∈F then 0 else -1):Bd n o:=fun x hx=>by
 by_cases e:x∈F
 · have h1:o x=0:=by rw[h x,if_pos e]
   have:=SV hx (by omega:0≤o x);omega
 · have h1:o x=-1:=by rw[h x,if_neg e]
   have:=SW n o;omega
theorem Bd.set {n p q:Nat} {o:Nat→Int} (h:Bd n o) (hp:p<n) (hq:q<n) (h0:o q<0) (hv:0≤o p):Bd n (Fh o q (o p+1)):=fun x hx=>by
 have h1:=JS hq h0 (v:=o p+1) (by omega);have h2:=h p hp;have h3:=h x hx
 by_cases e:x=q
 · rw[e,AT];omega
 · rw[AA e];omega
def ini (F:List Nat) (k:Nat) (x:Nat):Int:=if x∈F.take k then 0 else -1
theorem Rf {F:List Nat} {k p:Nat} (h:F[k]? = some p) (x:Nat):Fh (ini F k) p 0 x=ini F (k+1) x:=by
 unfold Fh ini;obtain⟨hk,rfl⟩:=List.getElem?_eq_some_iff.1 h
 have hm:x∈F.take (k+1)↔x∈F.take k∨x=F[k]:=by
  rw[List.take_succ_eq_append_getElem hk,List.mem_append,List.mem_singleton]
 by_cases e:x=F[k]
 · rw[if_pos e,if_pos (hm.2 (.inr e))]
 · rw[if_neg e]
   by_cases e2:x∈F.take k
   · rw[if_pos e2,if_pos (hm.2 (.inl e2))]
   · rw[if_neg e2,if_neg fun c=>(hm.1 c).elim e2 e]
theorem SX (F:List Nat) (x:Nat):ini F F.length x=if x∈F then 0 else -1:=by unfold ini;rw[List.take_length]
theorem DX (s:SR) (Ap Ac Av Af:Option Addr) (cp cc cv cf:Nat) (F:List Int) (w:World) (hE:Env w) (hs:StIn w s Ap Ac Av) (hc3:s.cap.length≤300) (hF:InInt w Af F) (hFl:F.length≤140737488355328) :
 Calls Tryz.prog 35 #[.agg #[.slice Ap s.ps.length cp,.slice Ac s.cap.length cc,.slice Av s.vot.length cv],.slice Af F.length cf] w (Mr s F w):=by
 have hp47:=hs.np;have hNB:=zh (fun(k:Nat) (h:k<F.length) (hb:¬Dn s.ps.length F k h)=>KN h hb);have hNA:=zh (KO (n:=(s.ps.length:Int)) (l:=F));have hX0:Hid (Bk (w.alloc (.cells #[.slice Ap s.ps.length cp,.slice Ac s.cap.length cc,.slice Av s.vot.length cv] 25)) w.heap.size 25 (SC s Ap Ac Av cp cc cv)):=Bk.new w _ _;have hB0:Hid (Below w.heap.size w (w.alloc (.cells #[.slice Ap s.ps.length cp,.slice Ac s.cap.length cc,.slice Av s.vot.length cv] 25))):=(Below.refl _ w).alloc (Nat.le_refl _) _;have hBad:Hid (∀e w',(¬(soundB s=true∧listB s.ps.length F=true))→e=.returned (.tuple #[.slice none 0 0,.int .i64 1])→Below w.heap.size w w'→Mr s F w e w'):=fun e w' h1 h2 h3=>⟨by rw[if_neg h1];exact h2,h3⟩;have u0:=hX0.out.c0;have u9:=hX0.out.lt;replace hE:=zh hE;replace hs:=zh hs;replace hF:=zh hF;go_enter Tryz.func35,Tryz.ntmps35;go_wp2;obtain⟨wa,hwa⟩:∃x,x=w.alloc (.cells #[.slice Ap s.ps.length cp,.slice Ac s.cap.length cc,.slice Av s.vot.length cv] 25):=⟨_,rfl⟩;rw[←hwa]at hX0 hB0 ⊢;clear u0 u9 hwa
 go_loop [22] (fun i=>∃k:Nat,k≤F.length∧i=.int .i64 (k:Int)∧Hid (∀j (h:j<F.length),j<k→Dn s.ps.length F j h)) (fun i=>F.length-(intOf i).toNat)
 case atStart=>exact⟨0,Nat.zero_le _,rfl,fun j _ h=>absurd h (Nat.not_lt_zero _)⟩
 case round =>
  obtain⟨k,hk,rfl,hI⟩:=hrel
  by_cases hlt:k<F.length
  · obtain ⟨b1,o1,rfl,hb1,hc1⟩:=(hF.out.below hB0.out) (by omega);have e1:=hc1 k hlt;have e0:Hid (0<k→wa.cell? ⟨b1,o1+(k-1),none⟩=some (.int .i64 (F[k-1]'(by omega)))):=fun h=>hc1 (k-1) (by omega);have hNk:=zh (hNB.out k hlt)
    have hIk:Hid (Dn s.ps.length F k hlt→∀j (h:j<F.length),j<k+1→Dn s.ps.length F j h):=fun h j h1 h3=>by
     by_cases e:j=k
     · subst e;exact h
     · exact hI.out j h1 (by omega)
    have hLA:Hid (Dn s.ps.length F k hlt↔(0≤F[k]∧F[k]<s.ps.length)∧(0<k→F[k-1]'(by omega)<F[k])):=Iff.rfl;obtain⟨x,hx⟩:∃x,x=F[k]:=⟨_,rfl⟩;rw[←hx]at e1 hLA;have j0:(0:Int)≤(k:Int):=by omega
    have j1:(k:Int)<(F.length:Int):=by omega
    clear hc1 hI hx;have hcl:x<0∨(0≤x∧(s.ps.length:Int)≤x)∨(0≤x∧x<s.ps.length):=by omega
    rcases hcl with h1 | ⟨h1,h2⟩ | ⟨h1,h2⟩
    · have hG:=zh (hNk.out fun h=>by have:=(hLA.out.1 h).1.1;omega);have m1:decide (x<0)=true:=decide_eq_true h1;go_wp2;go_ret2;exact hBad.out _ _ (fun h=>by rw[hG.out]at h;cases h.2) rfl hB0.out
    · have hG:=zh (hNk.out fun h=>by have:=(hLA.out.1 h).1.2;omega);have m1:decide (x<0)=false:=decide_eq_false (by omega);have m2:decide ((s.ps.length:Int)≤x)=true:=decide_eq_true h2;go_wp2;go_ret2;exact hBad.out _ _ (fun h=>by rw[hG.out]at h;cases h.2) rfl hB0.out
    · have m1:decide (x<0)=false:=decide_eq_false (by omega);have m2:decide ((s.ps.length:Int)≤x)=false:=decide_eq_false (by omega)
      by_cases hk0:k=0
      · have m3:decide (0<(k:Int))=false:=decide_eq_false (by omega);have m4:decide (0<k)=false:=decide_eq_false (by omega);have hI2:=zh (hIk.out (hLA.out.2 ⟨⟨h1,h2⟩,fun h=>by omega⟩));replace hk0:=zh hk0;go_wp2;go_round
        case rel=>exact⟨k+1,by omega,by go_num,hI2⟩
        case measure=>simp[intOf];omega
      · have m3:decide (0<(k:Int))=true:=decide_eq_true (by omega);have m4:decide (0<k)=true:=decide_eq_true (by omega);have e2:=e0.out (by omega);obtain⟨y,hy⟩:∃y,y=F[k-1]'(by omega):=⟨_,rfl⟩;rw[←hy]at e2;have j2:(0:Int)≤(k:Int)-1:=by omega
        have j3:(k:Int)-1<(F.length:Int):=by omega
        have j4:IntKind.i64.wrap ((k:Int)-1)=(k:Int)-1:=IntWalk.i64_in _ (by omega);have j5:((k:Int)-1).toNat=k-1:=by omega
        by_cases hxy:y<x
        · have m5:decide (x≤y)=false:=decide_eq_false (by omega);have hI2:=zh (hIk.out (hLA.out.2 ⟨⟨h1,h2⟩,fun _=>by rw[←hy];exact hxy⟩));replace hy:=zh hy;go_wp2;go_round
          case rel=>exact⟨k+1,by omega,by go_num,hI2⟩
          case measure=>simp[intOf];omega
        · have m5:decide (x≤y)=true:=decide_eq_true (by omega);have hG:=zh (hNk.out fun h=>by have h3:=(hLA.out.1 h).2 (by omega);rw[←hy]at h3;omega);replace hy:=zh hy;go_wp2;go_ret2;exact hBad.out _ _ (fun h=>by rw[hG.out]at h;cases h.2) rfl hB0.out
  · obtain rfl : k = F.length:=by omega
    have hL:=zh (hNA.out fun j h=>hI.out j h h);clear hNB hNA hI;have u0:=hX0.out.c0;have u1:=hX0.out.c1;have u2:=hX0.out.c2;have u9:=hX0.out.lt;have ks:=CW s Ap Ac Av cp cc cv wa (hE.out.below hB0.out) (hs.out.below hB0.out)
    cases hsd:soundB s with
    | false =>
      rw[hsd]at ks;replace ks:=zh ks;replace hsd:=zh hsd
      go_wp2_with fail
      refine ks.out.mono ?_;rintro e w2 ⟨rfl,hb⟩;have hB2:=zh (hB0.out.trans (hb.mono hB0.out.size));clear hb;go_wp2;go_ret2;exact hBad.out _ _ (fun h=>by rw[hsd.out]at h;cases h.1) rfl hB2.out
    | true =>
      rw[hsd]at ks;replace ks:=zh ks
      have hn60:s.ps.length≤60:=by
       unfold soundB at hsd;simp only[Bool.and_eq_true,decide_eq_true_eq]at hsd;exact hsd.2.1
      have hin:Hid (∀x,x∈s.cap→(0≤x.1∧x.1<s.ps.length)∧(0≤x.2.1∧x.2.1<s.ps.length)):=fun x hx=>by
       unfold soundB at hsd;simp only[Bool.and_eq_true]at hsd;obtain⟨i,hi,rfl⟩:=List.getElem_of_mem hx;exact⟨(C4 hsd.2.2.1 hi).1.1,(C4 hsd.2.2.1 hi).1.2.1⟩
      have hin2:=zh (Hk hsd);have hGood:Hid (∀e w' b,e=.returned (.tuple #[.slice (some ⟨b,0,none⟩) s.ps.length s.ps.length,.int .i64 0])→w.heap.size≤b→RoI w' b s.ps.length (rk (edges s) (toN F))→Below w.heap.size w w'→Mr s F w e w'):=fun e w' b h1 h2 h3 h4=>⟨by rw[if_pos ⟨hsd,hL.out⟩];exact⟨b,h1,h2,h3⟩,h4⟩;replace hsd:=zh hsd;clear hBad
      go_wp2_with fail
      refine ks.out.mono ?_;rintro e w2 ⟨rfl,hb⟩;have hB2:=zh (hB0.out.trans (hb.mono hB0.out.size));have hX2:=zh (hX0.out.below hb);clear hb ks u0 u1 u2 u9 hB0 hX0;have kr:=zh (Mq s.ps.length w2.heap.size (w2.alloc (.cells #[.int .i64 (-1)] 3)) (by omega) (MZ w2 _ _) (by simp));have hB2a:Hid (Below w.heap.size w (w2.alloc (.cells #[.int .i64 (-1)] 3))):=hB2.out.alloc hB2.out.size _;have hX2a:=zh (hX2.out.alloc (.cells #[.int .i64 (-1)] 3));obtain⟨b0,hb0⟩:∃b,b=(w2.alloc (.cells #[.int .i64 (-1)] 3)).heap.size:=⟨_,rfl⟩;rw[←hb0]at kr;have hw0:w.heap.size<b0:=by have:=hX2a.out.lt;omega
      go_wp2_with fail
      refine kr.out.mono ?_;rintro e w3 ⟨⟨rfl,hrow⟩,hb⟩;have hB3:=zh (hB2a.out.trans (hb.mono (by have:=hB2a.out.size;omega)));have hX3:=zh (hX2a.out.below (by rw[←hb0];exact hb));have hR3:Hid (RoI w3 b0 s.ps.length (ini (toN F) 0)):=(RoI.of_row hrow).congr fun x _=>by unfold ini;rw[List.take_zero,if_neg (by simp)]
      clear hb kr hb0 hrow hB2 hX2 hB2a hX2a;go_wp2
      go_loopw [56] (fun i wr=>∃(k:Nat) (o:Nat→Int),k≤F.length∧i=.int .i64 (k:Int)∧Hid (Kp [b0] w3 wr)∧Hid (RoI wr b0 s.ps.length o)∧Hid (∀x,o x=ini (toN F) k x)) (fun i _=>F.length-(intOf i).toNat)
      case atStart=>exact⟨0,_,Nat.zero_le _,rfl,Kp.refl _ _,hR3,fun _=>rfl⟩
      case round =>
       obtain⟨k,o,hk,rfl,hK,hR,ho⟩:=hrel;clear hR3;have hBk:Hid (Below w.heap.size w wr):=hK.out.to_below hB3.out fun x hx=>by rw[List.mem_singleton.1 hx];omega
       by_cases hlt:k<F.length
       · obtain ⟨p,hp1,hp2,hp3⟩:=Rd hL.out hlt;obtain⟨b1,o1,rfl,hb1,hc1⟩:=(hF.out.below hBk.out) (by omega);have e1:=hc1 k hlt;rw[hp1]at e1;have hpn:p<s.ps.length:=by omega
         have e2:=hR.out.cell p hpn;have e3:=hR.out.fr p;have hR2:=zh (hR.out.set hpn 0);have hK2:=zh (hK.out.set (a:=⟨b0,p,none⟩) (.int .i64 0) (.inl (List.mem_singleton.2 rfl)))
         have ho2:Hid (∀x,Fh o p 0 x=ini (toN F) (k+1) x):=fun x=>by
          rw[←Rf hp3 x];unfold Fh;rw[ho.out x]
         have j0:(0:Int)≤(k:Int):=by omega
         have j1:(k:Int)<(F.length:Int):=by omega
         have j2:(0:Int)≤(p:Int):=by omega
         clear hc1 hp1 hp3;go_wp2;exact⟨⟨k+1,_,by omega,by go_num,hK2,hR2,ho2⟩,by simp only[intOf];omega⟩
       · obtain rfl:k=F.length:=by omega
         have hX4:=zh (hX3.out.kp hK.out (by simp;omega))
         have ho3:Hid (∀x,o x=if x∈toN F then 0 else -1):=fun x=>by
          rw[ho.out x,←SX];have:(toN F).length=F.length:=by simp[toN]
          rw[this]
         have u0:=hX4.out.c0;have u1:=hX4.out.c1;have u2:=hX4.out.c2;have u9:=hX4.out.lt;have ko:=zh (QK s Ap Ac Av cp cc cv wr (hs.out.below hBk.out) (by omega) hc3 hin.out);have hF4:=zh (hF.out.below hBk.out);clear ho hK hX3 hB3 hF
         go_wp2_with fail
         refine ko.out.mono ?_;rintro e w4 ⟨⟨R,v,rfl,hG⟩,hb⟩;have hsz4:=hb.size;have hB4:Hid (Below w.heap.size w w4):=hBk.out.trans (hb.mono hBk.out.size);have hR4:=zh (hR.out.below hb);have hb0r:b0<w4.heap.size:=hR4.out.lt
         have hFn:F.length≤1000:=by
          have h1:=CR s.ps.length (toN F) (IS hL.out) fun x hx=>Ms hL.out hx;have h2:(toN F).length=F.length:=by simp[toN]
          omega
         have hF5:=zh (hF4.out.below hb)
         have kc:=zh (OH Af cf F w4 hF5.out (fun x hx=>by
          obtain⟨i,hi,rfl⟩:=List.getElem_of_mem hx;exact(Do hL.out hi).1.1) hFn)
         have hGb:Hid (b0≠R∧∀i b,i<s.ps.length→(v i).ownBlock=some b→b∉[b0]):=by
          have h1:=hR.out.lt;have h2:=hG.lowR;refine⟨by omega,fun i b hi e hm=>?_⟩;have h3:=((hG.rows i hi).lt b e).1;rw[List.mem_singleton.1 hm]at h3;omega
         have hlR:=hG.lt;replace hG:=zh hG;have hbf:=zh (Bf.start (E:=edges s) (IS hL.out) (fun f hf=>Ms hL.out hf) fun x _=>ho3.out x);have hbd:=zh (Bd.start (n:=s.ps.length) ho3.out);have hadj:Hid (∀p q,q∈Ch (edges s) (edges s).length p↔(p,q)∈edges s):=fun _ _=>KE
         have hal:Hid (∀p,(Ch (edges s) (edges s).length p).length≤300):=fun p=>by
          unfold Ch;rw[List.length_map];have h1:=List.length_filter_le (fun x:Nat×Nat=>decide (x.1=p)) ((edges s).take (edges s).length);have h2:((edges s).take (edges s).length).length≤(edges s).length:=List.length_take_le' _ _;have h3:(edges s).length=s.cap.length:=by simp[edges]
          omega
         obtain⟨adj,hadj0⟩:∃a,a=Ch (edges s) (edges s).length:=⟨_,rfl⟩;rw[←hadj0]at hG hadj hal;have hEnd:Hid (∀f,f∈toN F→f<s.ps.length):=fun f hf=>Ms hL.out hf;obtain⟨i0,hi0,hzz⟩:=Option.map_eq_some_iff.1 Ia;simp only[Prod.mk.injEq]at hzz;obtain⟨hz0,hz1,hz2⟩:=hzz;replace hi0:=zh hi0;replace hz0:=zh hz0;replace hz1:=zh hz1;replace hz2:=zh hz2;clear hb ko hR hBk u0 u1 u2 u9 hX4 hadj0 ho3 hF4 hF5 hin
         go_wp2_with fail
         refine kc.out.mono ?_;rintro e w5 ⟨⟨vq,rfl,hQ⟩,hb⟩;have hK5:=zh ((Kp.refl [b0] w4).below hb);have hR5:=zh (hR4.out.below hb);replace hQ:=zh hQ;clear hb kc hR4;go_wp2
         go_loopg [13] ((toN F).length+Fi s.ps.length o) (fun m u wr=>∃(o:Nat→Int) (queue:List Nat),m=queue.length+Fi s.ps.length o∧Hid (QIn wr w4.heap.size u queue)∧Hid (Kp [b0] w4 wr)∧Hid (RoI wr b0 s.ps.length o)∧Hid (Bf s.ps.length (edges s) (toN F) (fun _=>False) o queue)∧Hid (Bd s.ps.length o))
         case atStart=>exact⟨_,_,rfl,hQ,hK5,hR5,hbf,hbd⟩
         case round =>
          clear hQ hK5 hR5 hbf hbd;obtain⟨o1,queue,hm,hQ,hK,hR,hbf,hbd⟩:=hrel
          cases queue with
          | nil =>
            obtain⟨A,c,rfl⟩:=hQ.out.form;have hRk:Hid (RoI wr b0 s.ps.length (rk (edges s) (toN F))):=hR.out.congr fun x hx=>hbf.out.end hEnd.out hin2.out hx;have hBr:Hid (Below w.heap.size w wr):=hK.out.to_below hB4.out fun x hx=>by rw[List.mem_singleton.1 hx];omega
            clear hQ hm;go_wp2;go_ret2;exact hGood.out _ _ b0 rfl (by omega) hRk.out hBr.out
          | cons p queue =>
            obtain⟨g,of,cap,rfl,_,_,hcap,hcell,_⟩:=hQ.out.head;have hpn:=(hbf.out.pos p (List.mem_cons_self ..)).1;have hGw:=hG.out.kp hK.out (by simp;exact fun e=>hGb.out.1 e.symm) hGb.out.2;have d1:=hGw.hd p hpn;have hlRw:=hGw.lt;obtain⟨A,cr,hvp,hrow⟩:=Re (hG.out.rows p hpn);rw[hvp]at d1;have hBq:=zh (Bq.start hbf.out);have hm2:Hid (queue.length+Fi s.ps.length o1<gk):=by rw[hm];simp only[List.length_cons];unfold Hid;omega
            have hall:=zh (fun q (h:(p,q)∈edges s)=>(hadj.out p q).2 h);have hins:=zh (fun q (h:q∈adj p)=>(hadj.out p q).1 h);have halp:=hal.out p
            have hgr:Hid (∀j (hj:j<(adj p).length),∃gg,A=some ⟨gg,0,none⟩∧gg<w4.heap.size∧gg∉[b0]∧w4.cell? ⟨gg,j,none⟩=some (.int .i64 ((adj p)[j]:Int))):=fun j hj=>by
             obtain⟨gg,hA,h1,h2⟩:=hrow j hj;exact⟨gg,hA,h1,hGb.out.2 p gg hpn (by rw[hvp,hA];rfl),h2⟩
            have p0:(0:Int)≤(p:Int):=by omega
            have p1:(p:Int)<(s.ps.length:Int):=by omega
            have q0:(0:Int)<(queue.length:Int)+1:=by omega
            clear hGw hvp hrow hm hbf;go_wp2
            go_loopw [13,81] (fun u ix wz=>∃(j:Nat) (o2:Nat→Int) (q2:List Nat) (A2:Option Addr) (c2:Nat),j≤(adj p).length∧u=.slice A2 (q2.length+1) c2∧ix=.int .i64 (j:Int)∧Hid (QIn wz w4.heap.size (.slice A2 (q2.length+1) c2) (p::q2))∧Hid (Kp [b0] w4 wz)∧Hid (RoI wz b0 s.ps.length o2)∧Hid (Bq s.ps.length (edges s) (toN F) p (o1 p) ((adj p).take j) o2 q2)∧Hid (Bd s.ps.length o2)∧Hid (q2.length+Fi s.ps.length o2≤queue.length+Fi s.ps.length o1)) (fun _ ix _=>(adj p).length-(intOf ix).toNat)
            case atStart=>exact⟨0,o1,queue,_,_,Nat.zero_le _,rfl,rfl,hQ,hK,hR,hBq,hbd,Nat.le_refl _⟩
            case round =>
             clear hQ hK hR hBq hbd;obtain⟨j,o2,q2,A2,c2,hj,rfl,rfl,hQ,hK,hR,hBq,hbd,hme⟩:=hrel
             by_cases hjl:j<(adj p).length
             · obtain ⟨gg,rfl,hgl,hgx,hgc⟩:=hgr.out j hjl;have e1:=(World.cell?_of_block (a:=⟨gg,j,none⟩) (hK.out.block gg hgl hgx)).trans hgc;have hpq:=hins.out _ (List.getElem_mem hjl);have htk:(adj p).take (j+1)=(adj p).take j++[(adj p)[j]]:=List.take_succ_eq_append_getElem hjl;obtain⟨q,hqe⟩:∃x,x=(adj p)[j]:=⟨_,rfl⟩;rw[←hqe]at e1 hpq htk;have hqn:q<s.ps.length:=(hin2.out _ hpq).2;have e2:=hR.out.cell q hqn;have j0:(0:Int)≤(j:Int):=by omega
               have j1:(j:Int)<((adj p).length:Int):=by omega
               have j2:(0:Int)≤(q:Int):=by omega
               have j3:(q:Int)<(s.ps.length:Int):=by omega
               clear hqe hgc hgr
               by_cases hneg:o2 q<0
               · have m1:decide (o2 q<0)=true:=decide_eq_true hneg;have hpn2:=hBq.out.here;have hcur:=hBq.out.cur;have hv0:=hBq.out.v0;have e3:=hR.out.cell p hpn2;have e4:=hR.out.fr q;have hbdp:=hbd.out p hpn2;have jw:IntKind.i64.wrap (o2 p+1)=o2 p+1:=IntWalk.i64_in _ (by omega);have hR2:=zh (hR.out.set hqn (o2 p+1));have hK2:=zh (hK.out.set (a:=⟨b0,q,none⟩) (.int .i64 (o2 p+1)) (.inl (List.mem_singleton.2 rfl)));have hqb:(Value.slice A2 (q2.length+1) c2).ownBlock≠some b0:=fun e=>by have:=(hQ.out.block e).1;omega
                 have hQ2:=zh (hQ.out.set (a:=⟨b0,q,none⟩) hqb (.int .i64 (o2 p+1)))
                 have hBq2:Hid (Bq s.ps.length (edges s) (toN F) p (o1 p) ((adj p).take (j+1)) (Fh o2 q (o2 p+1)) (q2++[q])):=by
                  rw[hcur,htk];exact hBq.out.set hqn hpq hneg
                 have hbd2:=zh (hbd.out.set hpn2 hqn hneg (by omega));have hng:=JS hqn hneg (v:=o2 p+1) (by omega)
                 have hme2:Hid ((q2++[q]).length+Fi s.ps.length (Fh o2 q (o2 p+1))≤queue.length+Fi s.ps.length o1):=by
                  have h:=hme.out;unfold Hid;rw[List.length_append,List.length_singleton];omega
                 have hQ3:=zh (hQ2.out.alloc (.cells #[.int .i64 (q:Int)] 3));have hR3:=zh (hR2.out.alloc (.cells #[.int .i64 (q:Int)] 3));have hK3:=zh (hK2.out.alloc (.cells #[.int .i64 (q:Int)] 3));have hsz1:w4.heap.size≤((wr.setCell ⟨b0,q,none⟩ (.int .i64 (o2 p+1))).alloc (.cells #[.int .i64 (q:Int)] 3)).heap.size:=hK3.out.size
                 have hlen:(p::q2).length+1≤400:=by
                  have h1:=CR s.ps.length (p::q2) (List.nodup_cons.2 ⟨hBq.out.off,hBq.out.inv.nodup⟩) fun x hx=>by
                   rcases List.mem_cons.1 hx with rfl | hx
                   · exact hpn2
                   · exact(hBq.out.inv.pos x hx).1
                  omega
                 replace hlen:=zh hlen;replace hsz1:=zh hsz1;have hbb:Hid (∀b,(Value.slice A2 (q2.length+1) c2).ownBlock=some b→b∈[b0]∨w4.heap.size≤b):=fun b e=>.inr (hQ.out.block e).1;have hqb':=zh hqb;clear hR hK hQ hbdp hcur hv0 hng hqb hneg
                 have had:Hid (((wr.setCell ⟨b0,q,none⟩ (.int .i64 (o2 p+1))).alloc (.cells #[.int .i64 (q:Int)] 3)).cell? ⟨wr.heap.size,0,none⟩=some (.int .i64 (q:Int))):=by
                  have h:=MZ (wr.setCell ⟨b0,q,none⟩ (.int .i64 (o2 p+1))) (.int .i64 (q:Int)) 3
                  rwa [World.size_setCell]at h
                 go_wp2_with (at_builtin;refine EX _ rfl _ _ 26 rfl w4.heap.size 3 i0 (.int .i64 0) 8 Tryz.underlying26 hi0.out hz0.out hz1.out hz2.out rfl (.slice A2 (q2.length+1) c2) (p::q2) q rfl hQ3.out hsz1.out ⟨wr.heap.size,0,none⟩ 1 rfl had.out (by have:=hlen.out;omega) (by have:=hlen.out;unfold maxLen;omega) ?_;intro vb wb hqq hgb hnb;have hK9:=zh (hK3.out.grown hgb hbb.out);have hR9:=zh (hR3.out.grown hgb hqb'.out);obtain⟨A9,c9,rfl⟩:=hqq.form;replace hqq:=zh hqq;clear hgb hnb)
                 exact⟨⟨j+1,_,q2++[q],A9,c9,by omega,by rw[List.length_append,List.length_singleton],by go_num,by have h:=hqq.out;unfold Hid;simpa using h,hK9,hR9,hBq2,hbd2,hme2⟩,by simp only[intOf];omega⟩
               · have m1:decide (o2 q<0)=false:=decide_eq_false hneg;have hBq2:=zh (hBq.out.skip hqn (by omega));rw[←htk]at hBq2;clear htk hpq;go_wp2;exact⟨⟨j+1,o2,q2,_,_,by omega,rfl,by go_num,hQ,hK,hR,hBq2,hbd,hme⟩,by simp only[intOf];omega⟩
             · obtain rfl:j=(adj p).length:=by omega
               have hbf:=zh (hBq.out.end fun q hq=>by rw[List.take_length];exact hall.out q hq);obtain⟨g9,o9,c9,he,_,_,hc9,_,hq9⟩:=hQ.out.head;injection he with he1 _ he3;subst he1 he3;have hm3:q2.length+Fi s.ps.length o2<gk:=Nat.lt_of_le_of_lt hme.out hm2.out;have z1:(1:Int)≤(q2.length:Int)+1:=by omega
               have z2:(q2.length:Int)+1≤(c2:Int):=by omega
               replace hbd:=zh hbd.out;clear hBq hQ hme hm2 hall hins hgr
               by_cases hc1:c2=1
               · subst hc1;have h0:q2=[]:=List.length_eq_zero_iff.1 (by omega);subst h0;rw[if_pos rfl]at hq9;replace hq9:Hid (QIn wr w4.heap.size (.slice (some ⟨g9,o9,none⟩) 0 0) []):=hq9;go_wp2
                 go_roundg (Fi s.ps.length o2)
                 case measure=>simpa using hm3
                 case rel=>exact⟨o2,[],by simp,hq9,hK,hR,hbf,hbd⟩
               · rw[if_neg hc1]at hq9;replace hq9:=zh hq9;go_wp2
                 go_roundg (q2.length+Fi s.ps.length o2)
                 case measure=>exact hm3
                 case rel=>exact⟨o2,q2,rfl,hq9,hK,hR,hbf,hbd⟩
end Ci
end
end Go.Proofs.YtilodknkildkbaaGreatDoor

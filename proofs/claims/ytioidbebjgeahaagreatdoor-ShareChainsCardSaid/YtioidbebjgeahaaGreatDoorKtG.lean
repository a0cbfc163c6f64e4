/- Texts that the proof needs: ShaReg22, ShaTake, ShaSolve, ShaRowP, ShaBuild, ShaSlv, ShaLaw2. -/
import Derived.Deep.RegionHeld3
import Derived.Test.YtioidbebjgeahaaGreatDoorKtA
import Derived.Test.YtioidbebjgeahaaGreatDoorKtB
import Derived.Test.YtioidbebjgeahaaGreatDoorKtC
import Derived.Test.YtioidbebjgeahaaGreatDoorKtD
import Derived.Test.YtioidbebjgeahaaGreatDoorKtE
import Derived.Test.YtioidbebjgeahaaGreatDoorKtF
set_option maxHeartbeats 32000000
set_option maxRecDepth 1000000
namespace Go.Proofs.YtioidbebjgeahaaGreatDoor
section
open Go.RowKit Go.Shelf
namespace Sh
open Nt Ci
theorem one_at {W:World} {b:Nat} {v:Value} (h:W.cell? ⟨b,0,none⟩=some v):∀j u,[v][j]? = some u→W.cell? ((⟨b,0,none⟩:Addr).add j)=some u:=by
 intro j u hj
 match j,hj with
 | 0,hj=>simp only[List.getElem?_cons_zero,Option.some.injEq]at hj;subst hj;simpa [Addr.add] using h
 | j+1,hj=>simp at hj
theorem three_at {W:World} {b:Nat} {x y z:Value} (h0:W.cell? ⟨b,0,none⟩=some x) (h1:W.cell? ⟨b,1,none⟩=some y) (h2:W.cell? ⟨b,2,none⟩=some z):∀j u,[x,y,z][j]? = some u→W.cell? ((⟨b,0,none⟩:Addr).add j)=some u:=by
 intro j u hj
 match j,hj with
 | 0,hj=>simp at hj;subst hj;simpa [Addr.add] using h0
 | 1,hj=>simp at hj;subst hj;simpa [Addr.add] using h1
 | 2,hj=>simp at hj;subst hj;simpa [Addr.add] using h2
 | j+3,hj=>simp at hj
theorem some_funS {P:Program} {md:Region.Mode} {ops:Array Oper} {Q:Exit→Act→World→Prop} {S:World→Prop} {n:Nat} {l:Array Bool} {a:Act} {w:World}
 (h:∀F:Nat→Array Bool→Act→World→Prop,F=wpAnyH P md ops Q S→F n l a w):wpAnyH P md ops Q S n l a w:=h _ rfl
theorem fun_as {F:Nat→Array Bool→Act→World→Prop} {n n':Nat} {l l':Array Bool} {a a':Act} {w:World} (hn:n'=n) (hl:l'=l) (ha:a'=a) (h:F n l a w):F n' l' a' w:=by rw[hn,hl,ha];exact h
theorem own_form3 {W:World} {base n m:Nat} {e:TypeId} {u:Value} {xs:List Value} (h:W.ownsRow base e m u n xs):∃A cap,u=.slice A n cap:=by
 rcases h.2 with⟨rfl,h0⟩ | ⟨g,cap,cur,rfl,_⟩
 · exact⟨none,0,by rw[h0]⟩
 · exact⟨_,cap,rfl⟩
theorem kp_own {x:Nat} {w W W':World} {L:List Nat} {o:Option Nat} (h:Kp (x::L) w W) (hg:W.grownBy W' o) (hl:∀b,o=some b→b∈L∨w.heap.size≤b):Kp (x::L) w W' :=
 h.grown hg fun b e=>(hl b e).imp (List.mem_cons_of_mem _) id
theorem bd22 {c1 c2 c3 c4 c5 c6 c7 c8 c10 c12 c13 c14 c15 c16 c17 c18 c19 c20 c21 c22 c23 c24 c25 c26 c27 c28 c29 c30 c31 c32 c33 c34 c35 c36 c37 c38 c39 c40 c41 c42 c43 c44 c45 c46 c47 c48 c49 c50 c51 c52 c53 c54 c55 c56 c57 c58 c59 c60 c61 c62 c63 c64 c65 c66 c67 c68 c69 c70 c71 c72 c73 c74 c75 c76 c77 c78 c79 c80 c81 c82 c83 c84 c85 c86 c107 a87 a88 a89 a90 a91 a92 a93 a94 a95 a96 a97 a98 a99 a100 a101 a102 a103 a104 a105 a106:Value} {Q:Exit→Act→World→Prop} (xb gb rb m i ca cb B1:Nat) (Aa Ab:Option Addr) (uv:Value) (hds cbs:List Value) (x:Raw) (w:World) (hi:i≤1000) (hx:Bk w xb 74 [uv,.slice Aa i ca,.slice Ab i cb]) (hb:Bk w gb 37 [.bool x.1,.string x.2.1,.string x.2.2]) (ngx:gb≠xb) (hB1:B1≤w.heap.size) (hxB:xb<B1) (oa:w.ownsRow B1 29 1 (Value.slice Aa i ca) i hds) (ob:w.ownsRow B1 37 3 (Value.slice Ab i cb) i cbs) (ap:∀b,(Value.slice Aa i ca).ownBlock=some b→(Value.slice Ab i cb).ownBlock≠some b) (nga:(Value.slice Aa i ca).ownBlock≠some gb) (ngb:(Value.slice Ab i cb).ownBlock≠some gb)
 (h:∀(u87 u88 u89 u90 u91 u92 u93 u94 u95 u96 u97 u98 u99 u100 u101 u102 u103 u104 u105 u106:Value) (Aa2 Ab2:Option Addr) (ca2 cb2:Nat) (W:World) (_:Hid (Kp (xb::((Value.slice Aa i ca).ownBlock.toList++(Value.slice Ab i cb).ownBlock.toList)) w W)) (_:Hid (Bk W xb 74 [uv,.slice Aa2 (i+1) ca2,.slice Ab2 (i+1) cb2])) (_:Hid (W.ownsRow B1 29 1 (Value.slice Aa2 (i+1) ca2) (i+1) (hds++[.slice (some ⟨rb,0,none⟩) m m]))) (_:Hid (W.ownsRow B1 37 3 (Value.slice Ab2 (i+1) cb2) (i+1) (cbs++[.bool x.1,.string x.2.1,.string x.2.2]))) (_:Hid (∀b,(Value.slice Aa2 (i+1) ca2).ownBlock=some b→(Value.slice Ab2 (i+1) cb2).ownBlock≠some b)) (_:Hid ((Value.slice Aa2 (i+1) ca2).ownBlock=(Value.slice Aa i ca).ownBlock∨∃b,(Value.slice Aa2 (i+1) ca2).ownBlock=some b∧w.heap.size≤b)) (_:Hid ((Value.slice Ab2 (i+1) cb2).ownBlock=(Value.slice Ab i cb).ownBlock∨∃b,(Value.slice Ab2 (i+1) cb2).ownBlock=some b∧w.heap.size≤b)),Q .normal ⟨#[.pointer (some ⟨xb,0,none⟩),c1,c2,c3,c4,c5,c6,c7,c8,.slice (some ⟨rb,0,none⟩) m m,c10,.pointer (some ⟨gb,0,none⟩),c12,c13,c14,c15,c16,c17,c18,c19,c20,c21,c22,c23,c24,c25,c26,c27,c28,c29,c30,c31,c32,c33,c34,c35,c36,c37,c38,c39,c40,c41,c42,c43,c44,c45,c46,c47,c48,c49,c50,c51,c52,c53,c54,c55,c56,c57,c58,c59,c60,c61,c62,c63,c64,c65,c66,c67,c68,c69,c70,c71,c72,c73,c74,c75,c76,c77,c78,c79,c80,c81,c82,c83,c84,c85,c86,u87,u88,u89,u90,u91,u92,u93,u94,u95,u96,u97,u98,u99,u100,u101,u102,u103,u104,u105,u106,c107],[]⟩ W) :
 Code.wp Tryz.prog (bdR 22) Q ⟨#[.pointer (some ⟨xb,0,none⟩),c1,c2,c3,c4,c5,c6,c7,c8,.slice (some ⟨rb,0,none⟩) m m,c10,.pointer (some ⟨gb,0,none⟩),c12,c13,c14,c15,c16,c17,c18,c19,c20,c21,c22,c23,c24,c25,c26,c27,c28,c29,c30,c31,c32,c33,c34,c35,c36,c37,c38,c39,c40,c41,c42,c43,c44,c45,c46,c47,c48,c49,c50,c51,c52,c53,c54,c55,c56,c57,c58,c59,c60,c61,c62,c63,c64,c65,c66,c67,c68,c69,c70,c71,c72,c73,c74,c75,c76,c77,c78,c79,c80,c81,c82,c83,c84,c85,c86,a87,a88,a89,a90,a91,a92,a93,a94,a95,a96,a97,a98,a99,a100,a101,a102,a103,a104,a105,a106,c107],[]⟩ w:=by
 conv=>arg 2;whnf
 conv=>arg 4;zeta
 replace h:=Lib.hid h;have hk0:Hid (Kp (xb::((Value.slice Aa i ca).ownBlock.toList++(Value.slice Ab i cb).ownBlock.toList)) w w.drew):=(Kp.refl _ w).drew;have hx0:Hid (Bk w.drew xb 74 [uv,.slice Aa i ca,.slice Ab i cb]):=hx.below (Below.refl _ w).drew;have hb0:Hid (Bk w.drew gb 37 [.bool x.1,.string x.2.1,.string x.2.2]):=hb.below (Below.refl _ w).drew;have oa0:=Lib.hid (own_below' oa (Below.refl _ w).drew);have ob0:=Lib.hid (own_below' ob (Below.refl _ w).drew);have hla:Hid (∀b,(Value.slice Aa i ca).ownBlock=some b→B1≤b∧b<w.heap.size):=fun b e=>oa.lt b e;have hlb:Hid (∀b,(Value.slice Ab i cb).ownBlock=some b→B1≤b∧b<w.heap.size):=fun b e=>ob.lt b e;have nxa:Hid ((Value.slice Aa i ca).ownBlock≠some xb):=fun e=>by have:=(oa.lt xb e).1;omega
 have nxb:Hid ((Value.slice Ab i cb).ownBlock≠some xb):=fun e=>by have:=(ob.lt xb e).1;omega
 have gl:=hb.lt;have xl:=hx.lt;replace ap:=Lib.hid ap;clear oa ob hb hx;replace hB1:=Lib.hid hB1;replace nga:=Lib.hid nga;replace ngb:=Lib.hid ngb;replace ngx:=Lib.hid ngx;replace hxB:=Lib.hid hxB;replace gl:=Lib.hid gl;replace xl:=Lib.hid xl;have hma:Hid (∀b,(Value.slice Aa i ca).ownBlock=some b→b∈((Value.slice Aa i ca).ownBlock.toList++(Value.slice Ab i cb).ownBlock.toList)∨w.heap.size≤b):=fun b e=>.inl (by rw[e];simp);have hmb:Hid (∀b,(Value.slice Ab i cb).ownBlock=some b→b∈((Value.slice Aa i ca).ownBlock.toList++(Value.slice Ab i cb).ownBlock.toList)∨w.heap.size≤b):=fun b e=>.inl (by rw[e];simp);obtain⟨i0,hi0,hzz⟩:=Option.map_eq_some_iff.1 infoRS;simp only[Prod.mk.injEq]at hzz;obtain⟨z0i0,z1i0,z2i0⟩:=hzz;replace hi0:=Lib.hid hi0;replace z0i0:=Lib.hid z0i0;replace z1i0:=Lib.hid z1i0;replace z2i0:=Lib.hid z2i0;obtain⟨i3,hi3,hzz⟩:=Option.map_eq_some_iff.1 infoQ;simp only[Prod.mk.injEq]at hzz;obtain⟨z0i3,z1i3,z2i3⟩:=hzz;replace hi3:=Lib.hid hi3;replace z0i3:=Lib.hid z0i3;replace z1i3:=Lib.hid z1i3;replace z2i3:=Lib.hid z2i3;refine wp_region_noPanic ?_;refine wp_region_held_drew (S:=fun W=>W.cell? ⟨gb,0,none⟩=some (.bool x.1)∧W.cell? ⟨gb,1,none⟩=some (.string x.2.1)∧W.cell? ⟨gb,2,none⟩=some (.string x.2.2)) (by kernel_rfl) (⟨hb0.out.cell (j:=0) rfl,hb0.out.cell (j:=1) rfl,hb0.out.cell (j:=2) rfl⟩) (fun hS0=>?_);replace hS0:=Lib.hid hS0;refine wpAnyH_take (i:=0) (oi:=_) (v:=?_) rfl (by kernel_rfl) (by kernel_rfl) (by kernel_rfl) (fun _ _ _ h=>h) (Or.inl ⟨by rfl,?_⟩) (hS0.out) ?_;rotate_left
 · (intro w hSw;obtain⟨q1,q2,q3⟩:=hSw;go_simp<;>with_reducible rfl)
 try simp only[Act.put,List.setIfInBounds_toArray]
 refine wpAnyH_take (i:=1) (oi:=_) (v:=?_) rfl (by kernel_rfl) (by kernel_rfl) (by kernel_rfl) (fun _ _ _ h=>h) (Or.inl ⟨by rfl,?_⟩) (hS0.out) ?_;rotate_left
 · (intro w hSw;obtain⟨q1,q2,q3⟩:=hSw;go_simp<;>with_reducible rfl)
 try simp only[Act.put]
 refine wpAnyH_take (i:=2) (oi:=_) (v:=?_) rfl (by kernel_rfl) (by kernel_rfl) (by kernel_rfl) (fun _ _ _ h=>h) (Or.inl ⟨by rfl,?_⟩) (hS0.out) ?_;rotate_left
 · (intro w hSw;obtain⟨q1,q2,q3⟩:=hSw;go_simp<;>with_reducible rfl)
 try simp only[Act.put]
 refine wpAnyH_take (i:=3) (oi:=_) (v:=?_) rfl (by kernel_rfl) (by kernel_rfl) (by kernel_rfl) (fun _ _ _ h=>h) (Or.inl ⟨by rfl,?_⟩) (hS0.out) ?_;rotate_left
 · (intro w hSw;obtain⟨q1,q2,q3⟩:=hSw;go_simp<;>with_reducible rfl)
 try simp only[Act.put]
 refine wpAnyH_take (i:=4) (oi:=_) (v:=?_) rfl (by kernel_rfl) (by kernel_rfl) (by kernel_rfl) (fun _ _ _ h=>h) (Or.inl ⟨by rfl,?_⟩) (hS0.out) ?_;rotate_left
 · (intro w hSw;obtain⟨q1,q2,q3⟩:=hSw;go_simp<;>with_reducible rfl)
 try simp only[Act.put]
 refine wpAnyH_take (i:=6) (oi:=_) (v:=?_) rfl (by kernel_rfl) (by kernel_rfl) (by kernel_rfl) (fun _ _ _ h=>h) (Or.inl ⟨by rfl,?_⟩) (hS0.out) ?_;rotate_left
 · (intro w hSw;obtain⟨q1,q2,q3⟩:=hSw;go_simp<;>with_reducible rfl)
 try simp only[Act.put]
 refine wpAnyH_take (i:=9) (oi:=_) (v:=?_) rfl (by kernel_rfl) (by kernel_rfl) (by kernel_rfl) (fun _ _ _ h=>h) (Or.inl ⟨by rfl,?_⟩) (hS0.out) ?_;rotate_left
 · (intro w hSw;obtain⟨q1,q2,q3⟩:=hSw;go_simp<;>with_reducible rfl)
 try simp only[Act.put]
 refine wpAnyH_take (i:=10) (oi:=_) (v:=?_) rfl (by kernel_rfl) (by kernel_rfl) (by kernel_rfl) (fun _ _ _ h=>h) (Or.inl ⟨by rfl,?_⟩) (hS0.out) ?_;rotate_left
 · (intro w hSw;obtain⟨q1,q2,q3⟩:=hSw;go_simp<;>with_reducible rfl)
 try simp only[Act.put]
 refine wpAnyH_take (i:=11) (oi:=_) (v:=?_) rfl (by kernel_rfl) (by kernel_rfl) (by kernel_rfl) (fun _ _ _ h=>h) (Or.inl ⟨by rfl,?_⟩) (hS0.out) ?_;rotate_left
 · (intro w hSw;obtain⟨q1,q2,q3⟩:=hSw;go_simp<;>with_reducible rfl)
 try simp only[Act.put]
 refine wpAnyH_take (i:=13) (oi:=_) (v:=?_) rfl (by kernel_rfl) (by kernel_rfl) (by kernel_rfl) (fun _ _ _ h=>h) (Or.inl ⟨by rfl,?_⟩) (hS0.out) ?_;rotate_left
 · (intro w hSw;obtain⟨q1,q2,q3⟩:=hSw;go_simp<;>with_reducible rfl)
 try simp only[Act.put]
 clear hS0;refine some_funS (fun F hF=>?_);replace hF:=Lib.hid hF
 have Lx5x7x8x12x14x15:∀(l7:Nat) (Aa2:Option Addr) (ca2:Nat) (l14:Nat) (Ab2:Option Addr) (cb2:Nat) (W:World),Hid (Kp (xb::((Value.slice Aa i ca).ownBlock.toList++(Value.slice Ab i cb).ownBlock.toList)) w W)→Hid (Bk W xb 74 [uv,.slice Aa i ca,.slice Ab i cb])→Hid (Bk W gb 37 [.bool x.1,.string x.2.1,.string x.2.2])→Hid (W.ownsRow B1 29 1 (Value.slice Aa2 (i+1) ca2) (i+1) (hds++[.slice (some ⟨rb,0,none⟩) m m]))→Hid ((Value.slice Aa2 (i+1) ca2).ownBlock=(Value.slice Aa i ca).ownBlock∨∃b,(Value.slice Aa2 (i+1) ca2).ownBlock=some b∧w.heap.size≤b)→Hid (W.ownsRow B1 37 3 (Value.slice Ab2 (i+1) cb2) (i+1) (cbs++[.bool x.1,.string x.2.1,.string x.2.2]))→Hid ((Value.slice Ab2 (i+1) cb2).ownBlock=(Value.slice Ab i cb).ownBlock∨∃b,(Value.slice Ab2 (i+1) cb2).ownBlock=some b∧w.heap.size≤b)→Hid (∀b,(Value.slice Aa2 (i+1) ca2).ownBlock=some b→(Value.slice Ab2 (i+1) cb2).ownBlock≠some b)→F 6 #[true,true,true,true,true,true,true,true,true,true,true,true,true,true,true,true,false,false,false,false,false,false] ⟨#[.pointer (some ⟨xb,0,none⟩),c1,c2,c3,c4,c5,c6,c7,c8,.slice (some ⟨rb,0,none⟩) m m,c10,.pointer (some ⟨gb,0,none⟩),c12,c13,c14,c15,c16,c17,c18,c19,c20,c21,c22,c23,c24,c25,c26,c27,c28,c29,c30,c31,c32,c33,c34,c35,c36,c37,c38,c39,c40,c41,c42,c43,c44,c45,c46,c47,c48,c49,c50,c51,c52,c53,c54,c55,c56,c57,c58,c59,c60,c61,c62,c63,c64,c65,c66,c67,c68,c69,c70,c71,c72,c73,c74,c75,c76,c77,c78,c79,c80,c81,c82,c83,c84,c85,c86,.pointer (some ⟨xb,0,none⟩),.pointer (some ⟨xb,0,none⟩),.pointer (some ⟨xb,0,none⟩),.pointer (some ⟨xb,0,none⟩),.pointer (some ⟨xb,1,none⟩),.slice Aa i ca,.slice (some ⟨rb,0,none⟩) m m,.slice (some ⟨l7,0,none⟩) 1 1,.slice Aa2 (i+1) ca2,.pointer (some ⟨xb,0,none⟩),.pointer (some ⟨xb,0,none⟩),.pointer (some ⟨xb,2,none⟩),.slice Ab i cb,.agg #[.bool x.1,.string x.2.1,.string x.2.2],.slice (some ⟨l14,0,none⟩) 1 1,.slice Ab2 (i+1) cb2,a103,a104,a105,a106,c107],[]⟩ W:=by
  intro l7 Aa2 ca2 l14 Ab2 cb2 W hk hx hb oa na ob nb ap;rw[hF.out];refine wpAnyH_take (i:=16) (oi:=_) (v:=?_) rfl (by kernel_rfl) (by kernel_rfl) (by kernel_rfl) (fun _ _ _ h=>h) (Or.inl ⟨by rfl,?_⟩) (⟨hb.out.cell (j:=0) rfl,hb.out.cell (j:=1) rfl,hb.out.cell (j:=2) rfl⟩) ?_;rotate_left
  · (intro w hSw;obtain⟨q1,q2,q3⟩:=hSw;go_simp<;>with_reducible rfl)
  try simp only[Act.put,List.setIfInBounds_toArray,List.set_cons_zero,List.set_cons_succ]
  refine wpAnyH_take (i:=17) (oi:=_) (v:=?_) rfl (by kernel_rfl) (by kernel_rfl) (by kernel_rfl) (fun _ _ _ h=>h) (Or.inl ⟨by rfl,?_⟩) (⟨hb.out.cell (j:=0) rfl,hb.out.cell (j:=1) rfl,hb.out.cell (j:=2) rfl⟩) ?_;rotate_left
  · (intro w hSw;obtain⟨q1,q2,q3⟩:=hSw;go_simp<;>with_reducible rfl)
  try simp only[Act.put,List.setIfInBounds_toArray,List.set_cons_zero,List.set_cons_succ]
  have x1:=hx.out.cell (j:=1) rfl;have f1:=hx.out.frozen 1;have x9:=hx.out.lt;refine wpAnyH_ready (rs:=[18]) (by kernel_rfl) (by simp) ?_;refine AllReadyH.cons (o:=_) rfl (fun K hK=>?_) ?_
  · go_simp;have hb2:Hid (Bk (W.setCell ⟨xb,1,none⟩ (.slice Aa2 (i+1) ca2)) gb 37 [.bool x.1,.string x.2.1,.string x.2.2]):=hb.out.far (p:=⟨xb,1,none⟩) ngx.out _;have hx2:Hid (Bk (W.setCell ⟨xb,1,none⟩ (.slice Aa2 (i+1) ca2)) xb 74 [uv,.slice Aa2 (i+1) ca2,.slice Ab i cb]):=hx.out.set 1 (.slice Aa2 (i+1) ca2);have hk2:Hid (Kp (xb::((Value.slice Aa i ca).ownBlock.toList++(Value.slice Ab i cb).ownBlock.toList)) w (W.setCell ⟨xb,1,none⟩ (.slice Aa2 (i+1) ca2))):=hk.out.set (a:=⟨xb,1,none⟩) _ (.inl (by simp));have nxa2:Hid ((Value.slice Aa2 (i+1) ca2).ownBlock≠some xb):=fun e=>by rcases na.out with c | ⟨b,c,d⟩;(· exact nxa.out (c▸e));(· rw[c]at e;cases e;have:=xl.out;omega)
    have nxb2:Hid ((Value.slice Ab2 (i+1) cb2).ownBlock≠some xb):=fun e=>by rcases nb.out with c | ⟨b,c,d⟩;(· exact nxb.out (c▸e));(· rw[c]at e;cases e;have:=xl.out;omega)
    have oa2:=Lib.hid (oa.out.kept (grown_set W ⟨xb,1,none⟩ (.slice Aa2 (i+1) ca2)) (.inr nxa2.out));have ob2:=Lib.hid (ob.out.kept (grown_set W ⟨xb,1,none⟩ (.slice Aa2 (i+1) ca2)) (.inr nxb2.out));clear x1 f1 x9;refine hK.out _ _ (⟨hb2.out.cell (j:=0) rfl,hb2.out.cell (j:=1) rfl,hb2.out.cell (j:=2) rfl⟩) (fun _=>?_);clear hK K
    try simp only[List.setIfInBounds_toArray,List.set_cons_zero,List.set_cons_succ]
    refine wpAnyH_take (i:=19) (oi:=_) (v:=?_) rfl (by kernel_rfl) (by kernel_rfl) (by kernel_rfl) (fun _ _ _ h=>h) (Or.inl ⟨by rfl,?_⟩) (⟨hb2.out.cell (j:=0) rfl,hb2.out.cell (j:=1) rfl,hb2.out.cell (j:=2) rfl⟩) ?_;rotate_left
    · (intro w hSw;obtain⟨q1,q2,q3⟩:=hSw;go_simp<;>with_reducible rfl)
    try simp only[Act.put,List.setIfInBounds_toArray,List.set_cons_zero,List.set_cons_succ]
    refine wpAnyH_take (i:=20) (oi:=_) (v:=?_) rfl (by kernel_rfl) (by kernel_rfl) (by kernel_rfl) (fun _ _ _ h=>h) (Or.inl ⟨by rfl,?_⟩) (⟨hb2.out.cell (j:=0) rfl,hb2.out.cell (j:=1) rfl,hb2.out.cell (j:=2) rfl⟩) ?_;rotate_left
    · (intro w hSw;obtain⟨q1,q2,q3⟩:=hSw;go_simp<;>with_reducible rfl)
    try simp only[Act.put,List.setIfInBounds_toArray,List.set_cons_zero,List.set_cons_succ]
    have x1:=hx2.out.cell (j:=2) rfl;have f1:=hx2.out.frozen 2;have x9:=hx2.out.lt;refine wpAnyH_ready (rs:=[21]) (by kernel_rfl) (by simp) ?_;refine AllReadyH.cons (o:=_) rfl (fun K hK=>?_) ?_
    · go_simp;have hb3:Hid (Bk ((W.setCell ⟨xb,1,none⟩ (.slice Aa2 (i+1) ca2)).setCell ⟨xb,2,none⟩ (.slice Ab2 (i+1) cb2)) gb 37 [.bool x.1,.string x.2.1,.string x.2.2]):=hb2.out.far (p:=⟨xb,2,none⟩) ngx.out _;have hx3:Hid (Bk ((W.setCell ⟨xb,1,none⟩ (.slice Aa2 (i+1) ca2)).setCell ⟨xb,2,none⟩ (.slice Ab2 (i+1) cb2)) xb 74 [uv,.slice Aa2 (i+1) ca2,.slice Ab2 (i+1) cb2]):=hx2.out.set 2 (.slice Ab2 (i+1) cb2);have hk3:Hid (Kp (xb::((Value.slice Aa i ca).ownBlock.toList++(Value.slice Ab i cb).ownBlock.toList)) w ((W.setCell ⟨xb,1,none⟩ (.slice Aa2 (i+1) ca2)).setCell ⟨xb,2,none⟩ (.slice Ab2 (i+1) cb2))):=hk2.out.set (a:=⟨xb,2,none⟩) _ (.inl (by simp));have oa3:=Lib.hid (oa2.out.kept (grown_set (W.setCell ⟨xb,1,none⟩ (.slice Aa2 (i+1) ca2)) ⟨xb,2,none⟩ (.slice Ab2 (i+1) cb2)) (.inr nxa2.out));have ob3:=Lib.hid (ob2.out.kept (grown_set (W.setCell ⟨xb,1,none⟩ (.slice Aa2 (i+1) ca2)) ⟨xb,2,none⟩ (.slice Ab2 (i+1) cb2)) (.inr nxb2.out));clear x1 f1 x9;refine hK.out _ _ (⟨hb3.out.cell (j:=0) rfl,hb3.out.cell (j:=1) rfl,hb3.out.cell (j:=2) rfl⟩) (fun _=>?_);clear hK K
      try simp only[List.setIfInBounds_toArray,List.set_cons_zero,List.set_cons_succ]
      refine wpAnyH_done (by kernel_rfl) ?_ _;refine NoPanic.normal ?_;exact h.out _ _ _ _ _ _ _ _ _ _ _ _ _ _ _ _ _ _ _ _ _ _ _ _ _ hk3 hx3 oa3 ob3 ap na nb
    exact AllReadyH.nil
  exact AllReadyH.nil
 have Lx5x7x8x12x14:∀(l7:Nat) (Aa2:Option Addr) (ca2:Nat) (l14:Nat) (W:World),Hid (Kp (xb::((Value.slice Aa i ca).ownBlock.toList++(Value.slice Ab i cb).ownBlock.toList)) w W)→Hid (Bk W xb 74 [uv,.slice Aa i ca,.slice Ab i cb])→Hid (Bk W gb 37 [.bool x.1,.string x.2.1,.string x.2.2])→Hid (W.ownsRow B1 29 1 (Value.slice Aa2 (i+1) ca2) (i+1) (hds++[.slice (some ⟨rb,0,none⟩) m m]))→Hid ((Value.slice Aa2 (i+1) ca2).ownBlock=(Value.slice Aa i ca).ownBlock∨∃b,(Value.slice Aa2 (i+1) ca2).ownBlock=some b∧w.heap.size≤b)→Hid (W.ownsRow B1 37 3 (Value.slice Ab i cb) i cbs)→Hid (∀b,(Value.slice Aa2 (i+1) ca2).ownBlock=some b→(Value.slice Ab i cb).ownBlock≠some b)→Hid ((W.cell? ⟨l14,0,none⟩=some (.bool x.1)∧W.cell? ⟨l14,1,none⟩=some (.string x.2.1)∧W.cell? ⟨l14,2,none⟩=some (.string x.2.2))∧w.heap.size≤l14∧l14<W.heap.size)→F 7 #[true,true,true,true,true,true,true,true,true,true,true,true,true,true,true,false,false,false,false,false,false,false] ⟨#[.pointer (some ⟨xb,0,none⟩),c1,c2,c3,c4,c5,c6,c7,c8,.slice (some ⟨rb,0,none⟩) m m,c10,.pointer (some ⟨gb,0,none⟩),c12,c13,c14,c15,c16,c17,c18,c19,c20,c21,c22,c23,c24,c25,c26,c27,c28,c29,c30,c31,c32,c33,c34,c35,c36,c37,c38,c39,c40,c41,c42,c43,c44,c45,c46,c47,c48,c49,c50,c51,c52,c53,c54,c55,c56,c57,c58,c59,c60,c61,c62,c63,c64,c65,c66,c67,c68,c69,c70,c71,c72,c73,c74,c75,c76,c77,c78,c79,c80,c81,c82,c83,c84,c85,c86,.pointer (some ⟨xb,0,none⟩),.pointer (some ⟨xb,0,none⟩),.pointer (some ⟨xb,0,none⟩),.pointer (some ⟨xb,0,none⟩),.pointer (some ⟨xb,1,none⟩),.slice Aa i ca,.slice (some ⟨rb,0,none⟩) m m,.slice (some ⟨l7,0,none⟩) 1 1,.slice Aa2 (i+1) ca2,.pointer (some ⟨xb,0,none⟩),.pointer (some ⟨xb,0,none⟩),.pointer (some ⟨xb,2,none⟩),.slice Ab i cb,.agg #[.bool x.1,.string x.2.1,.string x.2.2],.slice (some ⟨l14,0,none⟩) 1 1,a102,a103,a104,a105,a106,c107],[]⟩ W:=by
  intro l7 Aa2 ca2 l14 W hk hx hb oa na ob ap c14;rw[hF.out];refine wpAnyH_ready (rs:=[15]) (by kernel_rfl) (by simp) ?_;refine AllReadyH.cons (o:=_) rfl (fun K hK=>?_) ?_
  · rw[if_pos (by rfl)];refine Nt.wp_append_new _ _ _ 29 rfl B1 37 i3 (.agg #[.bool false,.string ⟨#[]⟩,.string ⟨#[]⟩]) 3 40 Tryz.underlying29 hi3.out z0i3.out z1i3.out z2i3.out rfl (by decide) (.slice Ab i cb) i cbs rfl ob.out ⟨l14,0,none⟩ 1 1 [.bool x.1,.string x.2.1,.string x.2.2] rfl rfl (three_at c14.out.1.1 c14.out.1.2.1 c14.out.1.2.2) (fun u hu=>raw_cell x u hu) (by omega) (by unfold maxLen;omega) (by omega) (Nat.le_trans hB1.out hk.out.size) ?_;intro vx wx hox hgx hnx;obtain⟨A9,c9,rfl⟩:=own_form3 hox;have hb2:=Lib.hid (hb.out.grown hgx (fun e=>ngb.out e.symm));have hx2:=Lib.hid (hx.out.grown hgx (fun e=>nxb.out e.symm));have hk2:=Lib.hid (kp_own hk.out hgx hmb.out);have oa2:=Lib.hid (oa.out.kept hgx (by cases e:(Value.slice Aa2 (i+1) ca2).ownBlock with | none=>exact .inl rfl | some b=>exact .inr (fun e2=>ap.out b e e2.symm)));have nb2:Hid ((Value.slice A9 (i+1) c9).ownBlock=(Value.slice Ab i cb).ownBlock∨∃b,(Value.slice A9 (i+1) c9).ownBlock=some b∧w.heap.size≤b):=hnx.imp id fun e=>⟨_,e,hk.out.size⟩;have ap2:Hid (∀b,(Value.slice Aa2 (i+1) ca2).ownBlock=some b→(Value.slice A9 (i+1) c9).ownBlock≠some b):=fun b e e2=>by rcases hnx with c | c;(· exact ap.out b e (c▸e2));(· rw[c]at e2;cases e2;have:=(oa.out.lt _ e).2;omega)
    refine hK.out _ _ (⟨hb2.out.cell (j:=0) rfl,hb2.out.cell (j:=1) rfl,hb2.out.cell (j:=2) rfl⟩) (fun _=>?_);clear hK K
    try simp only[Act.put,List.setIfInBounds_toArray,List.set_cons_zero,List.set_cons_succ]
    rw[←hF.out];exact Lx5x7x8x12x14x15 l7 Aa2 ca2 l14 A9 c9 _ hk2 hx2 hb2 oa2 na (Lib.hid hox) nb2 ap2
  exact AllReadyH.nil
 have Lx5x7x12x14:∀(l7:Nat) (l14:Nat) (W:World),Hid (Kp (xb::((Value.slice Aa i ca).ownBlock.toList++(Value.slice Ab i cb).ownBlock.toList)) w W)→Hid (Bk W xb 74 [uv,.slice Aa i ca,.slice Ab i cb])→Hid (Bk W gb 37 [.bool x.1,.string x.2.1,.string x.2.2])→Hid (W.ownsRow B1 29 1 (Value.slice Aa i ca) i hds)→Hid (W.ownsRow B1 37 3 (Value.slice Ab i cb) i cbs)→Hid (∀b,(Value.slice Aa i ca).ownBlock=some b→(Value.slice Ab i cb).ownBlock≠some b)→Hid (W.cell? ⟨l7,0,none⟩=some (.slice (some ⟨rb,0,none⟩) m m)∧w.heap.size≤l7∧l7<W.heap.size)→Hid ((W.cell? ⟨l14,0,none⟩=some (.bool x.1)∧W.cell? ⟨l14,1,none⟩=some (.string x.2.1)∧W.cell? ⟨l14,2,none⟩=some (.string x.2.2))∧w.heap.size≤l14∧l14<W.heap.size)→F 8 #[true,true,true,true,true,true,true,true,false,true,true,true,true,true,true,false,false,false,false,false,false,false] ⟨#[.pointer (some ⟨xb,0,none⟩),c1,c2,c3,c4,c5,c6,c7,c8,.slice (some ⟨rb,0,none⟩) m m,c10,.pointer (some ⟨gb,0,none⟩),c12,c13,c14,c15,c16,c17,c18,c19,c20,c21,c22,c23,c24,c25,c26,c27,c28,c29,c30,c31,c32,c33,c34,c35,c36,c37,c38,c39,c40,c41,c42,c43,c44,c45,c46,c47,c48,c49,c50,c51,c52,c53,c54,c55,c56,c57,c58,c59,c60,c61,c62,c63,c64,c65,c66,c67,c68,c69,c70,c71,c72,c73,c74,c75,c76,c77,c78,c79,c80,c81,c82,c83,c84,c85,c86,.pointer (some ⟨xb,0,none⟩),.pointer (some ⟨xb,0,none⟩),.pointer (some ⟨xb,0,none⟩),.pointer (some ⟨xb,0,none⟩),.pointer (some ⟨xb,1,none⟩),.slice Aa i ca,.slice (some ⟨rb,0,none⟩) m m,.slice (some ⟨l7,0,none⟩) 1 1,a95,.pointer (some ⟨xb,0,none⟩),.pointer (some ⟨xb,0,none⟩),.pointer (some ⟨xb,2,none⟩),.slice Ab i cb,.agg #[.bool x.1,.string x.2.1,.string x.2.2],.slice (some ⟨l14,0,none⟩) 1 1,a102,a103,a104,a105,a106,c107],[]⟩ W:=by
  intro l7 l14 W hk hx hb oa ob ap c7 c14;rw[hF.out];refine wpAnyH_ready (rs:=[8]) (by kernel_rfl) (by simp) ?_;refine AllReadyH.cons (o:=_) rfl (fun K hK=>?_) ?_
  · rw [if_pos (by rfl)];refine Nt.wp_append_new _ _ _ 72 rfl B1 29 i0 (.slice none 0 0) 1 24 Tryz.underlying72 hi0.out z0i0.out z1i0.out z2i0.out rfl (by decide) (.slice Aa i ca) i hds rfl oa.out ⟨l7,0,none⟩ 1 1 [.slice (some ⟨rb,0,none⟩) m m] rfl rfl (one_at c7.out.1) (Ci.one_cell1 _ rfl) (by omega) (by unfold maxLen;omega) (by omega) (Nat.le_trans hB1.out hk.out.size) ?_;intro vx wx hox hgx hnx;obtain⟨A9,c9,rfl⟩:=own_form3 hox;have hb2:=Lib.hid (hb.out.grown hgx (fun e=>nga.out e.symm));have hx2:=Lib.hid (hx.out.grown hgx (fun e=>nxa.out e.symm));have hk2:=Lib.hid (kp_own hk.out hgx hma.out);have ob2:=Lib.hid (ob.out.kept hgx (by cases e:(Value.slice Ab i cb).ownBlock with | none=>exact .inl rfl | some b=>exact .inr (fun e2=>ap.out b e2.symm e)));have na2:Hid ((Value.slice A9 (i+1) c9).ownBlock=(Value.slice Aa i ca).ownBlock∨∃b,(Value.slice A9 (i+1) c9).ownBlock=some b∧w.heap.size≤b):=hnx.imp id fun e=>⟨_,e,hk.out.size⟩;have ap2:Hid (∀b,(Value.slice A9 (i+1) c9).ownBlock=some b→(Value.slice Ab i cb).ownBlock≠some b):=fun b e e2=>by rcases hnx with c | c;(· exact ap.out b (c▸e) e2);(· rw[c]at e;cases e;have:=(ob.out.lt _ e2).2;omega)
    have c142:Hid (((wx.cell? ⟨l14,0,none⟩=some (.bool x.1)∧wx.cell? ⟨l14,1,none⟩=some (.string x.2.1)∧wx.cell? ⟨l14,2,none⟩=some (.string x.2.2))∧w.heap.size≤l14∧l14<wx.heap.size)):=by
     have hblk:=hgx.block l14 c14.out.2.2 (fun e=>by have:=(hla.out _ e.symm).2;have:=c14.out.2.1;omega);exact⟨⟨(World.cell?_of_block (a:=⟨l14,0,none⟩) hblk).trans c14.out.1.1,(World.cell?_of_block (a:=⟨l14,1,none⟩) hblk).trans c14.out.1.2.1,(World.cell?_of_block (a:=⟨l14,2,none⟩) hblk).trans c14.out.1.2.2⟩,c14.out.2.1,Nat.lt_of_lt_of_le c14.out.2.2 hgx.size⟩
    refine hK.out _ _ (⟨hb2.out.cell (j:=0) rfl,hb2.out.cell (j:=1) rfl,hb2.out.cell (j:=2) rfl⟩) (fun _=>?_);clear hK K
    try simp only[Act.put,List.setIfInBounds_toArray,List.set_cons_zero,List.set_cons_succ]
    rw[←hF.out];exact Lx5x7x8x12x14 l7 A9 c9 l14 _ hk2 hx2 hb2 (Lib.hid hox) na2 ob2 ap2 c142
  exact AllReadyH.nil
 have Lx5x7x8x12:∀(l7:Nat) (Aa2:Option Addr) (ca2:Nat) (W:World),Hid (Kp (xb::((Value.slice Aa i ca).ownBlock.toList++(Value.slice Ab i cb).ownBlock.toList)) w W)→Hid (Bk W xb 74 [uv,.slice Aa i ca,.slice Ab i cb])→Hid (Bk W gb 37 [.bool x.1,.string x.2.1,.string x.2.2])→Hid (W.ownsRow B1 29 1 (Value.slice Aa2 (i+1) ca2) (i+1) (hds++[.slice (some ⟨rb,0,none⟩) m m]))→Hid ((Value.slice Aa2 (i+1) ca2).ownBlock=(Value.slice Aa i ca).ownBlock∨∃b,(Value.slice Aa2 (i+1) ca2).ownBlock=some b∧w.heap.size≤b)→Hid (W.ownsRow B1 37 3 (Value.slice Ab i cb) i cbs)→Hid (∀b,(Value.slice Aa2 (i+1) ca2).ownBlock=some b→(Value.slice Ab i cb).ownBlock≠some b)→F 8 #[true,true,true,true,true,true,true,true,true,true,true,true,true,true,false,false,false,false,false,false,false,false] ⟨#[.pointer (some ⟨xb,0,none⟩),c1,c2,c3,c4,c5,c6,c7,c8,.slice (some ⟨rb,0,none⟩) m m,c10,.pointer (some ⟨gb,0,none⟩),c12,c13,c14,c15,c16,c17,c18,c19,c20,c21,c22,c23,c24,c25,c26,c27,c28,c29,c30,c31,c32,c33,c34,c35,c36,c37,c38,c39,c40,c41,c42,c43,c44,c45,c46,c47,c48,c49,c50,c51,c52,c53,c54,c55,c56,c57,c58,c59,c60,c61,c62,c63,c64,c65,c66,c67,c68,c69,c70,c71,c72,c73,c74,c75,c76,c77,c78,c79,c80,c81,c82,c83,c84,c85,c86,.pointer (some ⟨xb,0,none⟩),.pointer (some ⟨xb,0,none⟩),.pointer (some ⟨xb,0,none⟩),.pointer (some ⟨xb,0,none⟩),.pointer (some ⟨xb,1,none⟩),.slice Aa i ca,.slice (some ⟨rb,0,none⟩) m m,.slice (some ⟨l7,0,none⟩) 1 1,.slice Aa2 (i+1) ca2,.pointer (some ⟨xb,0,none⟩),.pointer (some ⟨xb,0,none⟩),.pointer (some ⟨xb,2,none⟩),.slice Ab i cb,.agg #[.bool x.1,.string x.2.1,.string x.2.2],a101,a102,a103,a104,a105,a106,c107],[]⟩ W:=by
  intro l7 Aa2 ca2 W hk hx hb oa na ob ap;rw[hF.out];refine wpAnyH_ready (rs:=[14]) (by kernel_rfl) (by simp) ?_;refine AllReadyH.cons (o:=_) rfl (fun K hK=>?_) ?_
  · go_simp;refine hK.out _ _ (⟨(hb.out.alloc (.cells #[.bool x.1,.string x.2.1,.string x.2.2] 37)).cell (j:=0) rfl,(hb.out.alloc (.cells #[.bool x.1,.string x.2.1,.string x.2.2] 37)).cell (j:=1) rfl,(hb.out.alloc (.cells #[.bool x.1,.string x.2.1,.string x.2.2] 37)).cell (j:=2) rfl⟩) (fun _=>?_);clear hK K
    try simp only[List.setIfInBounds_toArray,List.set_cons_zero,List.set_cons_succ]
    rw[←hF.out];exact Lx5x7x8x12x14 l7 Aa2 ca2 W.heap.size _ (Lib.hid ((hk.out.alloc (.cells #[.bool x.1,.string x.2.1,.string x.2.2] 37)))) (Lib.hid ((hx.out.alloc (.cells #[.bool x.1,.string x.2.1,.string x.2.2] 37)))) (Lib.hid ((hb.out.alloc (.cells #[.bool x.1,.string x.2.1,.string x.2.2] 37)))) (Lib.hid ((oa.out.alloc (.cells #[.bool x.1,.string x.2.1,.string x.2.2] 37)))) (Lib.hid (na.out)) (Lib.hid ((ob.out.alloc (.cells #[.bool x.1,.string x.2.1,.string x.2.2] 37)))) (Lib.hid (ap.out)) (Lib.hid (⟨⟨(Bk.new W 37 [.bool x.1,.string x.2.1,.string x.2.2]).cell (j:=0) rfl,(Bk.new W 37 [.bool x.1,.string x.2.1,.string x.2.2]).cell (j:=1) rfl,(Bk.new W 37 [.bool x.1,.string x.2.1,.string x.2.2]).cell (j:=2) rfl⟩,hk.out.size,by rw[World.size_alloc];exact Nat.lt_succ_self _⟩))
  exact AllReadyH.nil
 have Lx5x7x12:∀(l7:Nat) (W:World),Hid (Kp (xb::((Value.slice Aa i ca).ownBlock.toList++(Value.slice Ab i cb).ownBlock.toList)) w W)→Hid (Bk W xb 74 [uv,.slice Aa i ca,.slice Ab i cb])→Hid (Bk W gb 37 [.bool x.1,.string x.2.1,.string x.2.2])→Hid (W.ownsRow B1 29 1 (Value.slice Aa i ca) i hds)→Hid (W.ownsRow B1 37 3 (Value.slice Ab i cb) i cbs)→Hid (∀b,(Value.slice Aa i ca).ownBlock=some b→(Value.slice Ab i cb).ownBlock≠some b)→Hid (W.cell? ⟨l7,0,none⟩=some (.slice (some ⟨rb,0,none⟩) m m)∧w.heap.size≤l7∧l7<W.heap.size)→F 9 #[true,true,true,true,true,true,true,true,false,true,true,true,true,true,false,false,false,false,false,false,false,false] ⟨#[.pointer (some ⟨xb,0,none⟩),c1,c2,c3,c4,c5,c6,c7,c8,.slice (some ⟨rb,0,none⟩) m m,c10,.pointer (some ⟨gb,0,none⟩),c12,c13,c14,c15,c16,c17,c18,c19,c20,c21,c22,c23,c24,c25,c26,c27,c28,c29,c30,c31,c32,c33,c34,c35,c36,c37,c38,c39,c40,c41,c42,c43,c44,c45,c46,c47,c48,c49,c50,c51,c52,c53,c54,c55,c56,c57,c58,c59,c60,c61,c62,c63,c64,c65,c66,c67,c68,c69,c70,c71,c72,c73,c74,c75,c76,c77,c78,c79,c80,c81,c82,c83,c84,c85,c86,.pointer (some ⟨xb,0,none⟩),.pointer (some ⟨xb,0,none⟩),.pointer (some ⟨xb,0,none⟩),.pointer (some ⟨xb,0,none⟩),.pointer (some ⟨xb,1,none⟩),.slice Aa i ca,.slice (some ⟨rb,0,none⟩) m m,.slice (some ⟨l7,0,none⟩) 1 1,a95,.pointer (some ⟨xb,0,none⟩),.pointer (some ⟨xb,0,none⟩),.pointer (some ⟨xb,2,none⟩),.slice Ab i cb,.agg #[.bool x.1,.string x.2.1,.string x.2.2],a101,a102,a103,a104,a105,a106,c107],[]⟩ W:=by
  intro l7 W hk hx hb oa ob ap c7;rw[hF.out];refine wpAnyH_ready (rs:=[8,14]) (by kernel_rfl) (by simp) ?_;refine AllReadyH.cons (o:=_) rfl (fun K hK=>?_) ?_
  · rw[if_pos (by rfl)];refine Nt.wp_append_new _ _ _ 72 rfl B1 29 i0 (.slice none 0 0) 1 24 Tryz.underlying72 hi0.out z0i0.out z1i0.out z2i0.out rfl (by decide) (.slice Aa i ca) i hds rfl oa.out ⟨l7,0,none⟩ 1 1 [.slice (some ⟨rb,0,none⟩) m m] rfl rfl (one_at c7.out.1) (Ci.one_cell1 _ rfl) (by omega) (by unfold maxLen;omega) (by omega) (Nat.le_trans hB1.out hk.out.size) ?_;intro vx wx hox hgx hnx;obtain⟨A9,c9,rfl⟩:=own_form3 hox;have hb2:=Lib.hid (hb.out.grown hgx (fun e=>nga.out e.symm));have hx2:=Lib.hid (hx.out.grown hgx (fun e=>nxa.out e.symm));have hk2:=Lib.hid (kp_own hk.out hgx hma.out);have ob2:=Lib.hid (ob.out.kept hgx (by cases e:(Value.slice Ab i cb).ownBlock with | none=>exact .inl rfl | some b=>exact .inr (fun e2=>ap.out b e2.symm e)));have na2:Hid ((Value.slice A9 (i+1) c9).ownBlock=(Value.slice Aa i ca).ownBlock∨∃b,(Value.slice A9 (i+1) c9).ownBlock=some b∧w.heap.size≤b):=hnx.imp id fun e=>⟨_,e,hk.out.size⟩;have ap2:Hid (∀b,(Value.slice A9 (i+1) c9).ownBlock=some b→(Value.slice Ab i cb).ownBlock≠some b):=fun b e e2=>by rcases hnx with c | c;(· exact ap.out b (c▸e) e2);(· rw[c]at e;cases e;have:=(ob.out.lt _ e2).2;omega)
    refine hK.out _ _ (⟨hb2.out.cell (j:=0) rfl,hb2.out.cell (j:=1) rfl,hb2.out.cell (j:=2) rfl⟩) (fun _=>?_);clear hK K
    try simp only[Act.put,List.setIfInBounds_toArray,List.set_cons_zero,List.set_cons_succ]
    rw[←hF.out];exact Lx5x7x8x12 l7 A9 c9 _ hk2 hx2 hb2 (Lib.hid hox) na2 ob2 ap2
  refine AllReadyH.cons (o:=_) rfl (fun K hK=>?_) ?_
  · go_simp;refine hK.out _ _ (⟨(hb.out.alloc (.cells #[.bool x.1,.string x.2.1,.string x.2.2] 37)).cell (j:=0) rfl,(hb.out.alloc (.cells #[.bool x.1,.string x.2.1,.string x.2.2] 37)).cell (j:=1) rfl,(hb.out.alloc (.cells #[.bool x.1,.string x.2.1,.string x.2.2] 37)).cell (j:=2) rfl⟩) (fun _=>?_);clear hK K
    try simp only[List.setIfInBounds_toArray,List.set_cons_zero,List.set_cons_succ]
    rw[←hF.out];exact Lx5x7x12x14 l7 W.heap.size _ (Lib.hid ((hk.out.alloc (.cells #[.bool x.1,.string x.2.1,.string x.2.2] 37)))) (Lib.hid ((hx.out.alloc (.cells #[.bool x.1,.string x.2.1,.string x.2.2] 37)))) (Lib.hid ((hb.out.alloc (.cells #[.bool x.1,.string x.2.1,.string x.2.2] 37)))) (Lib.hid ((oa.out.alloc (.cells #[.bool x.1,.string x.2.1,.string x.2.2] 37)))) (Lib.hid ((ob.out.alloc (.cells #[.bool x.1,.string x.2.1,.string x.2.2] 37)))) (Lib.hid (ap.out)) (Lib.hid (⟨(World.cell?_alloc_lt _ _ _ c7.out.2.2).trans c7.out.1,c7.out.2.1,by rw[World.size_alloc];exact Nat.lt_succ_of_lt c7.out.2.2⟩)) (Lib.hid (⟨⟨(Bk.new W 37 [.bool x.1,.string x.2.1,.string x.2.2]).cell (j:=0) rfl,(Bk.new W 37 [.bool x.1,.string x.2.1,.string x.2.2]).cell (j:=1) rfl,(Bk.new W 37 [.bool x.1,.string x.2.1,.string x.2.2]).cell (j:=2) rfl⟩,hk.out.size,by rw[World.size_alloc];exact Nat.lt_succ_self _⟩))
  exact AllReadyH.nil
 have Lx5x7x8x14:∀(l7:Nat) (Aa2:Option Addr) (ca2:Nat) (l14:Nat) (W:World),Hid (Kp (xb::((Value.slice Aa i ca).ownBlock.toList++(Value.slice Ab i cb).ownBlock.toList)) w W)→Hid (Bk W xb 74 [uv,.slice Aa i ca,.slice Ab i cb])→Hid (Bk W gb 37 [.bool x.1,.string x.2.1,.string x.2.2])→Hid (W.ownsRow B1 29 1 (Value.slice Aa2 (i+1) ca2) (i+1) (hds++[.slice (some ⟨rb,0,none⟩) m m]))→Hid ((Value.slice Aa2 (i+1) ca2).ownBlock=(Value.slice Aa i ca).ownBlock∨∃b,(Value.slice Aa2 (i+1) ca2).ownBlock=some b∧w.heap.size≤b)→Hid (W.ownsRow B1 37 3 (Value.slice Ab i cb) i cbs)→Hid (∀b,(Value.slice Aa2 (i+1) ca2).ownBlock=some b→(Value.slice Ab i cb).ownBlock≠some b)→Hid ((W.cell? ⟨l14,0,none⟩=some (.bool x.1)∧W.cell? ⟨l14,1,none⟩=some (.string x.2.1)∧W.cell? ⟨l14,2,none⟩=some (.string x.2.2))∧w.heap.size≤l14∧l14<W.heap.size)→F 8 #[true,true,true,true,true,true,true,true,true,true,true,true,false,true,true,false,false,false,false,false,false,false] ⟨#[.pointer (some ⟨xb,0,none⟩),c1,c2,c3,c4,c5,c6,c7,c8,.slice (some ⟨rb,0,none⟩) m m,c10,.pointer (some ⟨gb,0,none⟩),c12,c13,c14,c15,c16,c17,c18,c19,c20,c21,c22,c23,c24,c25,c26,c27,c28,c29,c30,c31,c32,c33,c34,c35,c36,c37,c38,c39,c40,c41,c42,c43,c44,c45,c46,c47,c48,c49,c50,c51,c52,c53,c54,c55,c56,c57,c58,c59,c60,c61,c62,c63,c64,c65,c66,c67,c68,c69,c70,c71,c72,c73,c74,c75,c76,c77,c78,c79,c80,c81,c82,c83,c84,c85,c86,.pointer (some ⟨xb,0,none⟩),.pointer (some ⟨xb,0,none⟩),.pointer (some ⟨xb,0,none⟩),.pointer (some ⟨xb,0,none⟩),.pointer (some ⟨xb,1,none⟩),.slice Aa i ca,.slice (some ⟨rb,0,none⟩) m m,.slice (some ⟨l7,0,none⟩) 1 1,.slice Aa2 (i+1) ca2,.pointer (some ⟨xb,0,none⟩),.pointer (some ⟨xb,0,none⟩),.pointer (some ⟨xb,2,none⟩),a99,.agg #[.bool x.1,.string x.2.1,.string x.2.2],.slice (some ⟨l14,0,none⟩) 1 1,a102,a103,a104,a105,a106,c107],[]⟩ W:=by
  intro l7 Aa2 ca2 l14 W hk hx hb oa na ob ap c14;rw[hF.out];refine wpAnyH_ready (rs:=[12]) (by kernel_rfl) (by simp) ?_;have x1:=hx.out.cell (j:=2) rfl;have x9:=hx.out.lt;refine AllReadyH.cons (o:=_) rfl (fun K hK=>?_) ?_
  · go_simp;clear x1 x9;refine hK.out _ _ (⟨hb.out.cell (j:=0) rfl,hb.out.cell (j:=1) rfl,hb.out.cell (j:=2) rfl⟩) (fun _=>?_);clear hK K
    try simp only[List.setIfInBounds_toArray,List.set_cons_zero,List.set_cons_succ]
    rw[←hF.out];exact Lx5x7x8x12x14 l7 Aa2 ca2 l14 W hk hx hb oa na ob ap c14
  clear x1 x9;exact AllReadyH.nil
 have Lx5x7x14:∀(l7:Nat) (l14:Nat) (W:World),Hid (Kp (xb::((Value.slice Aa i ca).ownBlock.toList++(Value.slice Ab i cb).ownBlock.toList)) w W)→Hid (Bk W xb 74 [uv,.slice Aa i ca,.slice Ab i cb])→Hid (Bk W gb 37 [.bool x.1,.string x.2.1,.string x.2.2])→Hid (W.ownsRow B1 29 1 (Value.slice Aa i ca) i hds)→Hid (W.ownsRow B1 37 3 (Value.slice Ab i cb) i cbs)→Hid (∀b,(Value.slice Aa i ca).ownBlock=some b→(Value.slice Ab i cb).ownBlock≠some b)→Hid (W.cell? ⟨l7,0,none⟩=some (.slice (some ⟨rb,0,none⟩) m m)∧w.heap.size≤l7∧l7<W.heap.size)→Hid ((W.cell? ⟨l14,0,none⟩=some (.bool x.1)∧W.cell? ⟨l14,1,none⟩=some (.string x.2.1)∧W.cell? ⟨l14,2,none⟩=some (.string x.2.2))∧w.heap.size≤l14∧l14<W.heap.size)→F 9 #[true,true,true,true,true,true,true,true,false,true,true,true,false,true,true,false,false,false,false,false,false,false] ⟨#[.pointer (some ⟨xb,0,none⟩),c1,c2,c3,c4,c5,c6,c7,c8,.slice (some ⟨rb,0,none⟩) m m,c10,.pointer (some ⟨gb,0,none⟩),c12,c13,c14,c15,c16,c17,c18,c19,c20,c21,c22,c23,c24,c25,c26,c27,c28,c29,c30,c31,c32,c33,c34,c35,c36,c37,c38,c39,c40,c41,c42,c43,c44,c45,c46,c47,c48,c49,c50,c51,c52,c53,c54,c55,c56,c57,c58,c59,c60,c61,c62,c63,c64,c65,c66,c67,c68,c69,c70,c71,c72,c73,c74,c75,c76,c77,c78,c79,c80,c81,c82,c83,c84,c85,c86,.pointer (some ⟨xb,0,none⟩),.pointer (some ⟨xb,0,none⟩),.pointer (some ⟨xb,0,none⟩),.pointer (some ⟨xb,0,none⟩),.pointer (some ⟨xb,1,none⟩),.slice Aa i ca,.slice (some ⟨rb,0,none⟩) m m,.slice (some ⟨l7,0,none⟩) 1 1,a95,.pointer (some ⟨xb,0,none⟩),.pointer (some ⟨xb,0,none⟩),.pointer (some ⟨xb,2,none⟩),a99,.agg #[.bool x.1,.string x.2.1,.string x.2.2],.slice (some ⟨l14,0,none⟩) 1 1,a102,a103,a104,a105,a106,c107],[]⟩ W:=by
  intro l7 l14 W hk hx hb oa ob ap c7 c14;rw[hF.out];refine wpAnyH_ready (rs:=[8,12]) (by kernel_rfl) (by simp) ?_;refine AllReadyH.cons (o:=_) rfl (fun K hK=>?_) ?_
  · rw [if_pos (by rfl)];refine Nt.wp_append_new _ _ _ 72 rfl B1 29 i0 (.slice none 0 0) 1 24 Tryz.underlying72 hi0.out z0i0.out z1i0.out z2i0.out rfl (by decide) (.slice Aa i ca) i hds rfl oa.out ⟨l7,0,none⟩ 1 1 [.slice (some ⟨rb,0,none⟩) m m] rfl rfl (one_at c7.out.1) (Ci.one_cell1 _ rfl) (by omega) (by unfold maxLen;omega) (by omega) (Nat.le_trans hB1.out hk.out.size) ?_;intro vx wx hox hgx hnx;obtain⟨A9,c9,rfl⟩:=own_form3 hox;have hb2:=Lib.hid (hb.out.grown hgx (fun e=>nga.out e.symm));have hx2:=Lib.hid (hx.out.grown hgx (fun e=>nxa.out e.symm));have hk2:=Lib.hid (kp_own hk.out hgx hma.out);have ob2:=Lib.hid (ob.out.kept hgx (by cases e:(Value.slice Ab i cb).ownBlock with | none=>exact .inl rfl | some b=>exact .inr (fun e2=>ap.out b e2.symm e)));have na2:Hid ((Value.slice A9 (i+1) c9).ownBlock=(Value.slice Aa i ca).ownBlock∨∃b,(Value.slice A9 (i+1) c9).ownBlock=some b∧w.heap.size≤b):=hnx.imp id fun e=>⟨_,e,hk.out.size⟩;have ap2:Hid (∀b,(Value.slice A9 (i+1) c9).ownBlock=some b→(Value.slice Ab i cb).ownBlock≠some b):=fun b e e2=>by rcases hnx with c | c;(· exact ap.out b (c▸e) e2);(· rw[c]at e;cases e;have:=(ob.out.lt _ e2).2;omega)
    have c142:Hid (((wx.cell? ⟨l14,0,none⟩=some (.bool x.1)∧wx.cell? ⟨l14,1,none⟩=some (.string x.2.1)∧wx.cell? ⟨l14,2,none⟩=some (.string x.2.2))∧w.heap.size≤l14∧l14<wx.heap.size)):=by
     have hblk:=hgx.block l14 c14.out.2.2 (fun e=>by have:=(hla.out _ e.symm).2;have:=c14.out.2.1;omega);exact⟨⟨(World.cell?_of_block (a:=⟨l14,0,none⟩) hblk).trans c14.out.1.1,(World.cell?_of_block (a:=⟨l14,1,none⟩) hblk).trans c14.out.1.2.1,(World.cell?_of_block (a:=⟨l14,2,none⟩) hblk).trans c14.out.1.2.2⟩,c14.out.2.1,Nat.lt_of_lt_of_le c14.out.2.2 hgx.size⟩
    refine hK.out _ _ (⟨hb2.out.cell (j:=0) rfl,hb2.out.cell (j:=1) rfl,hb2.out.cell (j:=2) rfl⟩) (fun _=>?_);clear hK K
    try simp only[Act.put,List.setIfInBounds_toArray,List.set_cons_zero,List.set_cons_succ]
    rw[←hF.out];exact Lx5x7x8x14 l7 A9 c9 l14 _ hk2 hx2 hb2 (Lib.hid hox) na2 ob2 ap2 c142
  have x1:=hx.out.cell (j:=2) rfl;have x9:=hx.out.lt;refine AllReadyH.cons (o:=_) rfl (fun K hK=>?_) ?_
  · go_simp;clear x1 x9;refine hK.out _ _ (⟨hb.out.cell (j:=0) rfl,hb.out.cell (j:=1) rfl,hb.out.cell (j:=2) rfl⟩) (fun _=>?_);clear hK K
    try simp only[List.setIfInBounds_toArray,List.set_cons_zero,List.set_cons_succ]
    rw[←hF.out];exact Lx5x7x12x14 l7 l14 W hk hx hb oa ob ap c7 c14
  clear x1 x9;exact AllReadyH.nil
 have Lx5x7x8:∀(l7:Nat) (Aa2:Option Addr) (ca2:Nat) (W:World),Hid (Kp (xb::((Value.slice Aa i ca).ownBlock.toList++(Value.slice Ab i cb).ownBlock.toList)) w W)→Hid (Bk W xb 74 [uv,.slice Aa i ca,.slice Ab i cb])→Hid (Bk W gb 37 [.bool x.1,.string x.2.1,.string x.2.2])→Hid (W.ownsRow B1 29 1 (Value.slice Aa2 (i+1) ca2) (i+1) (hds++[.slice (some ⟨rb,0,none⟩) m m]))→Hid ((Value.slice Aa2 (i+1) ca2).ownBlock=(Value.slice Aa i ca).ownBlock∨∃b,(Value.slice Aa2 (i+1) ca2).ownBlock=some b∧w.heap.size≤b)→Hid (W.ownsRow B1 37 3 (Value.slice Ab i cb) i cbs)→Hid (∀b,(Value.slice Aa2 (i+1) ca2).ownBlock=some b→(Value.slice Ab i cb).ownBlock≠some b)→F 9 #[true,true,true,true,true,true,true,true,true,true,true,true,false,true,false,false,false,false,false,false,false,false] ⟨#[.pointer (some ⟨xb,0,none⟩),c1,c2,c3,c4,c5,c6,c7,c8,.slice (some ⟨rb,0,none⟩) m m,c10,.pointer (some ⟨gb,0,none⟩),c12,c13,c14,c15,c16,c17,c18,c19,c20,c21,c22,c23,c24,c25,c26,c27,c28,c29,c30,c31,c32,c33,c34,c35,c36,c37,c38,c39,c40,c41,c42,c43,c44,c45,c46,c47,c48,c49,c50,c51,c52,c53,c54,c55,c56,c57,c58,c59,c60,c61,c62,c63,c64,c65,c66,c67,c68,c69,c70,c71,c72,c73,c74,c75,c76,c77,c78,c79,c80,c81,c82,c83,c84,c85,c86,.pointer (some ⟨xb,0,none⟩),.pointer (some ⟨xb,0,none⟩),.pointer (some ⟨xb,0,none⟩),.pointer (some ⟨xb,0,none⟩),.pointer (some ⟨xb,1,none⟩),.slice Aa i ca,.slice (some ⟨rb,0,none⟩) m m,.slice (some ⟨l7,0,none⟩) 1 1,.slice Aa2 (i+1) ca2,.pointer (some ⟨xb,0,none⟩),.pointer (some ⟨xb,0,none⟩),.pointer (some ⟨xb,2,none⟩),a99,.agg #[.bool x.1,.string x.2.1,.string x.2.2],a101,a102,a103,a104,a105,a106,c107],[]⟩ W:=by
  intro l7 Aa2 ca2 W hk hx hb oa na ob ap;rw[hF.out];refine wpAnyH_ready (rs:=[12,14]) (by kernel_rfl) (by simp) ?_;have x1:=hx.out.cell (j:=2) rfl;have x9:=hx.out.lt;refine AllReadyH.cons (o:=_) rfl (fun K hK=>?_) ?_
  · go_simp;clear x1 x9;refine hK.out _ _ (⟨hb.out.cell (j:=0) rfl,hb.out.cell (j:=1) rfl,hb.out.cell (j:=2) rfl⟩) (fun _=>?_);clear hK K
    try simp only[List.setIfInBounds_toArray,List.set_cons_zero,List.set_cons_succ]
    rw[←hF.out];exact Lx5x7x8x12 l7 Aa2 ca2 W hk hx hb oa na ob ap
  clear x1 x9;refine AllReadyH.cons (o:=_) rfl (fun K hK=>?_) ?_
  · go_simp;refine hK.out _ _ (⟨(hb.out.alloc (.cells #[.bool x.1,.string x.2.1,.string x.2.2] 37)).cell (j:=0) rfl,(hb.out.alloc (.cells #[.bool x.1,.string x.2.1,.string x.2.2] 37)).cell (j:=1) rfl,(hb.out.alloc (.cells #[.bool x.1,.string x.2.1,.string x.2.2] 37)).cell (j:=2) rfl⟩) (fun _=>?_);clear hK K
    try simp only[List.setIfInBounds_toArray,List.set_cons_zero,List.set_cons_succ]
    rw[←hF.out];exact Lx5x7x8x14 l7 Aa2 ca2 W.heap.size _ (Lib.hid ((hk.out.alloc (.cells #[.bool x.1,.string x.2.1,.string x.2.2] 37)))) (Lib.hid ((hx.out.alloc (.cells #[.bool x.1,.string x.2.1,.string x.2.2] 37)))) (Lib.hid ((hb.out.alloc (.cells #[.bool x.1,.string x.2.1,.string x.2.2] 37)))) (Lib.hid ((oa.out.alloc (.cells #[.bool x.1,.string x.2.1,.string x.2.2] 37)))) (Lib.hid (na.out)) (Lib.hid ((ob.out.alloc (.cells #[.bool x.1,.string x.2.1,.string x.2.2] 37)))) (Lib.hid (ap.out)) (Lib.hid (⟨⟨(Bk.new W 37 [.bool x.1,.string x.2.1,.string x.2.2]).cell (j:=0) rfl,(Bk.new W 37 [.bool x.1,.string x.2.1,.string x.2.2]).cell (j:=1) rfl,(Bk.new W 37 [.bool x.1,.string x.2.1,.string x.2.2]).cell (j:=2) rfl⟩,hk.out.size,by rw[World.size_alloc];exact Nat.lt_succ_self _⟩))
  exact AllReadyH.nil
 have Lx5x7:∀(l7:Nat) (W:World),Hid (Kp (xb::((Value.slice Aa i ca).ownBlock.toList++(Value.slice Ab i cb).ownBlock.toList)) w W)→Hid (Bk W xb 74 [uv,.slice Aa i ca,.slice Ab i cb])→Hid (Bk W gb 37 [.bool x.1,.string x.2.1,.string x.2.2])→Hid (W.ownsRow B1 29 1 (Value.slice Aa i ca) i hds)→Hid (W.ownsRow B1 37 3 (Value.slice Ab i cb) i cbs)→Hid (∀b,(Value.slice Aa i ca).ownBlock=some b→(Value.slice Ab i cb).ownBlock≠some b)→Hid (W.cell? ⟨l7,0,none⟩=some (.slice (some ⟨rb,0,none⟩) m m)∧w.heap.size≤l7∧l7<W.heap.size)→F 10 #[true,true,true,true,true,true,true,true,false,true,true,true,false,true,false,false,false,false,false,false,false,false] ⟨#[.pointer (some ⟨xb,0,none⟩),c1,c2,c3,c4,c5,c6,c7,c8,.slice (some ⟨rb,0,none⟩) m m,c10,.pointer (some ⟨gb,0,none⟩),c12,c13,c14,c15,c16,c17,c18,c19,c20,c21,c22,c23,c24,c25,c26,c27,c28,c29,c30,c31,c32,c33,c34,c35,c36,c37,c38,c39,c40,c41,c42,c43,c44,c45,c46,c47,c48,c49,c50,c51,c52,c53,c54,c55,c56,c57,c58,c59,c60,c61,c62,c63,c64,c65,c66,c67,c68,c69,c70,c71,c72,c73,c74,c75,c76,c77,c78,c79,c80,c81,c82,c83,c84,c85,c86,.pointer (some ⟨xb,0,none⟩),.pointer (some ⟨xb,0,none⟩),.pointer (some ⟨xb,0,none⟩),.pointer (some ⟨xb,0,none⟩),.pointer (some ⟨xb,1,none⟩),.slice Aa i ca,.slice (some ⟨rb,0,none⟩) m m,.slice (some ⟨l7,0,none⟩) 1 1,a95,.pointer (some ⟨xb,0,none⟩),.pointer (some ⟨xb,0,none⟩),.pointer (some ⟨xb,2,none⟩),a99,.agg #[.bool x.1,.string x.2.1,.string x.2.2],a101,a102,a103,a104,a105,a106,c107],[]⟩ W:=by
  intro l7 W hk hx hb oa ob ap c7;rw[hF.out];refine wpAnyH_ready (rs:=[8,12,14]) (by kernel_rfl) (by simp) ?_;refine AllReadyH.cons (o:=_) rfl (fun K hK=>?_) ?_
  · rw[if_pos (by rfl)];refine Nt.wp_append_new _ _ _ 72 rfl B1 29 i0 (.slice none 0 0) 1 24 Tryz.underlying72 hi0.out z0i0.out z1i0.out z2i0.out rfl (by decide) (.slice Aa i ca) i hds rfl oa.out ⟨l7,0,none⟩ 1 1 [.slice (some ⟨rb,0,none⟩) m m] rfl rfl (one_at c7.out.1) (Ci.one_cell1 _ rfl) (by omega) (by unfold maxLen;omega) (by omega) (Nat.le_trans hB1.out hk.out.size) ?_;intro vx wx hox hgx hnx;obtain⟨A9,c9,rfl⟩:=own_form3 hox;have hb2:=Lib.hid (hb.out.grown hgx (fun e=>nga.out e.symm));have hx2:=Lib.hid (hx.out.grown hgx (fun e=>nxa.out e.symm));have hk2:=Lib.hid (kp_own hk.out hgx hma.out);have ob2:=Lib.hid (ob.out.kept hgx (by cases e:(Value.slice Ab i cb).ownBlock with | none=>exact .inl rfl | some b=>exact .inr (fun e2=>ap.out b e2.symm e)));have na2:Hid ((Value.slice A9 (i+1) c9).ownBlock=(Value.slice Aa i ca).ownBlock∨∃b,(Value.slice A9 (i+1) c9).ownBlock=some b∧w.heap.size≤b):=hnx.imp id fun e=>⟨_,e,hk.out.size⟩;have ap2:Hid (∀b,(Value.slice A9 (i+1) c9).ownBlock=some b→(Value.slice Ab i cb).ownBlock≠some b):=fun b e e2=>by rcases hnx with c | c;(· exact ap.out b (c▸e) e2);(· rw[c]at e;cases e;have:=(ob.out.lt _ e2).2;omega)
    refine hK.out _ _ (⟨hb2.out.cell (j:=0) rfl,hb2.out.cell (j:=1) rfl,hb2.out.cell (j:=2) rfl⟩) (fun _=>?_);clear hK K
    try simp only[Act.put,List.setIfInBounds_toArray,List.set_cons_zero,List.set_cons_succ]
    rw[←hF.out];exact Lx5x7x8 l7 A9 c9 _ hk2 hx2 hb2 (Lib.hid hox) na2 ob2 ap2
  have x1:=hx.out.cell (j:=2) rfl;have x9:=hx.out.lt;refine AllReadyH.cons (o:=_) rfl (fun K hK=>?_) ?_
  · go_simp;clear x1 x9;refine hK.out _ _ (⟨hb.out.cell (j:=0) rfl,hb.out.cell (j:=1) rfl,hb.out.cell (j:=2) rfl⟩) (fun _=>?_);clear hK K
    try simp only[List.setIfInBounds_toArray,List.set_cons_zero,List.set_cons_succ]
    rw[←hF.out];exact Lx5x7x12 l7 W hk hx hb oa ob ap c7
  clear x1 x9;refine AllReadyH.cons (o:=_) rfl (fun K hK=>?_) ?_
  · go_simp;refine hK.out _ _ (⟨(hb.out.alloc (.cells #[.bool x.1,.string x.2.1,.string x.2.2] 37)).cell (j:=0) rfl,(hb.out.alloc (.cells #[.bool x.1,.string x.2.1,.string x.2.2] 37)).cell (j:=1) rfl,(hb.out.alloc (.cells #[.bool x.1,.string x.2.1,.string x.2.2] 37)).cell (j:=2) rfl⟩) (fun _=>?_);clear hK K
    try simp only[List.setIfInBounds_toArray,List.set_cons_zero,List.set_cons_succ]
    rw[←hF.out];exact Lx5x7x14 l7 W.heap.size _ (Lib.hid ((hk.out.alloc (.cells #[.bool x.1,.string x.2.1,.string x.2.2] 37)))) (Lib.hid ((hx.out.alloc (.cells #[.bool x.1,.string x.2.1,.string x.2.2] 37)))) (Lib.hid ((hb.out.alloc (.cells #[.bool x.1,.string x.2.1,.string x.2.2] 37)))) (Lib.hid ((oa.out.alloc (.cells #[.bool x.1,.string x.2.1,.string x.2.2] 37)))) (Lib.hid ((ob.out.alloc (.cells #[.bool x.1,.string x.2.1,.string x.2.2] 37)))) (Lib.hid (ap.out)) (Lib.hid (⟨(World.cell?_alloc_lt _ _ _ c7.out.2.2).trans c7.out.1,c7.out.2.1,by rw[World.size_alloc];exact Nat.lt_succ_of_lt c7.out.2.2⟩)) (Lib.hid (⟨⟨(Bk.new W 37 [.bool x.1,.string x.2.1,.string x.2.2]).cell (j:=0) rfl,(Bk.new W 37 [.bool x.1,.string x.2.1,.string x.2.2]).cell (j:=1) rfl,(Bk.new W 37 [.bool x.1,.string x.2.1,.string x.2.2]).cell (j:=2) rfl⟩,hk.out.size,by rw[World.size_alloc];exact Nat.lt_succ_self _⟩))
  exact AllReadyH.nil
 have Lx5x12x14:∀(l14:Nat) (W:World),Hid (Kp (xb::((Value.slice Aa i ca).ownBlock.toList++(Value.slice Ab i cb).ownBlock.toList)) w W)→Hid (Bk W xb 74 [uv,.slice Aa i ca,.slice Ab i cb])→Hid (Bk W gb 37 [.bool x.1,.string x.2.1,.string x.2.2])→Hid (W.ownsRow B1 29 1 (Value.slice Aa i ca) i hds)→Hid (W.ownsRow B1 37 3 (Value.slice Ab i cb) i cbs)→Hid (∀b,(Value.slice Aa i ca).ownBlock=some b→(Value.slice Ab i cb).ownBlock≠some b)→Hid ((W.cell? ⟨l14,0,none⟩=some (.bool x.1)∧W.cell? ⟨l14,1,none⟩=some (.string x.2.1)∧W.cell? ⟨l14,2,none⟩=some (.string x.2.2))∧w.heap.size≤l14∧l14<W.heap.size)→F 9 #[true,true,true,true,true,true,true,false,false,true,true,true,true,true,true,false,false,false,false,false,false,false] ⟨#[.pointer (some ⟨xb,0,none⟩),c1,c2,c3,c4,c5,c6,c7,c8,.slice (some ⟨rb,0,none⟩) m m,c10,.pointer (some ⟨gb,0,none⟩),c12,c13,c14,c15,c16,c17,c18,c19,c20,c21,c22,c23,c24,c25,c26,c27,c28,c29,c30,c31,c32,c33,c34,c35,c36,c37,c38,c39,c40,c41,c42,c43,c44,c45,c46,c47,c48,c49,c50,c51,c52,c53,c54,c55,c56,c57,c58,c59,c60,c61,c62,c63,c64,c65,c66,c67,c68,c69,c70,c71,c72,c73,c74,c75,c76,c77,c78,c79,c80,c81,c82,c83,c84,c85,c86,.pointer (some ⟨xb,0,none⟩),.pointer (some ⟨xb,0,none⟩),.pointer (some ⟨xb,0,none⟩),.pointer (some ⟨xb,0,none⟩),.pointer (some ⟨xb,1,none⟩),.slice Aa i ca,.slice (some ⟨rb,0,none⟩) m m,a94,a95,.pointer (some ⟨xb,0,none⟩),.pointer (some ⟨xb,0,none⟩),.pointer (some ⟨xb,2,none⟩),.slice Ab i cb,.agg #[.bool x.1,.string x.2.1,.string x.2.2],.slice (some ⟨l14,0,none⟩) 1 1,a102,a103,a104,a105,a106,c107],[]⟩ W:=by
  intro l14 W hk hx hb oa ob ap c14;rw[hF.out];refine wpAnyH_ready (rs:=[7]) (by kernel_rfl) (by simp) ?_;refine AllReadyH.cons (o:=_) rfl (fun K hK=>?_) ?_
  · go_simp;refine hK.out _ _ (⟨(hb.out.alloc (.cells #[.slice (some ⟨rb,0,none⟩) m m] 29)).cell (j:=0) rfl,(hb.out.alloc (.cells #[.slice (some ⟨rb,0,none⟩) m m] 29)).cell (j:=1) rfl,(hb.out.alloc (.cells #[.slice (some ⟨rb,0,none⟩) m m] 29)).cell (j:=2) rfl⟩) (fun _=>?_);clear hK K
    try simp only[List.setIfInBounds_toArray,List.set_cons_zero,List.set_cons_succ]
    rw[←hF.out];exact Lx5x7x12x14 W.heap.size l14 _ (Lib.hid ((hk.out.alloc (.cells #[.slice (some ⟨rb,0,none⟩) m m] 29)))) (Lib.hid ((hx.out.alloc (.cells #[.slice (some ⟨rb,0,none⟩) m m] 29)))) (Lib.hid ((hb.out.alloc (.cells #[.slice (some ⟨rb,0,none⟩) m m] 29)))) (Lib.hid ((oa.out.alloc (.cells #[.slice (some ⟨rb,0,none⟩) m m] 29)))) (Lib.hid ((ob.out.alloc (.cells #[.slice (some ⟨rb,0,none⟩) m m] 29)))) (Lib.hid (ap.out)) (Lib.hid (⟨(Bk.new W 29 [.slice (some ⟨rb,0,none⟩) m m]).cell (j:=0) rfl,hk.out.size,by rw[World.size_alloc];exact Nat.lt_succ_self _⟩)) (Lib.hid (⟨⟨(World.cell?_alloc_lt _ _ _ c14.out.2.2).trans c14.out.1.1,(World.cell?_alloc_lt _ _ _ c14.out.2.2).trans c14.out.1.2.1,(World.cell?_alloc_lt _ _ _ c14.out.2.2).trans c14.out.1.2.2⟩,c14.out.2.1,by rw[World.size_alloc];exact Nat.lt_succ_of_lt c14.out.2.2⟩))
  exact AllReadyH.nil
 have Lx5x12:∀(W:World),Hid (Kp (xb::((Value.slice Aa i ca).ownBlock.toList++(Value.slice Ab i cb).ownBlock.toList)) w W)→Hid (Bk W xb 74 [uv,.slice Aa i ca,.slice Ab i cb])→Hid (Bk W gb 37 [.bool x.1,.string x.2.1,.string x.2.2])→Hid (W.ownsRow B1 29 1 (Value.slice Aa i ca) i hds)→Hid (W.ownsRow B1 37 3 (Value.slice Ab i cb) i cbs)→Hid (∀b,(Value.slice Aa i ca).ownBlock=some b→(Value.slice Ab i cb).ownBlock≠some b)→F 10 #[true,true,true,true,true,true,true,false,false,true,true,true,true,true,false,false,false,false,false,false,false,false] ⟨#[.pointer (some ⟨xb,0,none⟩),c1,c2,c3,c4,c5,c6,c7,c8,.slice (some ⟨rb,0,none⟩) m m,c10,.pointer (some ⟨gb,0,none⟩),c12,c13,c14,c15,c16,c17,c18,c19,c20,c21,c22,c23,c24,c25,c26,c27,c28,c29,c30,c31,c32,c33,c34,c35,c36,c37,c38,c39,c40,c41,c42,c43,c44,c45,c46,c47,c48,c49,c50,c51,c52,c53,c54,c55,c56,c57,c58,c59,c60,c61,c62,c63,c64,c65,c66,c67,c68,c69,c70,c71,c72,c73,c74,c75,c76,c77,c78,c79,c80,c81,c82,c83,c84,c85,c86,.pointer (some ⟨xb,0,none⟩),.pointer (some ⟨xb,0,none⟩),.pointer (some ⟨xb,0,none⟩),.pointer (some ⟨xb,0,none⟩),.pointer (some ⟨xb,1,none⟩),.slice Aa i ca,.slice (some ⟨rb,0,none⟩) m m,a94,a95,.pointer (some ⟨xb,0,none⟩),.pointer (some ⟨xb,0,none⟩),.pointer (some ⟨xb,2,none⟩),.slice Ab i cb,.agg #[.bool x.1,.string x.2.1,.string x.2.2],a101,a102,a103,a104,a105,a106,c107],[]⟩ W:=by
  intro  W hk hx hb oa ob ap;rw[hF.out];refine wpAnyH_ready (rs:=[7,14]) (by kernel_rfl) (by simp) ?_;refine AllReadyH.cons (o:=_) rfl (fun K hK=>?_) ?_
  · go_simp;refine hK.out _ _ (⟨(hb.out.alloc (.cells #[.slice (some ⟨rb,0,none⟩) m m] 29)).cell (j:=0) rfl,(hb.out.alloc (.cells #[.slice (some ⟨rb,0,none⟩) m m] 29)).cell (j:=1) rfl,(hb.out.alloc (.cells #[.slice (some ⟨rb,0,none⟩) m m] 29)).cell (j:=2) rfl⟩) (fun _=>?_);clear hK K
    try simp only[List.setIfInBounds_toArray,List.set_cons_zero,List.set_cons_succ]
    rw[←hF.out];exact Lx5x7x12 W.heap.size _ (Lib.hid ((hk.out.alloc (.cells #[.slice (some ⟨rb,0,none⟩) m m] 29)))) (Lib.hid ((hx.out.alloc (.cells #[.slice (some ⟨rb,0,none⟩) m m] 29)))) (Lib.hid ((hb.out.alloc (.cells #[.slice (some ⟨rb,0,none⟩) m m] 29)))) (Lib.hid ((oa.out.alloc (.cells #[.slice (some ⟨rb,0,none⟩) m m] 29)))) (Lib.hid ((ob.out.alloc (.cells #[.slice (some ⟨rb,0,none⟩) m m] 29)))) (Lib.hid (ap.out)) (Lib.hid (⟨(Bk.new W 29 [.slice (some ⟨rb,0,none⟩) m m]).cell (j:=0) rfl,hk.out.size,by rw[World.size_alloc];exact Nat.lt_succ_self _⟩))
  refine AllReadyH.cons (o:=_) rfl (fun K hK=>?_) ?_
  · go_simp;refine hK.out _ _ (⟨(hb.out.alloc (.cells #[.bool x.1,.string x.2.1,.string x.2.2] 37)).cell (j:=0) rfl,(hb.out.alloc (.cells #[.bool x.1,.string x.2.1,.string x.2.2] 37)).cell (j:=1) rfl,(hb.out.alloc (.cells #[.bool x.1,.string x.2.1,.string x.2.2] 37)).cell (j:=2) rfl⟩) (fun _=>?_);clear hK K
    try simp only[List.setIfInBounds_toArray,List.set_cons_zero,List.set_cons_succ]
    rw[←hF.out];exact Lx5x12x14 W.heap.size _ (Lib.hid ((hk.out.alloc (.cells #[.bool x.1,.string x.2.1,.string x.2.2] 37)))) (Lib.hid ((hx.out.alloc (.cells #[.bool x.1,.string x.2.1,.string x.2.2] 37)))) (Lib.hid ((hb.out.alloc (.cells #[.bool x.1,.string x.2.1,.string x.2.2] 37)))) (Lib.hid ((oa.out.alloc (.cells #[.bool x.1,.string x.2.1,.string x.2.2] 37)))) (Lib.hid ((ob.out.alloc (.cells #[.bool x.1,.string x.2.1,.string x.2.2] 37)))) (Lib.hid (ap.out)) (Lib.hid (⟨⟨(Bk.new W 37 [.bool x.1,.string x.2.1,.string x.2.2]).cell (j:=0) rfl,(Bk.new W 37 [.bool x.1,.string x.2.1,.string x.2.2]).cell (j:=1) rfl,(Bk.new W 37 [.bool x.1,.string x.2.1,.string x.2.2]).cell (j:=2) rfl⟩,hk.out.size,by rw[World.size_alloc];exact Nat.lt_succ_self _⟩))
  exact AllReadyH.nil
 have Lx5x14:∀(l14:Nat) (W:World),Hid (Kp (xb::((Value.slice Aa i ca).ownBlock.toList++(Value.slice Ab i cb).ownBlock.toList)) w W)→Hid (Bk W xb 74 [uv,.slice Aa i ca,.slice Ab i cb])→Hid (Bk W gb 37 [.bool x.1,.string x.2.1,.string x.2.2])→Hid (W.ownsRow B1 29 1 (Value.slice Aa i ca) i hds)→Hid (W.ownsRow B1 37 3 (Value.slice Ab i cb) i cbs)→Hid (∀b,(Value.slice Aa i ca).ownBlock=some b→(Value.slice Ab i cb).ownBlock≠some b)→Hid ((W.cell? ⟨l14,0,none⟩=some (.bool x.1)∧W.cell? ⟨l14,1,none⟩=some (.string x.2.1)∧W.cell? ⟨l14,2,none⟩=some (.string x.2.2))∧w.heap.size≤l14∧l14<W.heap.size)→F 10 #[true,true,true,true,true,true,true,false,false,true,true,true,false,true,true,false,false,false,false,false,false,false] ⟨#[.pointer (some ⟨xb,0,none⟩),c1,c2,c3,c4,c5,c6,c7,c8,.slice (some ⟨rb,0,none⟩) m m,c10,.pointer (some ⟨gb,0,none⟩),c12,c13,c14,c15,c16,c17,c18,c19,c20,c21,c22,c23,c24,c25,c26,c27,c28,c29,c30,c31,c32,c33,c34,c35,c36,c37,c38,c39,c40,c41,c42,c43,c44,c45,c46,c47,c48,c49,c50,c51,c52,c53,c54,c55,c56,c57,c58,c59,c60,c61,c62,c63,c64,c65,c66,c67,c68,c69,c70,c71,c72,c73,c74,c75,c76,c77,c78,c79,c80,c81,c82,c83,c84,c85,c86,.pointer (some ⟨xb,0,none⟩),.pointer (some ⟨xb,0,none⟩),.pointer (some ⟨xb,0,none⟩),.pointer (some ⟨xb,0,none⟩),.pointer (some ⟨xb,1,none⟩),.slice Aa i ca,.slice (some ⟨rb,0,none⟩) m m,a94,a95,.pointer (some ⟨xb,0,none⟩),.pointer (some ⟨xb,0,none⟩),.pointer (some ⟨xb,2,none⟩),a99,.agg #[.bool x.1,.string x.2.1,.string x.2.2],.slice (some ⟨l14,0,none⟩) 1 1,a102,a103,a104,a105,a106,c107],[]⟩ W:=by
  intro l14 W hk hx hb oa ob ap c14;rw[hF.out];refine wpAnyH_ready (rs:=[7,12]) (by kernel_rfl) (by simp) ?_;refine AllReadyH.cons (o:=_) rfl (fun K hK=>?_) ?_
  · go_simp;refine hK.out _ _ (⟨(hb.out.alloc (.cells #[.slice (some ⟨rb,0,none⟩) m m] 29)).cell (j:=0) rfl,(hb.out.alloc (.cells #[.slice (some ⟨rb,0,none⟩) m m] 29)).cell (j:=1) rfl,(hb.out.alloc (.cells #[.slice (some ⟨rb,0,none⟩) m m] 29)).cell (j:=2) rfl⟩) (fun _=>?_);clear hK K
    try simp only[List.setIfInBounds_toArray,List.set_cons_zero,List.set_cons_succ]
    rw[←hF.out];exact Lx5x7x14 W.heap.size l14 _ (Lib.hid ((hk.out.alloc (.cells #[.slice (some ⟨rb,0,none⟩) m m] 29)))) (Lib.hid ((hx.out.alloc (.cells #[.slice (some ⟨rb,0,none⟩) m m] 29)))) (Lib.hid ((hb.out.alloc (.cells #[.slice (some ⟨rb,0,none⟩) m m] 29)))) (Lib.hid ((oa.out.alloc (.cells #[.slice (some ⟨rb,0,none⟩) m m] 29)))) (Lib.hid ((ob.out.alloc (.cells #[.slice (some ⟨rb,0,none⟩) m m] 29)))) (Lib.hid (ap.out)) (Lib.hid (⟨(Bk.new W 29 [.slice (some ⟨rb,0,none⟩) m m]).cell (j:=0) rfl,hk.out.size,by rw[World.size_alloc];exact Nat.lt_succ_self _⟩)) (Lib.hid (⟨⟨(World.cell?_alloc_lt _ _ _ c14.out.2.2).trans c14.out.1.1,(World.cell?_alloc_lt _ _ _ c14.out.2.2).trans c14.out.1.2.1,(World.cell?_alloc_lt _ _ _ c14.out.2.2).trans c14.out.1.2.2⟩,c14.out.2.1,by rw[World.size_alloc];exact Nat.lt_succ_of_lt c14.out.2.2⟩))
  have x1:=hx.out.cell (j:=2) rfl;have x9:=hx.out.lt;refine AllReadyH.cons (o:=_) rfl (fun K hK=>?_) ?_
  · go_simp;clear x1 x9;refine hK.out _ _ (⟨hb.out.cell (j:=0) rfl,hb.out.cell (j:=1) rfl,hb.out.cell (j:=2) rfl⟩) (fun _=>?_);clear hK K
    try simp only[List.setIfInBounds_toArray,List.set_cons_zero,List.set_cons_succ]
    rw[←hF.out];exact Lx5x12x14 l14 W hk hx hb oa ob ap c14
  clear x1 x9;exact AllReadyH.nil
 have Lx5:∀(W:World),Hid (Kp (xb::((Value.slice Aa i ca).ownBlock.toList++(Value.slice Ab i cb).ownBlock.toList)) w W)→Hid (Bk W xb 74 [uv,.slice Aa i ca,.slice Ab i cb])→Hid (Bk W gb 37 [.bool x.1,.string x.2.1,.string x.2.2])→Hid (W.ownsRow B1 29 1 (Value.slice Aa i ca) i hds)→Hid (W.ownsRow B1 37 3 (Value.slice Ab i cb) i cbs)→Hid (∀b,(Value.slice Aa i ca).ownBlock=some b→(Value.slice Ab i cb).ownBlock≠some b)→F 11 #[true,true,true,true,true,true,true,false,false,true,true,true,false,true,false,false,false,false,false,false,false,false] ⟨#[.pointer (some ⟨xb,0,none⟩),c1,c2,c3,c4,c5,c6,c7,c8,.slice (some ⟨rb,0,none⟩) m m,c10,.pointer (some ⟨gb,0,none⟩),c12,c13,c14,c15,c16,c17,c18,c19,c20,c21,c22,c23,c24,c25,c26,c27,c28,c29,c30,c31,c32,c33,c34,c35,c36,c37,c38,c39,c40,c41,c42,c43,c44,c45,c46,c47,c48,c49,c50,c51,c52,c53,c54,c55,c56,c57,c58,c59,c60,c61,c62,c63,c64,c65,c66,c67,c68,c69,c70,c71,c72,c73,c74,c75,c76,c77,c78,c79,c80,c81,c82,c83,c84,c85,c86,.pointer (some ⟨xb,0,none⟩),.pointer (some ⟨xb,0,none⟩),.pointer (some ⟨xb,0,none⟩),.pointer (some ⟨xb,0,none⟩),.pointer (some ⟨xb,1,none⟩),.slice Aa i ca,.slice (some ⟨rb,0,none⟩) m m,a94,a95,.pointer (some ⟨xb,0,none⟩),.pointer (some ⟨xb,0,none⟩),.pointer (some ⟨xb,2,none⟩),a99,.agg #[.bool x.1,.string x.2.1,.string x.2.2],a101,a102,a103,a104,a105,a106,c107],[]⟩ W:=by
  intro  W hk hx hb oa ob ap;rw[hF.out];refine wpAnyH_ready (rs:=[7,12,14]) (by kernel_rfl) (by simp) ?_;refine AllReadyH.cons (o:=_) rfl (fun K hK=>?_) ?_
  · go_simp;refine hK.out _ _ (⟨(hb.out.alloc (.cells #[.slice (some ⟨rb,0,none⟩) m m] 29)).cell (j:=0) rfl,(hb.out.alloc (.cells #[.slice (some ⟨rb,0,none⟩) m m] 29)).cell (j:=1) rfl,(hb.out.alloc (.cells #[.slice (some ⟨rb,0,none⟩) m m] 29)).cell (j:=2) rfl⟩) (fun _=>?_);clear hK K
    try simp only[List.setIfInBounds_toArray,List.set_cons_zero,List.set_cons_succ]
    rw[←hF.out];exact Lx5x7 W.heap.size _ (Lib.hid ((hk.out.alloc (.cells #[.slice (some ⟨rb,0,none⟩) m m] 29)))) (Lib.hid ((hx.out.alloc (.cells #[.slice (some ⟨rb,0,none⟩) m m] 29)))) (Lib.hid ((hb.out.alloc (.cells #[.slice (some ⟨rb,0,none⟩) m m] 29)))) (Lib.hid ((oa.out.alloc (.cells #[.slice (some ⟨rb,0,none⟩) m m] 29)))) (Lib.hid ((ob.out.alloc (.cells #[.slice (some ⟨rb,0,none⟩) m m] 29)))) (Lib.hid (ap.out)) (Lib.hid (⟨(Bk.new W 29 [.slice (some ⟨rb,0,none⟩) m m]).cell (j:=0) rfl,hk.out.size,by rw[World.size_alloc];exact Nat.lt_succ_self _⟩))
  have x1:=hx.out.cell (j:=2) rfl;have x9:=hx.out.lt;refine AllReadyH.cons (o:=_) rfl (fun K hK=>?_) ?_
  · go_simp;clear x1 x9;refine hK.out _ _ (⟨hb.out.cell (j:=0) rfl,hb.out.cell (j:=1) rfl,hb.out.cell (j:=2) rfl⟩) (fun _=>?_);clear hK K
    try simp only[List.setIfInBounds_toArray,List.set_cons_zero,List.set_cons_succ]
    rw[←hF.out];exact Lx5x12  W hk hx hb oa ob ap
  clear x1 x9;refine AllReadyH.cons (o:=_) rfl (fun K hK=>?_) ?_
  · go_simp;refine hK.out _ _ (⟨(hb.out.alloc (.cells #[.bool x.1,.string x.2.1,.string x.2.2] 37)).cell (j:=0) rfl,(hb.out.alloc (.cells #[.bool x.1,.string x.2.1,.string x.2.2] 37)).cell (j:=1) rfl,(hb.out.alloc (.cells #[.bool x.1,.string x.2.1,.string x.2.2] 37)).cell (j:=2) rfl⟩) (fun _=>?_);clear hK K
    try simp only[List.setIfInBounds_toArray,List.set_cons_zero,List.set_cons_succ]
    rw[←hF.out];exact Lx5x14 W.heap.size _ (Lib.hid ((hk.out.alloc (.cells #[.bool x.1,.string x.2.1,.string x.2.2] 37)))) (Lib.hid ((hx.out.alloc (.cells #[.bool x.1,.string x.2.1,.string x.2.2] 37)))) (Lib.hid ((hb.out.alloc (.cells #[.bool x.1,.string x.2.1,.string x.2.2] 37)))) (Lib.hid ((oa.out.alloc (.cells #[.bool x.1,.string x.2.1,.string x.2.2] 37)))) (Lib.hid ((ob.out.alloc (.cells #[.bool x.1,.string x.2.1,.string x.2.2] 37)))) (Lib.hid (ap.out)) (Lib.hid (⟨⟨(Bk.new W 37 [.bool x.1,.string x.2.1,.string x.2.2]).cell (j:=0) rfl,(Bk.new W 37 [.bool x.1,.string x.2.1,.string x.2.2]).cell (j:=1) rfl,(Bk.new W 37 [.bool x.1,.string x.2.1,.string x.2.2]).cell (j:=2) rfl⟩,hk.out.size,by rw[World.size_alloc];exact Nat.lt_succ_self _⟩))
  exact AllReadyH.nil
 have Lx7x12x14:∀(l7:Nat) (l14:Nat) (W:World),Hid (Kp (xb::((Value.slice Aa i ca).ownBlock.toList++(Value.slice Ab i cb).ownBlock.toList)) w W)→Hid (Bk W xb 74 [uv,.slice Aa i ca,.slice Ab i cb])→Hid (Bk W gb 37 [.bool x.1,.string x.2.1,.string x.2.2])→Hid (W.ownsRow B1 29 1 (Value.slice Aa i ca) i hds)→Hid (W.ownsRow B1 37 3 (Value.slice Ab i cb) i cbs)→Hid (∀b,(Value.slice Aa i ca).ownBlock=some b→(Value.slice Ab i cb).ownBlock≠some b)→Hid (W.cell? ⟨l7,0,none⟩=some (.slice (some ⟨rb,0,none⟩) m m)∧w.heap.size≤l7∧l7<W.heap.size)→Hid ((W.cell? ⟨l14,0,none⟩=some (.bool x.1)∧W.cell? ⟨l14,1,none⟩=some (.string x.2.1)∧W.cell? ⟨l14,2,none⟩=some (.string x.2.2))∧w.heap.size≤l14∧l14<W.heap.size)→F 9 #[true,true,true,true,true,false,true,true,false,true,true,true,true,true,true,false,false,false,false,false,false,false] ⟨#[.pointer (some ⟨xb,0,none⟩),c1,c2,c3,c4,c5,c6,c7,c8,.slice (some ⟨rb,0,none⟩) m m,c10,.pointer (some ⟨gb,0,none⟩),c12,c13,c14,c15,c16,c17,c18,c19,c20,c21,c22,c23,c24,c25,c26,c27,c28,c29,c30,c31,c32,c33,c34,c35,c36,c37,c38,c39,c40,c41,c42,c43,c44,c45,c46,c47,c48,c49,c50,c51,c52,c53,c54,c55,c56,c57,c58,c59,c60,c61,c62,c63,c64,c65,c66,c67,c68,c69,c70,c71,c72,c73,c74,c75,c76,c77,c78,c79,c80,c81,c82,c83,c84,c85,c86,.pointer (some ⟨xb,0,none⟩),.pointer (some ⟨xb,0,none⟩),.pointer (some ⟨xb,0,none⟩),.pointer (some ⟨xb,0,none⟩),.pointer (some ⟨xb,1,none⟩),a92,.slice (some ⟨rb,0,none⟩) m m,.slice (some ⟨l7,0,none⟩) 1 1,a95,.pointer (some ⟨xb,0,none⟩),.pointer (some ⟨xb,0,none⟩),.pointer (some ⟨xb,2,none⟩),.slice Ab i cb,.agg #[.bool x.1,.string x.2.1,.string x.2.2],.slice (some ⟨l14,0,none⟩) 1 1,a102,a103,a104,a105,a106,c107],[]⟩ W:=by
  intro l7 l14 W hk hx hb oa ob ap c7 c14;rw[hF.out];refine wpAnyH_ready (rs:=[5]) (by kernel_rfl) (by simp) ?_;have x1:=hx.out.cell (j:=1) rfl;have x9:=hx.out.lt;refine AllReadyH.cons (o:=_) rfl (fun K hK=>?_) ?_
  · go_simp;clear x1 x9;refine hK.out _ _ (⟨hb.out.cell (j:=0) rfl,hb.out.cell (j:=1) rfl,hb.out.cell (j:=2) rfl⟩) (fun _=>?_);clear hK K
    try simp only[List.setIfInBounds_toArray,List.set_cons_zero,List.set_cons_succ]
    rw[←hF.out];exact Lx5x7x12x14 l7 l14 W hk hx hb oa ob ap c7 c14
  clear x1 x9;exact AllReadyH.nil
 have Lx7x12:∀(l7:Nat) (W:World),Hid (Kp (xb::((Value.slice Aa i ca).ownBlock.toList++(Value.slice Ab i cb).ownBlock.toList)) w W)→Hid (Bk W xb 74 [uv,.slice Aa i ca,.slice Ab i cb])→Hid (Bk W gb 37 [.bool x.1,.string x.2.1,.string x.2.2])→Hid (W.ownsRow B1 29 1 (Value.slice Aa i ca) i hds)→Hid (W.ownsRow B1 37 3 (Value.slice Ab i cb) i cbs)→Hid (∀b,(Value.slice Aa i ca).ownBlock=some b→(Value.slice Ab i cb).ownBlock≠some b)→Hid (W.cell? ⟨l7,0,none⟩=some (.slice (some ⟨rb,0,none⟩) m m)∧w.heap.size≤l7∧l7<W.heap.size)→F 10 #[true,true,true,true,true,false,true,true,false,true,true,true,true,true,false,false,false,false,false,false,false,false] ⟨#[.pointer (some ⟨xb,0,none⟩),c1,c2,c3,c4,c5,c6,c7,c8,.slice (some ⟨rb,0,none⟩) m m,c10,.pointer (some ⟨gb,0,none⟩),c12,c13,c14,c15,c16,c17,c18,c19,c20,c21,c22,c23,c24,c25,c26,c27,c28,c29,c30,c31,c32,c33,c34,c35,c36,c37,c38,c39,c40,c41,c42,c43,c44,c45,c46,c47,c48,c49,c50,c51,c52,c53,c54,c55,c56,c57,c58,c59,c60,c61,c62,c63,c64,c65,c66,c67,c68,c69,c70,c71,c72,c73,c74,c75,c76,c77,c78,c79,c80,c81,c82,c83,c84,c85,c86,.pointer (some ⟨xb,0,none⟩),.pointer (some ⟨xb,0,none⟩),.pointer (some ⟨xb,0,none⟩),.pointer (some ⟨xb,0,none⟩),.pointer (some ⟨xb,1,none⟩),a92,.slice (some ⟨rb,0,none⟩) m m,.slice (some ⟨l7,0,none⟩) 1 1,a95,.pointer (some ⟨xb,0,none⟩),.pointer (some ⟨xb,0,none⟩),.pointer (some ⟨xb,2,none⟩),.slice Ab i cb,.agg #[.bool x.1,.string x.2.1,.string x.2.2],a101,a102,a103,a104,a105,a106,c107],[]⟩ W:=by
  intro l7 W hk hx hb oa ob ap c7;rw[hF.out];refine wpAnyH_ready (rs:=[5,14]) (by kernel_rfl) (by simp) ?_;have x1:=hx.out.cell (j:=1) rfl;have x9:=hx.out.lt;refine AllReadyH.cons (o:=_) rfl (fun K hK=>?_) ?_
  · go_simp;clear x1 x9;refine hK.out _ _ (⟨hb.out.cell (j:=0) rfl,hb.out.cell (j:=1) rfl,hb.out.cell (j:=2) rfl⟩) (fun _=>?_);clear hK K
    try simp only[List.setIfInBounds_toArray,List.set_cons_zero,List.set_cons_succ]
    rw[←hF.out];exact Lx5x7x12 l7 W hk hx hb oa ob ap c7
  clear x1 x9;refine AllReadyH.cons (o:=_) rfl (fun K hK=>?_) ?_
  · go_simp;refine hK.out _ _ (⟨(hb.out.alloc (.cells #[.bool x.1,.string x.2.1,.string x.2.2] 37)).cell (j:=0) rfl,(hb.out.alloc (.cells #[.bool x.1,.string x.2.1,.string x.2.2] 37)).cell (j:=1) rfl,(hb.out.alloc (.cells #[.bool x.1,.string x.2.1,.string x.2.2] 37)).cell (j:=2) rfl⟩) (fun _=>?_);clear hK K
    try simp only[List.setIfInBounds_toArray,List.set_cons_zero,List.set_cons_succ]
    rw[←hF.out];exact Lx7x12x14 l7 W.heap.size _ (Lib.hid ((hk.out.alloc (.cells #[.bool x.1,.string x.2.1,.string x.2.2] 37)))) (Lib.hid ((hx.out.alloc (.cells #[.bool x.1,.string x.2.1,.string x.2.2] 37)))) (Lib.hid ((hb.out.alloc (.cells #[.bool x.1,.string x.2.1,.string x.2.2] 37)))) (Lib.hid ((oa.out.alloc (.cells #[.bool x.1,.string x.2.1,.string x.2.2] 37)))) (Lib.hid ((ob.out.alloc (.cells #[.bool x.1,.string x.2.1,.string x.2.2] 37)))) (Lib.hid (ap.out)) (Lib.hid (⟨(World.cell?_alloc_lt _ _ _ c7.out.2.2).trans c7.out.1,c7.out.2.1,by rw[World.size_alloc];exact Nat.lt_succ_of_lt c7.out.2.2⟩)) (Lib.hid (⟨⟨(Bk.new W 37 [.bool x.1,.string x.2.1,.string x.2.2]).cell (j:=0) rfl,(Bk.new W 37 [.bool x.1,.string x.2.1,.string x.2.2]).cell (j:=1) rfl,(Bk.new W 37 [.bool x.1,.string x.2.1,.string x.2.2]).cell (j:=2) rfl⟩,hk.out.size,by rw[World.size_alloc];exact Nat.lt_succ_self _⟩))
  exact AllReadyH.nil
 have Lx7x14:∀(l7:Nat) (l14:Nat) (W:World),Hid (Kp (xb::((Value.slice Aa i ca).ownBlock.toList++(Value.slice Ab i cb).ownBlock.toList)) w W)→Hid (Bk W xb 74 [uv,.slice Aa i ca,.slice Ab i cb])→Hid (Bk W gb 37 [.bool x.1,.string x.2.1,.string x.2.2])→Hid (W.ownsRow B1 29 1 (Value.slice Aa i ca) i hds)→Hid (W.ownsRow B1 37 3 (Value.slice Ab i cb) i cbs)→Hid (∀b,(Value.slice Aa i ca).ownBlock=some b→(Value.slice Ab i cb).ownBlock≠some b)→Hid (W.cell? ⟨l7,0,none⟩=some (.slice (some ⟨rb,0,none⟩) m m)∧w.heap.size≤l7∧l7<W.heap.size)→Hid ((W.cell? ⟨l14,0,none⟩=some (.bool x.1)∧W.cell? ⟨l14,1,none⟩=some (.string x.2.1)∧W.cell? ⟨l14,2,none⟩=some (.string x.2.2))∧w.heap.size≤l14∧l14<W.heap.size)→F 10 #[true,true,true,true,true,false,true,true,false,true,true,true,false,true,true,false,false,false,false,false,false,false] ⟨#[.pointer (some ⟨xb,0,none⟩),c1,c2,c3,c4,c5,c6,c7,c8,.slice (some ⟨rb,0,none⟩) m m,c10,.pointer (some ⟨gb,0,none⟩),c12,c13,c14,c15,c16,c17,c18,c19,c20,c21,c22,c23,c24,c25,c26,c27,c28,c29,c30,c31,c32,c33,c34,c35,c36,c37,c38,c39,c40,c41,c42,c43,c44,c45,c46,c47,c48,c49,c50,c51,c52,c53,c54,c55,c56,c57,c58,c59,c60,c61,c62,c63,c64,c65,c66,c67,c68,c69,c70,c71,c72,c73,c74,c75,c76,c77,c78,c79,c80,c81,c82,c83,c84,c85,c86,.pointer (some ⟨xb,0,none⟩),.pointer (some ⟨xb,0,none⟩),.pointer (some ⟨xb,0,none⟩),.pointer (some ⟨xb,0,none⟩),.pointer (some ⟨xb,1,none⟩),a92,.slice (some ⟨rb,0,none⟩) m m,.slice (some ⟨l7,0,none⟩) 1 1,a95,.pointer (some ⟨xb,0,none⟩),.pointer (some ⟨xb,0,none⟩),.pointer (some ⟨xb,2,none⟩),a99,.agg #[.bool x.1,.string x.2.1,.string x.2.2],.slice (some ⟨l14,0,none⟩) 1 1,a102,a103,a104,a105,a106,c107],[]⟩ W:=by
  intro l7 l14 W hk hx hb oa ob ap c7 c14;rw[hF.out];refine wpAnyH_ready (rs:=[5,12]) (by kernel_rfl) (by simp) ?_;have x1:=hx.out.cell (j:=1) rfl;have x9:=hx.out.lt;refine AllReadyH.cons (o:=_) rfl (fun K hK=>?_) ?_
  · go_simp;clear x1 x9;refine hK.out _ _ (⟨hb.out.cell (j:=0) rfl,hb.out.cell (j:=1) rfl,hb.out.cell (j:=2) rfl⟩) (fun _=>?_);clear hK K
    try simp only[List.setIfInBounds_toArray,List.set_cons_zero,List.set_cons_succ]
    rw[←hF.out];exact Lx5x7x14 l7 l14 W hk hx hb oa ob ap c7 c14
  clear x1 x9;have x1:=hx.out.cell (j:=2) rfl;have x9:=hx.out.lt;refine AllReadyH.cons (o:=_) rfl (fun K hK=>?_) ?_
  · go_simp;clear x1 x9;refine hK.out _ _ (⟨hb.out.cell (j:=0) rfl,hb.out.cell (j:=1) rfl,hb.out.cell (j:=2) rfl⟩) (fun _=>?_);clear hK K
    try simp only[List.setIfInBounds_toArray,List.set_cons_zero,List.set_cons_succ]
    rw[←hF.out];exact Lx7x12x14 l7 l14 W hk hx hb oa ob ap c7 c14
  clear x1 x9;exact AllReadyH.nil
 have Lx7:∀(l7:Nat) (W:World),Hid (Kp (xb::((Value.slice Aa i ca).ownBlock.toList++(Value.slice Ab i cb).ownBlock.toList)) w W)→Hid (Bk W xb 74 [uv,.slice Aa i ca,.slice Ab i cb])→Hid (Bk W gb 37 [.bool x.1,.string x.2.1,.string x.2.2])→Hid (W.ownsRow B1 29 1 (Value.slice Aa i ca) i hds)→Hid (W.ownsRow B1 37 3 (Value.slice Ab i cb) i cbs)→Hid (∀b,(Value.slice Aa i ca).ownBlock=some b→(Value.slice Ab i cb).ownBlock≠some b)→Hid (W.cell? ⟨l7,0,none⟩=some (.slice (some ⟨rb,0,none⟩) m m)∧w.heap.size≤l7∧l7<W.heap.size)→F 11 #[true,true,true,true,true,false,true,true,false,true,true,true,false,true,false,false,false,false,false,false,false,false] ⟨#[.pointer (some ⟨xb,0,none⟩),c1,c2,c3,c4,c5,c6,c7,c8,.slice (some ⟨rb,0,none⟩) m m,c10,.pointer (some ⟨gb,0,none⟩),c12,c13,c14,c15,c16,c17,c18,c19,c20,c21,c22,c23,c24,c25,c26,c27,c28,c29,c30,c31,c32,c33,c34,c35,c36,c37,c38,c39,c40,c41,c42,c43,c44,c45,c46,c47,c48,c49,c50,c51,c52,c53,c54,c55,c56,c57,c58,c59,c60,c61,c62,c63,c64,c65,c66,c67,c68,c69,c70,c71,c72,c73,c74,c75,c76,c77,c78,c79,c80,c81,c82,c83,c84,c85,c86,.pointer (some ⟨xb,0,none⟩),.pointer (some ⟨xb,0,none⟩),.pointer (some ⟨xb,0,none⟩),.pointer (some ⟨xb,0,none⟩),.pointer (some ⟨xb,1,none⟩),a92,.slice (some ⟨rb,0,none⟩) m m,.slice (some ⟨l7,0,none⟩) 1 1,a95,.pointer (some ⟨xb,0,none⟩),.pointer (some ⟨xb,0,none⟩),.pointer (some ⟨xb,2,none⟩),a99,.agg #[.bool x.1,.string x.2.1,.string x.2.2],a101,a102,a103,a104,a105,a106,c107],[]⟩ W:=by
  intro l7 W hk hx hb oa ob ap c7;rw[hF.out];refine wpAnyH_ready (rs:=[5,12,14]) (by kernel_rfl) (by simp) ?_;have x1:=hx.out.cell (j:=1) rfl;have x9:=hx.out.lt;refine AllReadyH.cons (o:=_) rfl (fun K hK=>?_) ?_
  · go_simp;clear x1 x9;refine hK.out _ _ (⟨hb.out.cell (j:=0) rfl,hb.out.cell (j:=1) rfl,hb.out.cell (j:=2) rfl⟩) (fun _=>?_);clear hK K
    try simp only[List.setIfInBounds_toArray,List.set_cons_zero,List.set_cons_succ]
    rw[←hF.out];exact Lx5x7 l7 W hk hx hb oa ob ap c7
  clear x1 x9;have x1:=hx.out.cell (j:=2) rfl;have x9:=hx.out.lt;refine AllReadyH.cons (o:=_) rfl (fun K hK=>?_) ?_
  · go_simp;clear x1 x9;refine hK.out _ _ (⟨hb.out.cell (j:=0) rfl,hb.out.cell (j:=1) rfl,hb.out.cell (j:=2) rfl⟩) (fun _=>?_);clear hK K
    try simp only[List.setIfInBounds_toArray,List.set_cons_zero,List.set_cons_succ]
    rw[←hF.out];exact Lx7x12 l7 W hk hx hb oa ob ap c7
  clear x1 x9;refine AllReadyH.cons (o:=_) rfl (fun K hK=>?_) ?_
  · go_simp;refine hK.out _ _ (⟨(hb.out.alloc (.cells #[.bool x.1,.string x.2.1,.string x.2.2] 37)).cell (j:=0) rfl,(hb.out.alloc (.cells #[.bool x.1,.string x.2.1,.string x.2.2] 37)).cell (j:=1) rfl,(hb.out.alloc (.cells #[.bool x.1,.string x.2.1,.string x.2.2] 37)).cell (j:=2) rfl⟩) (fun _=>?_);clear hK K
    try simp only[List.setIfInBounds_toArray,List.set_cons_zero,List.set_cons_succ]
    rw[←hF.out];exact Lx7x14 l7 W.heap.size _ (Lib.hid ((hk.out.alloc (.cells #[.bool x.1,.string x.2.1,.string x.2.2] 37)))) (Lib.hid ((hx.out.alloc (.cells #[.bool x.1,.string x.2.1,.string x.2.2] 37)))) (Lib.hid ((hb.out.alloc (.cells #[.bool x.1,.string x.2.1,.string x.2.2] 37)))) (Lib.hid ((oa.out.alloc (.cells #[.bool x.1,.string x.2.1,.string x.2.2] 37)))) (Lib.hid ((ob.out.alloc (.cells #[.bool x.1,.string x.2.1,.string x.2.2] 37)))) (Lib.hid (ap.out)) (Lib.hid (⟨(World.cell?_alloc_lt _ _ _ c7.out.2.2).trans c7.out.1,c7.out.2.1,by rw[World.size_alloc];exact Nat.lt_succ_of_lt c7.out.2.2⟩)) (Lib.hid (⟨⟨(Bk.new W 37 [.bool x.1,.string x.2.1,.string x.2.2]).cell (j:=0) rfl,(Bk.new W 37 [.bool x.1,.string x.2.1,.string x.2.2]).cell (j:=1) rfl,(Bk.new W 37 [.bool x.1,.string x.2.1,.string x.2.2]).cell (j:=2) rfl⟩,hk.out.size,by rw[World.size_alloc];exact Nat.lt_succ_self _⟩))
  exact AllReadyH.nil
 have Lx12x14:∀(l14:Nat) (W:World),Hid (Kp (xb::((Value.slice Aa i ca).ownBlock.toList++(Value.slice Ab i cb).ownBlock.toList)) w W)→Hid (Bk W xb 74 [uv,.slice Aa i ca,.slice Ab i cb])→Hid (Bk W gb 37 [.bool x.1,.string x.2.1,.string x.2.2])→Hid (W.ownsRow B1 29 1 (Value.slice Aa i ca) i hds)→Hid (W.ownsRow B1 37 3 (Value.slice Ab i cb) i cbs)→Hid (∀b,(Value.slice Aa i ca).ownBlock=some b→(Value.slice Ab i cb).ownBlock≠some b)→Hid ((W.cell? ⟨l14,0,none⟩=some (.bool x.1)∧W.cell? ⟨l14,1,none⟩=some (.string x.2.1)∧W.cell? ⟨l14,2,none⟩=some (.string x.2.2))∧w.heap.size≤l14∧l14<W.heap.size)→F 10 #[true,true,true,true,true,false,true,false,false,true,true,true,true,true,true,false,false,false,false,false,false,false] ⟨#[.pointer (some ⟨xb,0,none⟩),c1,c2,c3,c4,c5,c6,c7,c8,.slice (some ⟨rb,0,none⟩) m m,c10,.pointer (some ⟨gb,0,none⟩),c12,c13,c14,c15,c16,c17,c18,c19,c20,c21,c22,c23,c24,c25,c26,c27,c28,c29,c30,c31,c32,c33,c34,c35,c36,c37,c38,c39,c40,c41,c42,c43,c44,c45,c46,c47,c48,c49,c50,c51,c52,c53,c54,c55,c56,c57,c58,c59,c60,c61,c62,c63,c64,c65,c66,c67,c68,c69,c70,c71,c72,c73,c74,c75,c76,c77,c78,c79,c80,c81,c82,c83,c84,c85,c86,.pointer (some ⟨xb,0,none⟩),.pointer (some ⟨xb,0,none⟩),.pointer (some ⟨xb,0,none⟩),.pointer (some ⟨xb,0,none⟩),.pointer (some ⟨xb,1,none⟩),a92,.slice (some ⟨rb,0,none⟩) m m,a94,a95,.pointer (some ⟨xb,0,none⟩),.pointer (some ⟨xb,0,none⟩),.pointer (some ⟨xb,2,none⟩),.slice Ab i cb,.agg #[.bool x.1,.string x.2.1,.string x.2.2],.slice (some ⟨l14,0,none⟩) 1 1,a102,a103,a104,a105,a106,c107],[]⟩ W:=by
  intro l14 W hk hx hb oa ob ap c14;rw[hF.out];refine wpAnyH_ready (rs:=[5,7]) (by kernel_rfl) (by simp) ?_;have x1:=hx.out.cell (j:=1) rfl;have x9:=hx.out.lt;refine AllReadyH.cons (o:=_) rfl (fun K hK=>?_) ?_
  · go_simp;clear x1 x9;refine hK.out _ _ (⟨hb.out.cell (j:=0) rfl,hb.out.cell (j:=1) rfl,hb.out.cell (j:=2) rfl⟩) (fun _=>?_);clear hK K
    try simp only[List.setIfInBounds_toArray,List.set_cons_zero,List.set_cons_succ]
    rw[←hF.out];exact Lx5x12x14 l14 W hk hx hb oa ob ap c14
  clear x1 x9;refine AllReadyH.cons (o:=_) rfl (fun K hK=>?_) ?_
  · go_simp;refine hK.out _ _ (⟨(hb.out.alloc (.cells #[.slice (some ⟨rb,0,none⟩) m m] 29)).cell (j:=0) rfl,(hb.out.alloc (.cells #[.slice (some ⟨rb,0,none⟩) m m] 29)).cell (j:=1) rfl,(hb.out.alloc (.cells #[.slice (some ⟨rb,0,none⟩) m m] 29)).cell (j:=2) rfl⟩) (fun _=>?_);clear hK K
    try simp only[List.setIfInBounds_toArray,List.set_cons_zero,List.set_cons_succ]
    rw[←hF.out];exact Lx7x12x14 W.heap.size l14 _ (Lib.hid ((hk.out.alloc (.cells #[.slice (some ⟨rb,0,none⟩) m m] 29)))) (Lib.hid ((hx.out.alloc (.cells #[.slice (some ⟨rb,0,none⟩) m m] 29)))) (Lib.hid ((hb.out.alloc (.cells #[.slice (some ⟨rb,0,none⟩) m m] 29)))) (Lib.hid ((oa.out.alloc (.cells #[.slice (some ⟨rb,0,none⟩) m m] 29)))) (Lib.hid ((ob.out.alloc (.cells #[.slice (some ⟨rb,0,none⟩) m m] 29)))) (Lib.hid (ap.out)) (Lib.hid (⟨(Bk.new W 29 [.slice (some ⟨rb,0,none⟩) m m]).cell (j:=0) rfl,hk.out.size,by rw[World.size_alloc];exact Nat.lt_succ_self _⟩)) (Lib.hid (⟨⟨(World.cell?_alloc_lt _ _ _ c14.out.2.2).trans c14.out.1.1,(World.cell?_alloc_lt _ _ _ c14.out.2.2).trans c14.out.1.2.1,(World.cell?_alloc_lt _ _ _ c14.out.2.2).trans c14.out.1.2.2⟩,c14.out.2.1,by rw[World.size_alloc];exact Nat.lt_succ_of_lt c14.out.2.2⟩))
  exact AllReadyH.nil
 have Lx12:∀(W:World),Hid (Kp (xb::((Value.slice Aa i ca).ownBlock.toList++(Value.slice Ab i cb).ownBlock.toList)) w W)→Hid (Bk W xb 74 [uv,.slice Aa i ca,.slice Ab i cb])→Hid (Bk W gb 37 [.bool x.1,.string x.2.1,.string x.2.2])→Hid (W.ownsRow B1 29 1 (Value.slice Aa i ca) i hds)→Hid (W.ownsRow B1 37 3 (Value.slice Ab i cb) i cbs)→Hid (∀b,(Value.slice Aa i ca).ownBlock=some b→(Value.slice Ab i cb).ownBlock≠some b)→F 11 #[true,true,true,true,true,false,true,false,false,true,true,true,true,true,false,false,false,false,false,false,false,false] ⟨#[.pointer (some ⟨xb,0,none⟩),c1,c2,c3,c4,c5,c6,c7,c8,.slice (some ⟨rb,0,none⟩) m m,c10,.pointer (some ⟨gb,0,none⟩),c12,c13,c14,c15,c16,c17,c18,c19,c20,c21,c22,c23,c24,c25,c26,c27,c28,c29,c30,c31,c32,c33,c34,c35,c36,c37,c38,c39,c40,c41,c42,c43,c44,c45,c46,c47,c48,c49,c50,c51,c52,c53,c54,c55,c56,c57,c58,c59,c60,c61,c62,c63,c64,c65,c66,c67,c68,c69,c70,c71,c72,c73,c74,c75,c76,c77,c78,c79,c80,c81,c82,c83,c84,c85,c86,.pointer (some ⟨xb,0,none⟩),.pointer (some ⟨xb,0,none⟩),.pointer (some ⟨xb,0,none⟩),.pointer (some ⟨xb,0,none⟩),.pointer (some ⟨xb,1,none⟩),a92,.slice (some ⟨rb,0,none⟩) m m,a94,a95,.pointer (some ⟨xb,0,none⟩),.pointer (some ⟨xb,0,none⟩),.pointer (some ⟨xb,2,none⟩),.slice Ab i cb,.agg #[.bool x.1,.string x.2.1,.string x.2.2],a101,a102,a103,a104,a105,a106,c107],[]⟩ W:=by
  intro  W hk hx hb oa ob ap;rw[hF.out];refine wpAnyH_ready (rs:=[5,7,14]) (by kernel_rfl) (by simp) ?_;have x1:=hx.out.cell (j:=1) rfl;have x9:=hx.out.lt;refine AllReadyH.cons (o:=_) rfl (fun K hK=>?_) ?_
  · go_simp;clear x1 x9;refine hK.out _ _ (⟨hb.out.cell (j:=0) rfl,hb.out.cell (j:=1) rfl,hb.out.cell (j:=2) rfl⟩) (fun _=>?_);clear hK K
    try simp only[List.setIfInBounds_toArray,List.set_cons_zero,List.set_cons_succ]
    rw[←hF.out];exact Lx5x12  W hk hx hb oa ob ap
  clear x1 x9;refine AllReadyH.cons (o:=_) rfl (fun K hK=>?_) ?_
  · go_simp;refine hK.out _ _ (⟨(hb.out.alloc (.cells #[.slice (some ⟨rb,0,none⟩) m m] 29)).cell (j:=0) rfl,(hb.out.alloc (.cells #[.slice (some ⟨rb,0,none⟩) m m] 29)).cell (j:=1) rfl,(hb.out.alloc (.cells #[.slice (some ⟨rb,0,none⟩) m m] 29)).cell (j:=2) rfl⟩) (fun _=>?_);clear hK K
    try simp only[List.setIfInBounds_toArray,List.set_cons_zero,List.set_cons_succ]
    rw[←hF.out];exact Lx7x12 W.heap.size _ (Lib.hid ((hk.out.alloc (.cells #[.slice (some ⟨rb,0,none⟩) m m] 29)))) (Lib.hid ((hx.out.alloc (.cells #[.slice (some ⟨rb,0,none⟩) m m] 29)))) (Lib.hid ((hb.out.alloc (.cells #[.slice (some ⟨rb,0,none⟩) m m] 29)))) (Lib.hid ((oa.out.alloc (.cells #[.slice (some ⟨rb,0,none⟩) m m] 29)))) (Lib.hid ((ob.out.alloc (.cells #[.slice (some ⟨rb,0,none⟩) m m] 29)))) (Lib.hid (ap.out)) (Lib.hid (⟨(Bk.new W 29 [.slice (some ⟨rb,0,none⟩) m m]).cell (j:=0) rfl,hk.out.size,by rw[World.size_alloc];exact Nat.lt_succ_self _⟩))
  refine AllReadyH.cons (o:=_) rfl (fun K hK=>?_) ?_
  · go_simp;refine hK.out _ _ (⟨(hb.out.alloc (.cells #[.bool x.1,.string x.2.1,.string x.2.2] 37)).cell (j:=0) rfl,(hb.out.alloc (.cells #[.bool x.1,.string x.2.1,.string x.2.2] 37)).cell (j:=1) rfl,(hb.out.alloc (.cells #[.bool x.1,.string x.2.1,.string x.2.2] 37)).cell (j:=2) rfl⟩) (fun _=>?_);clear hK K
    try simp only[List.setIfInBounds_toArray,List.set_cons_zero,List.set_cons_succ]
    rw[←hF.out];exact Lx12x14 W.heap.size _ (Lib.hid ((hk.out.alloc (.cells #[.bool x.1,.string x.2.1,.string x.2.2] 37)))) (Lib.hid ((hx.out.alloc (.cells #[.bool x.1,.string x.2.1,.string x.2.2] 37)))) (Lib.hid ((hb.out.alloc (.cells #[.bool x.1,.string x.2.1,.string x.2.2] 37)))) (Lib.hid ((oa.out.alloc (.cells #[.bool x.1,.string x.2.1,.string x.2.2] 37)))) (Lib.hid ((ob.out.alloc (.cells #[.bool x.1,.string x.2.1,.string x.2.2] 37)))) (Lib.hid (ap.out)) (Lib.hid (⟨⟨(Bk.new W 37 [.bool x.1,.string x.2.1,.string x.2.2]).cell (j:=0) rfl,(Bk.new W 37 [.bool x.1,.string x.2.1,.string x.2.2]).cell (j:=1) rfl,(Bk.new W 37 [.bool x.1,.string x.2.1,.string x.2.2]).cell (j:=2) rfl⟩,hk.out.size,by rw[World.size_alloc];exact Nat.lt_succ_self _⟩))
  exact AllReadyH.nil
 have Lx14:∀(l14:Nat) (W:World),Hid (Kp (xb::((Value.slice Aa i ca).ownBlock.toList++(Value.slice Ab i cb).ownBlock.toList)) w W)→Hid (Bk W xb 74 [uv,.slice Aa i ca,.slice Ab i cb])→Hid (Bk W gb 37 [.bool x.1,.string x.2.1,.string x.2.2])→Hid (W.ownsRow B1 29 1 (Value.slice Aa i ca) i hds)→Hid (W.ownsRow B1 37 3 (Value.slice Ab i cb) i cbs)→Hid (∀b,(Value.slice Aa i ca).ownBlock=some b→(Value.slice Ab i cb).ownBlock≠some b)→Hid ((W.cell? ⟨l14,0,none⟩=some (.bool x.1)∧W.cell? ⟨l14,1,none⟩=some (.string x.2.1)∧W.cell? ⟨l14,2,none⟩=some (.string x.2.2))∧w.heap.size≤l14∧l14<W.heap.size)→F 11 #[true,true,true,true,true,false,true,false,false,true,true,true,false,true,true,false,false,false,false,false,false,false] ⟨#[.pointer (some ⟨xb,0,none⟩),c1,c2,c3,c4,c5,c6,c7,c8,.slice (some ⟨rb,0,none⟩) m m,c10,.pointer (some ⟨gb,0,none⟩),c12,c13,c14,c15,c16,c17,c18,c19,c20,c21,c22,c23,c24,c25,c26,c27,c28,c29,c30,c31,c32,c33,c34,c35,c36,c37,c38,c39,c40,c41,c42,c43,c44,c45,c46,c47,c48,c49,c50,c51,c52,c53,c54,c55,c56,c57,c58,c59,c60,c61,c62,c63,c64,c65,c66,c67,c68,c69,c70,c71,c72,c73,c74,c75,c76,c77,c78,c79,c80,c81,c82,c83,c84,c85,c86,.pointer (some ⟨xb,0,none⟩),.pointer (some ⟨xb,0,none⟩),.pointer (some ⟨xb,0,none⟩),.pointer (some ⟨xb,0,none⟩),.pointer (some ⟨xb,1,none⟩),a92,.slice (some ⟨rb,0,none⟩) m m,a94,a95,.pointer (some ⟨xb,0,none⟩),.pointer (some ⟨xb,0,none⟩),.pointer (some ⟨xb,2,none⟩),a99,.agg #[.bool x.1,.string x.2.1,.string x.2.2],.slice (some ⟨l14,0,none⟩) 1 1,a102,a103,a104,a105,a106,c107],[]⟩ W:=by
  intro l14 W hk hx hb oa ob ap c14;rw[hF.out];refine wpAnyH_ready (rs:=[5,7,12]) (by kernel_rfl) (by simp) ?_;have x1:=hx.out.cell (j:=1) rfl;have x9:=hx.out.lt;refine AllReadyH.cons (o:=_) rfl (fun K hK=>?_) ?_
  · go_simp;clear x1 x9;refine hK.out _ _ (⟨hb.out.cell (j:=0) rfl,hb.out.cell (j:=1) rfl,hb.out.cell (j:=2) rfl⟩) (fun _=>?_);clear hK K
    try simp only[List.setIfInBounds_toArray,List.set_cons_zero,List.set_cons_succ]
    rw[←hF.out];exact Lx5x14 l14 W hk hx hb oa ob ap c14
  clear x1 x9;refine AllReadyH.cons (o:=_) rfl (fun K hK=>?_) ?_
  · go_simp;refine hK.out _ _ (⟨(hb.out.alloc (.cells #[.slice (some ⟨rb,0,none⟩) m m] 29)).cell (j:=0) rfl,(hb.out.alloc (.cells #[.slice (some ⟨rb,0,none⟩) m m] 29)).cell (j:=1) rfl,(hb.out.alloc (.cells #[.slice (some ⟨rb,0,none⟩) m m] 29)).cell (j:=2) rfl⟩) (fun _=>?_);clear hK K
    try simp only[List.setIfInBounds_toArray,List.set_cons_zero,List.set_cons_succ]
    rw[←hF.out];exact Lx7x14 W.heap.size l14 _ (Lib.hid ((hk.out.alloc (.cells #[.slice (some ⟨rb,0,none⟩) m m] 29)))) (Lib.hid ((hx.out.alloc (.cells #[.slice (some ⟨rb,0,none⟩) m m] 29)))) (Lib.hid ((hb.out.alloc (.cells #[.slice (some ⟨rb,0,none⟩) m m] 29)))) (Lib.hid ((oa.out.alloc (.cells #[.slice (some ⟨rb,0,none⟩) m m] 29)))) (Lib.hid ((ob.out.alloc (.cells #[.slice (some ⟨rb,0,none⟩) m m] 29)))) (Lib.hid (ap.out)) (Lib.hid (⟨(Bk.new W 29 [.slice (some ⟨rb,0,none⟩) m m]).cell (j:=0) rfl,hk.out.size,by rw[World.size_alloc];exact Nat.lt_succ_self _⟩)) (Lib.hid (⟨⟨(World.cell?_alloc_lt _ _ _ c14.out.2.2).trans c14.out.1.1,(World.cell?_alloc_lt _ _ _ c14.out.2.2).trans c14.out.1.2.1,(World.cell?_alloc_lt _ _ _ c14.out.2.2).trans c14.out.1.2.2⟩,c14.out.2.1,by rw[World.size_alloc];exact Nat.lt_succ_of_lt c14.out.2.2⟩))
  have x1:=hx.out.cell (j:=2) rfl;have x9:=hx.out.lt;refine AllReadyH.cons (o:=_) rfl (fun K hK=>?_) ?_
  · go_simp;clear x1 x9;refine hK.out _ _ (⟨hb.out.cell (j:=0) rfl,hb.out.cell (j:=1) rfl,hb.out.cell (j:=2) rfl⟩) (fun _=>?_);clear hK K
    try simp only[List.setIfInBounds_toArray,List.set_cons_zero,List.set_cons_succ]
    rw[←hF.out];exact Lx12x14 l14 W hk hx hb oa ob ap c14
  clear x1 x9;exact AllReadyH.nil
 have L:∀(W:World),Hid (Kp (xb::((Value.slice Aa i ca).ownBlock.toList++(Value.slice Ab i cb).ownBlock.toList)) w W)→Hid (Bk W xb 74 [uv,.slice Aa i ca,.slice Ab i cb])→Hid (Bk W gb 37 [.bool x.1,.string x.2.1,.string x.2.2])→Hid (W.ownsRow B1 29 1 (Value.slice Aa i ca) i hds)→Hid (W.ownsRow B1 37 3 (Value.slice Ab i cb) i cbs)→Hid (∀b,(Value.slice Aa i ca).ownBlock=some b→(Value.slice Ab i cb).ownBlock≠some b)→F 12 #[true,true,true,true,true,false,true,false,false,true,true,true,false,true,false,false,false,false,false,false,false,false] ⟨#[.pointer (some ⟨xb,0,none⟩),c1,c2,c3,c4,c5,c6,c7,c8,.slice (some ⟨rb,0,none⟩) m m,c10,.pointer (some ⟨gb,0,none⟩),c12,c13,c14,c15,c16,c17,c18,c19,c20,c21,c22,c23,c24,c25,c26,c27,c28,c29,c30,c31,c32,c33,c34,c35,c36,c37,c38,c39,c40,c41,c42,c43,c44,c45,c46,c47,c48,c49,c50,c51,c52,c53,c54,c55,c56,c57,c58,c59,c60,c61,c62,c63,c64,c65,c66,c67,c68,c69,c70,c71,c72,c73,c74,c75,c76,c77,c78,c79,c80,c81,c82,c83,c84,c85,c86,.pointer (some ⟨xb,0,none⟩),.pointer (some ⟨xb,0,none⟩),.pointer (some ⟨xb,0,none⟩),.pointer (some ⟨xb,0,none⟩),.pointer (some ⟨xb,1,none⟩),a92,.slice (some ⟨rb,0,none⟩) m m,a94,a95,.pointer (some ⟨xb,0,none⟩),.pointer (some ⟨xb,0,none⟩),.pointer (some ⟨xb,2,none⟩),a99,.agg #[.bool x.1,.string x.2.1,.string x.2.2],a101,a102,a103,a104,a105,a106,c107],[]⟩ W:=by
  intro  W hk hx hb oa ob ap;rw[hF.out];refine wpAnyH_ready (rs:=[5,7,12,14]) (by kernel_rfl) (by simp) ?_;have x1:=hx.out.cell (j:=1) rfl;have x9:=hx.out.lt;refine AllReadyH.cons (o:=_) rfl (fun K hK=>?_) ?_
  · go_simp;clear x1 x9;refine hK.out _ _ (⟨hb.out.cell (j:=0) rfl,hb.out.cell (j:=1) rfl,hb.out.cell (j:=2) rfl⟩) (fun _=>?_);clear hK K
    try simp only[List.setIfInBounds_toArray,List.set_cons_zero,List.set_cons_succ]
    rw[←hF.out];exact Lx5  W hk hx hb oa ob ap
  clear x1 x9;refine AllReadyH.cons (o:=_) rfl (fun K hK=>?_) ?_
  · go_simp;refine hK.out _ _ (⟨(hb.out.alloc (.cells #[.slice (some ⟨rb,0,none⟩) m m] 29)).cell (j:=0) rfl,(hb.out.alloc (.cells #[.slice (some ⟨rb,0,none⟩) m m] 29)).cell (j:=1) rfl,(hb.out.alloc (.cells #[.slice (some ⟨rb,0,none⟩) m m] 29)).cell (j:=2) rfl⟩) (fun _=>?_);clear hK K
    try simp only[List.setIfInBounds_toArray,List.set_cons_zero,List.set_cons_succ]
    rw[←hF.out];exact Lx7 W.heap.size _ (Lib.hid ((hk.out.alloc (.cells #[.slice (some ⟨rb,0,none⟩) m m] 29)))) (Lib.hid ((hx.out.alloc (.cells #[.slice (some ⟨rb,0,none⟩) m m] 29)))) (Lib.hid ((hb.out.alloc (.cells #[.slice (some ⟨rb,0,none⟩) m m] 29)))) (Lib.hid ((oa.out.alloc (.cells #[.slice (some ⟨rb,0,none⟩) m m] 29)))) (Lib.hid ((ob.out.alloc (.cells #[.slice (some ⟨rb,0,none⟩) m m] 29)))) (Lib.hid (ap.out)) (Lib.hid (⟨(Bk.new W 29 [.slice (some ⟨rb,0,none⟩) m m]).cell (j:=0) rfl,hk.out.size,by rw[World.size_alloc];exact Nat.lt_succ_self _⟩))
  have x1:=hx.out.cell (j:=2) rfl;have x9:=hx.out.lt;refine AllReadyH.cons (o:=_) rfl (fun K hK=>?_) ?_
  · go_simp;clear x1 x9;refine hK.out _ _ (⟨hb.out.cell (j:=0) rfl,hb.out.cell (j:=1) rfl,hb.out.cell (j:=2) rfl⟩) (fun _=>?_);clear hK K
    try simp only[List.setIfInBounds_toArray,List.set_cons_zero,List.set_cons_succ]
    rw[←hF.out];exact Lx12  W hk hx hb oa ob ap
  clear x1 x9;refine AllReadyH.cons (o:=_) rfl (fun K hK=>?_) ?_
  · go_simp;refine hK.out _ _ (⟨(hb.out.alloc (.cells #[.bool x.1,.string x.2.1,.string x.2.2] 37)).cell (j:=0) rfl,(hb.out.alloc (.cells #[.bool x.1,.string x.2.1,.string x.2.2] 37)).cell (j:=1) rfl,(hb.out.alloc (.cells #[.bool x.1,.string x.2.1,.string x.2.2] 37)).cell (j:=2) rfl⟩) (fun _=>?_);clear hK K
    try simp only[List.setIfInBounds_toArray,List.set_cons_zero,List.set_cons_succ]
    rw[←hF.out];exact Lx14 W.heap.size _ (Lib.hid ((hk.out.alloc (.cells #[.bool x.1,.string x.2.1,.string x.2.2] 37)))) (Lib.hid ((hx.out.alloc (.cells #[.bool x.1,.string x.2.1,.string x.2.2] 37)))) (Lib.hid ((hb.out.alloc (.cells #[.bool x.1,.string x.2.1,.string x.2.2] 37)))) (Lib.hid ((oa.out.alloc (.cells #[.bool x.1,.string x.2.1,.string x.2.2] 37)))) (Lib.hid ((ob.out.alloc (.cells #[.bool x.1,.string x.2.1,.string x.2.2] 37)))) (Lib.hid (ap.out)) (Lib.hid (⟨⟨(Bk.new W 37 [.bool x.1,.string x.2.1,.string x.2.2]).cell (j:=0) rfl,(Bk.new W 37 [.bool x.1,.string x.2.1,.string x.2.2]).cell (j:=1) rfl,(Bk.new W 37 [.bool x.1,.string x.2.1,.string x.2.2]).cell (j:=2) rfl⟩,hk.out.size,by rw[World.size_alloc];exact Nat.lt_succ_self _⟩))
  exact AllReadyH.nil
 exact fun_as (by kernel_rfl) (by kernel_rfl) (by kernel_rfl) (L w.drew hk0 hx0 hb0 oa0 ob0 ap)
end Sh
end
section
namespace Sh
open Nt Ci
theorem lsum_append (p:Nat) (f:Nat→Rat) (l m:List Lp):lsum p f (l++m)=lsum p f l+lsum p f m:=by
 induction l with
 | nil=>show lsum p f m=0+lsum p f m;grind
 | cons x l ih =>
   rw[List.cons_append]
   show (if x.1=p then x.2.2*f x.2.1 else 0)+lsum p f (l++m)=(if x.1=p then x.2.2*f x.2.1 else 0)+lsum p f l+lsum p f m
   rw[ih,Rat.add_assoc]
theorem lsum_take {p:Nat} {f:Nat→Rat} {l:List Lp} {k:Nat} (h:k<l.length):lsum p f (l.take (k+1))=lsum p f (l.take k)+if l[k].1=p then l[k].2.2*f l[k].2.1 else 0:=by
 rw[List.take_succ_eq_append_getElem h,lsum_append]
 congr 1
 show (if l[k].1=p then l[k].2.2*f l[k].2.1 else 0)+0=_
 exact Rat.add_zero _
theorem lsum_take_le {p:Nat} {f:Nat→Rat} {l:List Lp} (hp:∀x,x∈l→0<x.2.2) (hf:∀x,x∈l→0≤f x.2.1) (k:Nat):lsum p f (l.take k)≤lsum p f l:=by
 have h:=lsum_append p f (l.take k) (l.drop k);rw[List.take_append_drop]at h;have h2:=lsum_nonneg (p:=p) (f:=f) (L:=l.drop k) (fun x hx=>hp x (List.mem_of_mem_drop hx)) fun x hx _=>hf x (List.mem_of_mem_drop hx);grind
theorem Caps.take {n:Nat} {L:List Lp} (h:Caps n L) (k:Nat):Caps n (L.take k):=by
 refine⟨fun x hx=>h.lt x (List.mem_of_mem_take hx),fun x hx=>h.whole x (List.mem_of_mem_take hx),fun x hx=>h.pos x (List.mem_of_mem_take hx),fun p=>?_⟩;have h1:=lsum_take_le (p:=p) (f:=fun _=>1) h.pos (fun _ _=>by decide) k;have h2:=h.le1 p;grind
theorem row_fit {n:Nat} {L:List Lp} (h:Caps n L) (p q:Nat) (b:Bool):Fit 6000 ((if b=true then 1 else 0)-lsum p (fun h=>if h=q then 1 else 0) L):=by
 have h0:=lsum_nonneg (p:=p) (f:=fun h=>if h=q then 1 else 0) h.pos fun x _ _=>by split<;>decide
 have h1:lsum p (fun h=>if h=q then 1 else 0) L≤1:=h.le_of (by decide) fun x _ _=>by split<;>decide
 have h2:=h.int_sum (p:=p) (f:=fun h=>if h=q then 1 else 0) (D:=1) fun x _ _=>by
  split
  · exact IsI.one.mul IsI.one
  · exact IsI.one.mul IsI.zero
 refine⟨?_,?_,6000,by omega,Nat.le_refl _,?_⟩
 · split<;>grind
 · split<;>grind
 · have e:((6000:Nat):Rat)*((if b=true then 1 else 0)-lsum p (fun h=>if h=q then 1 else 0) L)=(if b=true then 1 else 0)*6000+-(6000*1*lsum p (fun h=>if h=q then 1 else 0) L):=by
    rw[show ((6000:Nat):Rat)=6000 from rfl];grind
   rw[e];refine IsI.add ?_ h2.neg
   split
   · exact IsI.one.mul (IsI.nat 6000)
   · exact IsI.zero.mul (IsI.nat 6000)
theorem right_fit {n D:Nat} {L:List Lp} (h:Caps n L) (p:Nat) {f:Nat→Rat} (hD:0<D) (hf:∀q,0≤f q∧f q≤1) (hi:∀q,IsI ((D:Rat)*f q)):Fit (6000*D) (lsum p f L):=by
 have h0:=lsum_nonneg (p:=p) (f:=f) h.pos fun x _ _=>(hf x.2.1).1;have h1:lsum p f L≤1:=h.le_of (by decide) fun x _ _=>(hf x.2.1).2;have h2:=h.int_sum (p:=p) (f:=f) (D:=(D:Rat)) fun x _ _=>hi x.2.1;refine⟨by grind,h1,6000*D,Nat.mul_pos (by omega) hD,Nat.le_refl _,?_⟩;rw[Rat.natCast_mul];exact h2
end Sh
end
section
namespace Sh
open Nt Ci
theorem Sys.congr {n c D:Nat} {A B:Mx} {v:Nat→Rat} (h:Sys n c D A v) (e:∀i j,i<n→j≤n→B i j=A i j):Sys n c D B v:=by
 obtain⟨⟨a1,a2,a3,a4,a5,a6⟩,h2,h3,h4,h5⟩:=h;refine⟨⟨fun i hi=>?_,fun i j hi hj hn=>?_,fun i hi=>?_,fun i hi=>?_,fun i hi=>?_,a6⟩,h2,h3,fun i j hi hj=>?_,fun i hi=>?_⟩
 · rw[e i i hi (by omega)];exact a1 i hi
 · rw[e i j hi (by omega)];exact a2 i j hi hj hn
 · rw[e i n hi (Nat.le_refl _)];exact a3 i hi
 · rw[e i n hi (Nat.le_refl _),sumTo_congr (f:=B i) (g:=A i) fun j hj=>e i j hi (by omega)];exact a4 i hi
 · rw[sumTo_congr (g:=fun j=>A i j*v j) fun j hj=>by rw[e i j hi (by omega)]];exact a5 i hi
 · rw[e i j hi (by omega)];exact h4 i j hi hj
 · rw[e i n hi (Nat.le_refl _)];exact h5 i hi
def aRows (L:List Lp) (u:List Nat) (val:Nat→Rat):List (List Raw):=(List.range u.length).map fun i=>outL u.length (sysA L u val i)
def bRow (L:List Lp) (u:List Nat) (val:Nat→Rat):List Raw:=outL u.length fun i=>sysA L u val i u.length
theorem getD_outL {n:Nat} {f:Nat→Rat} {i:Nat} (h:i<n) (d:Raw):(outL n f).getD i d=rq (f i):=by
 rw[getD_at (by rw[outL_length];exact h),outL_get]
theorem getD_aRows {L:List Lp} {u:List Nat} {val:Nat→Rat} {i:Nat} (h:i<u.length):(aRows L u val).getD i []=outL u.length (sysA L u val i):=by
 unfold aRows;rw[getD_at (by simpa using h)];simp
theorem fit_ok {x:Rat} {B:Nat} (h:Fit B x) (hB:B<L1):OkQ x:=(fit_short h hB).ok
theorem pow17:6000^17<L1:=Nat.lt_of_le_of_lt (Nat.pow_le_pow_right (by omega) (by omega)) pow34
theorem solve_build {n D:Nat} {L:List Lp} {F done u:List Nat} {val:Nat→Rat} (hL:Caps n L) (hi:Inv L F done val D) (hx:Nxt L F done u) (hlen:done.length+u.length≤16) (h8:u.length≤8) :
 solveB (aRows L u val) (bRow L u val)=.ok (outL u.length fun i=>nextV SQ L u val (u.getD i 0)):=by
 have hs:=hx.sys hL hi
 have hfit:∀i j,i<u.length→j≤u.length→OkQ (sysA L u val i j):=fun i j h1 h2=>by
  have:=hs.fit (Mad.start u.length _) hs.shs (Nat.zero_le _) h1 h2;refine fit_ok (this.mono ?_) pow17
  calc 6000^(u.length+1)*D≤6000^(u.length+1)*6000^done.length:=Nat.mul_le_mul_left _ hi.dle
   _=6000^(u.length+1+done.length):=(Nat.pow_add _ _ _).symm
   _≤6000^17:=Nat.pow_le_pow_right (by omega) (by omega)
 have hbl:(bRow L u val).length=u.length:=outL_length _ _;have hal:(aRows L u val).length=u.length:=by unfold aRows;simp
 have hb:allV (bRow L u val)=true:=allV_iff.2 fun i h=>by
  have e:(bRow L u val)[i]=rq (sysA L u val i u.length):=outL_get u.length (fun i=>sysA L u val i u.length) i h;rw[e];exact vraw_rq (hfit i _ (by rwa [hbl]at h) (Nat.le_refl _))
 have ha:matB (bRow L u val).length (aRows L u val)=true:=matB_iff.2 fun i h=>by
  rw[hal]at h;have e:(aRows L u val)[i]'(by rw[hal];exact h)=outL u.length (sysA L u val i):=by unfold aRows;simp
  rw[e,hbl];refine⟨outL_length _ _,allV_iff.2 fun j hj=>?_⟩;rw[outL_get];rw[outL_length]at hj;exact vraw_rq (hfit i j h (Nat.le_of_lt hj))
 have hM:∀i j,i<u.length→j≤u.length→sysM (aRows L u val) (bRow L u val) i j=sysA L u val i j:=fun i j h1 h2=>by
  unfold sysM;rw[hbl]
  by_cases e:j=u.length
  · rw[if_pos e,e];unfold bRow;rw[getD_outL h1,vq_rq]
  · rw[if_neg e,getD_aRows h1,getD_outL (by omega),vq_rq]
 have hS:∀x,Fit ((6000^(u.length+1)*D)*(6000^(u.length+1)*D)) x→SQ x=true:=fun x h=>SQ_fit x (h.mono (pow_bound hi.dle hlen));obtain⟨M,m1,m2,_⟩:=(hs.congr hM).result (S:=SQ) hS;obtain⟨N,n1,n2,_⟩:=hs.result (S:=SQ) hS;have hv:nextV SQ L u val=fun p=>if p∈u then N (u.idxOf p) u.length else val p:=by unfold nextV;rw[n1]
 have hMN:∀i,i<u.length→M i u.length=N i u.length:=by
  have h1:Sol u.length (sysM (aRows L u val) (bRow L u val)) (fun i=>N i u.length) (fun i=>sysM (aRows L u val) (bRow L u val) i u.length):=fun i hi2=>by
   have h2:(sumTo u.length fun j=>sysA L u val i j*N j u.length)=sysA L u val i u.length:=(n2 (fun i=>N i u.length)).2 (fun _ _=>rfl) i hi2
   show (sumTo u.length fun j=>sysM (aRows L u val) (bRow L u val) i j*N j u.length)=sysM (aRows L u val) (bRow L u val) i u.length
   rw[hM i _ hi2 (Nat.le_refl _),←h2];exact sumTo_congr fun j hj=>by rw[hM i j hi2 (Nat.le_of_lt hj)]
  exact fun i hi2=>((m2 _).1 h1 i hi2).symm
 unfold solveB;rw[if_pos ⟨hal.trans hbl.symm,hb,ha⟩,if_pos (by rw[hbl];exact h8),hbl,m1]
 show Except.ok (outL u.length fun i=>M i u.length)=_
 congr 1
 apply outL_congr;intro i hi2;rw[hMN i hi2,hv];dsimp only;rw[if_pos (getD_mem hi2),idx_getD hx.nodup hi2]
theorem Ready.nodup {L:List Lp} {F:List Nat}:∀{us:List (List Nat)} {done:List Nat},Ready L F done us→done.Nodup→(done++us.flatten).Nodup:=by
 intro us
 induction us with
 | nil=>intro done _ h;simpa using h
 | cons u us ih =>
   intro done h hd;rw[List.flatten_cons,←List.append_assoc];refine ih h.2 (List.nodup_append.2 ⟨hd,h.1.nodup,fun a ha b hb e=>?_⟩);subst e;exact h.1.new a hb ha
theorem Ready.lt {n:Nat} {F:List Nat} {E:List (Nat×Nat)}:∀p,p∈(syst n E F).flatten→p<n:=by
 intro p hp;obtain⟨u,hu,hp⟩:=List.mem_flatten.1 hp;unfold syst at hu;obtain⟨c,hc,rfl⟩:=List.mem_map.1 hu;have h1:=(mem_unk.1 hp).1;unfold comps at hc;obtain⟨q,_,rfl⟩:=List.mem_map.1 hc;exact(mem_comp.1 h1).1
theorem syst_len {n:Nat} {L:List Lp} {F:List Nat} (hL:Caps n L):(syst n (edgesL L) F).flatten.length≤n:=by
 have h:=(ready_all (F:=F) hL.inN).nodup List.nodup_nil;rw[List.nil_append]at h;exact nodup_len n _ h Ready.lt
noncomputable def tooMany (n:Nat) (E:List (Nat×Nat)) (F:List Nat):Bool:=(syst n E F).any (fun u=>decide (8<u.length))||decide (16<(syst n E F).flatten.length)
theorem few_fits {n:Nat} {L:List Lp} {F:List Nat} (hL:Caps n L) (hn:n≤8):tooMany n (edgesL L) F=false:=by
 have h:=syst_len (F:=F) hL;unfold tooMany;rw[Bool.or_eq_false_iff,List.any_eq_false];refine⟨fun u hu=>?_,decide_eq_false (by omega)⟩;have:u.length≤(syst n (edgesL L) F).flatten.length:=(List.sublist_flatten_of_mem hu).length_le;simp only[decide_eq_true_eq];omega
theorem tooMany_no {n:Nat} {E:List (Nat×Nat)} {F:List Nat} (h:tooMany n E F=false):(∀u,u∈syst n E F→u.length≤8)∧(syst n E F).flatten.length≤16:=by
 unfold tooMany at h;rw[Bool.or_eq_false_iff,List.any_eq_false]at h;refine⟨fun u hu=>?_,by have:=of_decide_eq_false h.2;omega⟩;have:=h.1 u hu;simp only[decide_eq_true_eq]at this;omega
end Sh
end
section
namespace Sh
open Nt Ci
section
variable {n:Nat} {L:List Lp} {u:List Nat} {val:Nat→Rat} {i k j:Nat}
def rowR (L:List Lp) (u:List Nat) (i k j:Nat):Rat:=(if i=j then 1 else 0)-lsum (u.getD i 0) (fun h=>if h=u.getD j 0 then 1 else 0) (L.take k)
def rgtR (L:List Lp) (u:List Nat) (val:Nat→Rat) (i k:Nat):Rat:=lsum (u.getD i 0) (fun h=>if h∈u then 0 else val h) (L.take k)
theorem rowR_zero:rowR L u i 0 j=if i=j then 1 else 0:=by
 unfold rowR
 show _-(0:Rat)=_
 grind
theorem rgtR_zero:rgtR L u val i 0=0:=rfl
theorem rowR_all (hj:j<u.length):rowR L u i L.length j=sysA L u val i j:=by
 unfold rowR sysA;dsimp only;rw[List.take_length];have e:¬j=u.length:=by omega
 rw[if_neg e]
theorem rgtR_all:rgtR L u val i L.length=sysA L u val i u.length:=by
 unfold rgtR sysA;dsimp only;rw[List.take_length,if_pos rfl]
theorem row_skip (hk:k<L.length) (h:L[k].1≠u.getD i 0):(∀j,rowR L u i (k+1) j=rowR L u i k j)∧rgtR L u val i (k+1)=rgtR L u val i k:=by
 refine⟨fun j=>?_,?_⟩
 · unfold rowR;rw[lsum_take hk,if_neg h,Rat.add_zero]
 · unfold rgtR;rw[lsum_take hk,if_neg h,Rat.add_zero]
theorem row_in (hu:u.Nodup) (hk:k<L.length) (h:L[k].1=u.getD i 0) {c:Nat} (hc:c<u.length) (hh:L[k].2.1=u.getD c 0) :
 (∀j,j<u.length→rowR L u i (k+1) j=if j=c then rowR L u i k c+-1*L[k].2.2 else rowR L u i k j)∧rgtR L u val i (k+1)=rgtR L u val i k:=by
 refine⟨fun j hj=>?_,?_⟩
 · unfold rowR;rw[lsum_take hk,if_pos h,hh]
   by_cases e:j=c
   · subst e;have e1:(if u.getD j 0=u.getD j 0 then (1:Rat) else 0)=1:=if_pos rfl;rw[e1,if_pos (rfl:j=j)];grind
   · have e1:(if u.getD c 0=u.getD j 0 then (1:Rat) else 0)=0:=if_neg fun e2=>by
      have:=idx_getD hu hj;rw[←e2,idx_getD hu hc]at this;exact e this.symm
     rw[e1,if_neg e];grind
 · unfold rgtR;rw[lsum_take hk,if_pos h,if_pos (by rw[hh];exact getD_mem hc)];grind
theorem row_out (hk:k<L.length) (h:L[k].1=u.getD i 0) (hh:L[k].2.1∉u) :
 (∀j,j<u.length→rowR L u i (k+1) j=rowR L u i k j)∧rgtR L u val i (k+1)=rgtR L u val i k+L[k].2.2*val L[k].2.1:=by
 refine⟨fun j hj=>?_,?_⟩
 · unfold rowR;have e1:(if L[k].2.1=u.getD j 0 then (1:Rat) else 0)=0:=if_neg fun e=>hh (by rw[e];exact getD_mem hj);rw[lsum_take hk,if_pos h,e1];grind
 · unfold rgtR;rw[lsum_take hk,if_pos h,if_neg hh]
theorem rowR_short (hL:Caps n L):ShortQ (rowR L u i k j):=by
 have:=row_fit (hL.take k) (u.getD i 0) (u.getD j 0) (decide (i=j));unfold rowR;simp only[decide_eq_true_eq]at this;exact fit_short this (Nat.lt_of_le_of_lt (by have:6000^1≤6000^34:=Nat.pow_le_pow_right (by omega) (by omega);omega) pow34)
theorem pow17' {D:Nat} (h:D≤6000^16):6000*D<L1:=by
 refine Nat.lt_of_le_of_lt ?_ pow17
 calc 6000*D≤6000*6000^16:=Nat.mul_le_mul_left _ h
  _=6000^17:=by rw[Nat.pow_succ 6000 16,Nat.mul_comm]
structure Vals (val:Nat→Rat) (D:Nat):Prop where
 rng:∀p,0≤val p∧val p≤1
 dp:0<D
 dle:D≤6000^16
 whole:∀p,IsI ((D:Rat)*val p)
theorem Vals.fit {D:Nat} (h:Vals val D) (p:Nat):Fit D (val p):=⟨by have:=(h.rng p).1;grind,(h.rng p).2,D,h.dp,Nat.le_refl _,h.whole p⟩
theorem Vals.short {D:Nat} (h:Vals val D) (p:Nat):ShortQ (val p):=fit_short (h.fit p) (Nat.lt_of_le_of_lt h.dle (Nat.lt_of_le_of_lt (Nat.pow_le_pow_right (by omega) (by omega)) pow34))
theorem rgtR_short {D:Nat} (hL:Caps n L) (h:Vals val D):ShortQ (rgtR L u val i k):=by
 have:=right_fit (hL.take k) (u.getD i 0) (f:=fun q=>if q∈u then 0 else val q) h.dp (fun q=>by
  split
  · constructor<;>decide
  · exact h.rng q) fun q=>by
  split
  · rw[Rat.mul_zero];exact IsI.zero
  · exact h.whole q
 exact fit_short this (pow17' h.dle)
theorem part_fit (hL:Caps n L) (hk:k<L.length):Fit 6000 L[k].2.2:=by
 have h1:=hL.pos _ (List.getElem_mem hk);have h2:=hL.whole _ (List.getElem_mem hk);have h3:=hL.le1 L[k].1;have h4:=lsum_gap (p:=L[k].1) (f:=fun _=>0) (g:=fun _=>1) hL.pos (fun _ _ _=>by decide) (List.getElem_mem hk) rfl;rw[lsum_zero fun _ _ _=>rfl]at h4;exact⟨by grind,by grind,6000,by omega,Nat.le_refl _,h2⟩
theorem pow1:6000<L1:=Nat.lt_of_le_of_lt (by have:6000^1≤6000^34:=Nat.pow_le_pow_right (by omega) (by omega);omega) pow34
theorem part_short (hL:Caps n L) (hk:k<L.length):ShortQ L[k].2.2:=fit_short (part_fit hL hk) pow1
theorem part_neg (hL:Caps n L) (hk:k<L.length):ShortQ (-1*L[k].2.2):=by
 obtain⟨a,b,d,d1,d2,d3⟩:=part_fit hL hk
 have:Fit 6000 (-1*L[k].2.2):=⟨by grind,by grind,d,d1,d2,by
  have e:(d:Rat)*(-1*L[k].2.2)=-((d:Rat)*L[k].2.2):=by grind
  rw[e];exact d3.neg⟩
 exact fit_short this pow1
theorem part_val {D:Nat} (hL:Caps n L) (h:Vals val D) (hk:k<L.length) (q:Nat):ShortQ (L[k].2.2*val q):=by
 have h1:=part_fit hL hk;have h0:=hL.pos _ (List.getElem_mem hk);have h2:=h.rng q;have h3:=(hL.whole _ (List.getElem_mem hk)).mul (h.whole q)
 have e:6000*L[k].2.2*((D:Rat)*val q)=((6000*D:Nat):Rat)*(L[k].2.2*val q):=by
  rw[Rat.natCast_mul,show ((6000:Nat):Rat)=6000 from rfl];grind
 rw[e]at h3;have h4:=Rat.mul_nonneg (Rat.le_of_lt h0) h2.1;have h5:=Rat.mul_le_mul_of_nonneg_left h2.2 (Rat.le_of_lt h0);have h6:=h1.2.1;have:Fit (6000*D) (L[k].2.2*val q):=⟨by grind,by grind,6000*D,Nat.mul_pos (by omega) h.dp,Nat.le_refl _,h3⟩;exact fit_short this (pow17' h.dle)
theorem ix_in (hu:u.Nodup) {h c:Nat} (hc:c<u.length) (e:h=u.getD c 0):ixOf (u.map fun(q:Nat)=>(q:Int)) (h:Int)=(c:Int):=by
 have hc2:c<(u.map fun(q:Nat)=>(q:Int)).length:=by simpa using hc
 refine ix_at hc2 (fun j hj hjc=>?_) ?_
 · rw[List.getElem_map];intro e2;have e3:u[j]'(by simpa using hj)=h:=by omega
   rw[e,getD_get hc]at e3;have hp:=List.pairwise_iff_getElem.1 hu j c (by simpa using hj) hc hjc;exact hp e3
 · rw[List.getElem_map,e,getD_get hc]
theorem ix_out {h:Nat} (e:h∉u):ixOf (u.map fun(q:Nat)=>(q:Int)) (h:Int)=-1:=by
 refine ix_no fun j hj=>?_;rw[List.getElem_map];intro e2
 exact e (by have e3:u[j]'(by simpa using hj)=h:=by omega
             rw[←e3];exact List.getElem_mem _)
end
theorem kp_trans {xs ys:List Nat} {w w' w'':World} (h:Kp xs w w') (h2:Kp ys w' w'') (hy:∀y,y∈ys→y∈xs∨w.heap.size≤y):Kp xs w w'' :=
 ⟨h2.os.trans h.os,h2.tape.trans h.tape,h2.output.trans h.output,Nat.le_trans h.size h2.size,fun k hk hx=>(h2.block k (Nat.lt_of_lt_of_le hk h.size) (fun hm=>(hy k hm).elim hx (fun c=>by omega))).trans (h.block k hk hx)⟩
theorem own_kpS {xs:List Nat} {base size m:Nat} {e:TypeId} {u:Value} {l:List Value} {w w':World} (h:w.ownsRow base e size u m l) (hk:Kp xs w w') (hb:∀b,u.ownBlock=some b→b∉xs):w'.ownsRow base e size u m l:=by
 obtain⟨h1,h2⟩:=h;refine⟨h1,?_⟩
 rcases h2 with h2 | ⟨g,cap,cur,hv,hg,hh,rest⟩
 · exact .inl h2
 · exact .inr ⟨g,cap,cur,hv,hg,(hk.block g (Array.getElem?_eq_some_iff.1 hh).1 (hb g (by rw[hv];rfl))).trans hh,rest⟩
theorem rowB_kp {xs:List Nat} {w w':World} {b m:Nat} {r:Nat→Raw} (h:RowB w b m r) (hk:Kp xs w w') (hb:b∉xs):RowB w' b m r:=(hk.block b h.lt hb).trans h
end Sh
end
section
open Go.RowKit Go.Shelf
namespace Sh
open Nt Ci
def BdI (w W:World) (xb m i:Nat) (uv:Value) (M:Mx):Prop :=
 ∃ (Aa Ab:Option Addr) (ca cb:Nat) (bl:Nat→Nat),Kp [xb] w W∧Bk W xb 74 [uv,.slice Aa i ca,.slice Ab i cb] ∧
  W.ownsRow w.heap.size 29 1 (.slice Aa i ca) i ((List.range i).map fun k=>.slice (some ⟨bl k,0,none⟩) m m) ∧
  W.ownsRow w.heap.size 37 3 (.slice Ab i cb) i (rowL i fun k=>rq (M k m)) ∧
  (∀b,(Value.slice Aa i ca).ownBlock=some b→(Value.slice Ab i cb).ownBlock≠some b) ∧
  ∀k,k<i→RowB W (bl k) m (fun j=>rq (M k j))∧(Value.slice Aa i ca).ownBlock≠some (bl k)∧(Value.slice Ab i cb).ownBlock≠some (bl k)∧bl k≠xb
theorem BdI.start {w:World} {xb m:Nat} {uv:Value} {M:Mx} (h:Bk w xb 74 [uv,.slice none 0 0,.slice none 0 0]):BdI w w xb m 0 uv M :=
 ⟨none,none,0,0,fun _=>0,Kp.refl _ _,h,World.ownsRow_nil _ _ _ _,World.ownsRow_nil _ _ _ _,(fun b e=>by cases e),fun k h=>absurd h (Nat.not_lt_zero _)⟩
theorem BdI.step {w wy wz W:World} {xb m i rb:Nat} {uv:Value} {M:Mx} {Aa Ab Aa2 Ab2:Option Addr} {ca cb ca2 cb2:Nat} {bl:Nat→Nat}
 (hK:Kp [xb] w wy) (hoa:wy.ownsRow w.heap.size 29 1 (.slice Aa i ca) i ((List.range i).map fun k=>.slice (some ⟨bl k,0,none⟩) m m))
 (hob:wy.ownsRow w.heap.size 37 3 (.slice Ab i cb) i (rowL i fun k=>rq (M k m)))
 (hrows:∀k,k<i→RowB wy (bl k) m (fun j=>rq (M k j))∧(Value.slice Aa i ca).ownBlock≠some (bl k)∧(Value.slice Ab i cb).ownBlock≠some (bl k)∧bl k≠xb)
 (hB:Below wy.heap.size wy wz) (hrb:rb=wy.heap.size) (hxl:xb<wy.heap.size) (hrow:RowB wz rb m fun j=>rq (M i j))
 (k1:Kp (xb::((Value.slice Aa i ca).ownBlock.toList++(Value.slice Ab i cb).ownBlock.toList)) wz W)
 (k2:Bk W xb 74 [uv,.slice Aa2 (i+1) ca2,.slice Ab2 (i+1) cb2])
 (k3:W.ownsRow w.heap.size 29 1 (.slice Aa2 (i+1) ca2) (i+1) (((List.range i).map fun k=>.slice (some ⟨bl k,0,none⟩) m m)++[.slice (some ⟨rb,0,none⟩) m m]))
 (k4:W.ownsRow w.heap.size 37 3 (.slice Ab2 (i+1) cb2) (i+1) ((rowL i fun k=>rq (M k m))++[.bool (rq (M i m)).1,.string (rq (M i m)).2.1,.string (rq (M i m)).2.2]))
 (k5:∀b,(Value.slice Aa2 (i+1) ca2).ownBlock=some b→(Value.slice Ab2 (i+1) cb2).ownBlock≠some b)
 (k6:(Value.slice Aa2 (i+1) ca2).ownBlock=(Value.slice Aa i ca).ownBlock∨∃b,(Value.slice Aa2 (i+1) ca2).ownBlock=some b∧wz.heap.size≤b)
 (k7:(Value.slice Ab2 (i+1) cb2).ownBlock=(Value.slice Ab i cb).ownBlock∨∃b,(Value.slice Ab2 (i+1) cb2).ownBlock=some b∧wz.heap.size≤b):BdI w W xb m (i+1) uv M:=by
 have hzs:=hB.size;have hrl:=hrow.lt;have la:∀b,(Value.slice Aa i ca).ownBlock=some b→w.heap.size≤b∧b<wy.heap.size:=fun b e=>hoa.lt b e;have lb:∀b,(Value.slice Ab i cb).ownBlock=some b→w.heap.size≤b∧b<wy.heap.size:=fun b e=>hob.lt b e
 have hin:∀{b:Nat},b≠xb→(Value.slice Aa i ca).ownBlock≠some b→(Value.slice Ab i cb).ownBlock≠some b→b∉(xb::((Value.slice Aa i ca).ownBlock.toList++(Value.slice Ab i cb).ownBlock.toList)):=fun {b} h1 h2 h3 hm=>by
  rcases List.mem_cons.1 hm with c | c
  · exact h1 c
  · rcases List.mem_append.1 c with c | c
    · exact h2 (by simpa using c)
    · exact h3 (by simpa using c)
 refine⟨Aa2,Ab2,ca2,cb2,fun k=>if k=i then rb else bl k,?_,k2,?_,?_,k5,?_⟩
 · refine kp_trans (hK.below hB) k1 fun y hy=>?_
   rcases List.mem_cons.1 hy with c | c
   · exact .inl (by simp[c])
   · rcases List.mem_append.1 c with c | c
     · exact .inr (la y (by simpa using c)).1
     · exact .inr (lb y (by simpa using c)).1
 · have e:(List.range (i+1)).map (fun k=>Value.slice (some ⟨if k=i then rb else bl k,0,none⟩) m m)=((List.range i).map fun k=>.slice (some ⟨bl k,0,none⟩) m m)++[.slice (some ⟨rb,0,none⟩) m m]:=by
    rw[List.range_succ,List.map_append,List.map_singleton,if_pos rfl]
    congr 1
    refine List.map_congr_left fun k hk=>?_;rw[if_neg (by have:=List.mem_range.1 hk;omega)]
   rw[e];exact k3
 · rw[rowL_succ];exact k4
 · intro k hk;dsimp only
   by_cases e:k=i
   · subst e;rw[if_pos rfl];have n1:(Value.slice Aa k ca).ownBlock≠some rb:=fun e=>by have:=(la _ e).2;omega
     have n2:(Value.slice Ab k cb).ownBlock≠some rb:=fun e=>by have:=(lb _ e).2;omega
     refine⟨rowB_kp hrow k1 (hin (by omega) n1 n2),fun e=>?_,fun e=>?_,by omega⟩
     · rcases k6 with c | ⟨b,c,d⟩
       · exact n1 (c▸e)
       · rw[c]at e;cases e;omega
     · rcases k7 with c | ⟨b,c,d⟩
       · exact n2 (c▸e)
       · rw[c]at e;cases e;omega
   · rw [if_neg e];obtain⟨r1,r2,r3,r4⟩:=hrows k (by omega);have hbl:=r1.lt;refine⟨rowB_kp (r1.below hB hbl) k1 (hin r4 r2 r3),fun e=>?_,fun e=>?_,r4⟩
     · rcases k6 with c | ⟨b,c,d⟩
       · exact r2 (c▸e)
       · rw[c]at e;cases e;omega
     · rcases k7 with c | ⟨b,c,d⟩
       · exact r3 (c▸e)
       · rw[c]at e;cases e;omega
theorem sound_n60 {s:SR} (h:soundB s=true):s.ps.length≤60:=by
 unfold soundB at h;simp only[Bool.and_eq_true,decide_eq_true_eq]at h;exact h.2.1
theorem shnum_rq (k:Int) (q:Rat) (hq:(k:Rat)=q) (hk:-10≤k∧k≤10) (w:World) (hE:Env w) :
 Calls Tryz.prog 46 #[.int .i64 k] w fun e w'=>e=.returned (.agg #[.bool (rq (q)).1,.string (rq (q)).2.1,.string (rq (q)).2.2])∧Below w.heap.size w w':=by
 rw[←hq];exact shnum_any k hk w hE
theorem link_part {s:SR} (hsd:soundB s=true) {k:Nat} (hk:k<s.cap.length):∃(co ho:Nat) (part:Rat),s.cap[k]=((co:Int),(ho:Int),rq part)∧(capL s.cap)[k]'(by unfold capL;simpa using hk)=(co,ho,part)∧co<s.ps.length∧ho<s.ps.length:=by
 obtain⟨⟨h1,h2⟩,⟨h3,h4⟩,h5⟩:=cap_own hsd (List.getElem_mem hk);have hv:=(units_valid h5).1;have hr:=(raw_of (x:=lkP s.cap[k]) hv).1;refine⟨s.cap[k].1.toNat,s.cap[k].2.1.toNat,vq (lkP s.cap[k]),?_,by unfold capL;rw[List.getElem_map],by omega,by omega⟩;rw[hr];have e1:((s.cap[k].1.toNat:Nat):Int)=s.cap[k].1:=by omega
 have e2:((s.cap[k].2.1.toNat:Nat):Int)=s.cap[k].2.1:=by omega
 rw[e1,e2];rfl
theorem build_any {D:Nat} (s:SR) (Ap Ac Av U:Option Addr) (cp cc cv cu:Nat) (u:List Nat) (val:Nat→Rat) (xb vb mb:Nat) (w:World)
 (hsd:soundB s=true) (hc3:s.cap.length≤300) (hm:u.length≤8) (hu:u.Nodup) (hun:∀p,p∈u→p<s.ps.length) (hv:Vals val D)
 (hx:Bk w xb 74 [.slice U u.length cu,.slice none 0 0,.slice none 0 0])
 (hEW:∀W,Kp [xb] w W→Env W) (hsW:∀W,Kp [xb] w W→InLk W Ac s.cap) (hUW:∀W,Kp [xb] w W→InInt W U (u.map fun(q:Nat)=>(q:Int))) (hVW:∀W,Kp [xb] w W→VM W vb mb s.ps.length val) :
 Calls Tryz.prog 48 #[.pointer (some ⟨xb,0,none⟩),.agg #[.slice Ap s.ps.length cp,.slice Ac s.cap.length cc,.slice Av s.vot.length cv],.func (.func 47) #[] #[.pointer (some ⟨vb,0,none⟩)]] w fun e w'=>e=.returned (.tuple #[])∧∃w3,Kp [xb] w w3∧BdI w3 w' xb u.length u.length (.slice U u.length cu) (sysA (capL s.cap) u val):=by
 have hn60:=sound_n60 hsd;have hL:=caps_of hsd;have hxl:=hx.lt;have hK0:Hid (Kp [xb] w (w.alloc (.cells #[.slice Ap s.ps.length cp,.slice Ac s.cap.length cc,.slice Av s.vot.length cv] 25))):=(Kp.refl [xb] w).alloc _;have hs0:Hid (Bk (w.alloc (.cells #[.slice Ap s.ps.length cp,.slice Ac s.cap.length cc,.slice Av s.vot.length cv] 25)) w.heap.size 25 (SC s Ap Ac Av cp cc cv)):=Bk.new w _ _;have hx0:Hid (Bk (w.alloc (.cells #[.slice Ap s.ps.length cp,.slice Ac s.cap.length cc,.slice Av s.vot.length cv] 25)) xb 74 [.slice U u.length cu,.slice none 0 0,.slice none 0 0]):=hx.alloc _;have kn1:=Lib.hid (fun W hW=>shnum_rq (-1) (-1) (by decide +kernel) (by omega) W hW);have kn0:=Lib.hid (fun W hW=>shnum_rq 0 0 (by decide +kernel) (by omega) W hW);have kn2:=Lib.hid (fun W hW=>shnum_rq 1 1 (by decide +kernel) (by omega) W hW);have kix:Hid (∀W x,Kp [xb] w W→Calls Tryz.prog 96 #[.slice U u.length cu,.int .i64 x] W fun e w'=>e=.returned (.int .i64 (ixOf (u.map fun(q:Nat)=>(q:Int)) x))∧w'=W):=fun W x h=>by have:=shidx_any U cu _ x W (hUW W h) (by rw[List.length_map];omega);rwa [List.length_map]at this
 have kva:Hid (∀W (p:Nat),p<s.ps.length→Kp [xb] w W→Calls Tryz.prog 47 #[.int .i64 (p:Int),.pointer (some ⟨vb,0,none⟩)] W fun e w'=>e=.returned (.agg #[.bool (rq (val p)).1,.string (rq (val p)).2.1,.string (rq (val p)).2.2])∧Below W.heap.size W w'):=fun W p hp h=>shval_any s.ps.length val vb mb p hp (by omega) W (hEW W h) (hVW W h);have hlk:=Lib.hid (fun k h=>link_part hsd (k:=k) h);have hcl:(capL s.cap).length=s.cap.length:=by unfold capL;rw[List.length_map]
 have hug:Hid (∀i (h:i<u.length),u[i]<s.ps.length∧u.getD i 0=u[i]):=fun i h=>⟨hun _ (List.getElem_mem h),getD_get h⟩;have hul:(u.map fun(q:Nat)=>(q:Int)).length=u.length:=List.length_map ..;replace hEW:=Lib.hid hEW;replace hsW:=Lib.hid hsW;replace hUW:=Lib.hid hUW;replace hVW:=Lib.hid hVW;replace hL:=Lib.hid hL;replace hv:=Lib.hid hv;replace hu:=Lib.hid hu;replace hsd:=Lib.hid hsd;replace hx:=Lib.hid hx;replace hcl:=Lib.hid hcl;replace hul:=Lib.hid hul;clear hun;obtain⟨m,hme⟩:∃m,m=u.length:=⟨_,rfl⟩;have k1:=Lib.hid (kn1.out (w.alloc (.cells #[.slice Ap s.ps.length cp,.slice Ac s.cap.length cc,.slice Av s.vot.length cv] 25)) (hEW.out _ hK0.out));rw[←hme]at hx hx0 hm kix ⊢;replace hme:=Lib.hid hme;have x0:=hx0.out.cell (j:=0) rfl;have x9:=hx0.out.lt;go_enter Tryz.func48,Tryz.ntmps48
 go_wp2_with fail
 refine k1.out.mono ?_;rintro e w2 ⟨rfl,hb⟩;have hK2:=Lib.hid (hK0.out.below hb);have hs2:=Lib.hid (hs0.out.below hb);have hx2:=Lib.hid (hx0.out.below hb);clear hb k1 kn1 x0 x9 hK0 hs0 hx0;obtain⟨w3,hw3⟩:∃W,W=(w2.alloc (.cells #[.bool (rq (-1)).1,.string (rq (-1)).2.1,.string (rq (-1)).2.2] 37)):=⟨_,rfl⟩;obtain⟨mnb,hmnb⟩:∃x,x=w2.heap.size:=⟨_,rfl⟩;have hK3:Hid (Kp [xb] w w3):=by rw[hw3];exact hK2.out.alloc _
 have hs3:Hid (Bk w3 w.heap.size 25 (SC s Ap Ac Av cp cc cv)):=by rw[hw3];exact hs2.out.alloc _
 have hx3:Hid (Bk w3 xb 74 [.slice U m cu,.slice none 0 0,.slice none 0 0]):=by rw[hw3];exact hx2.out.alloc _
 have hmn3:Hid (Bk w3 mnb 37 [.bool (rq (-1)).1,.string (rq (-1)).2.1,.string (rq (-1)).2.2]):=by rw[hw3,hmnb];exact Bk.new _ _ _
 have hsz3:Hid (w2.heap.size<w3.heap.size∧w.heap.size<w2.heap.size):=⟨by rw[hw3];simp,hs2.out.lt⟩;have x0:=hx2.out.cell (j:=0) rfl;have x9:=hx2.out.lt
 go_wp2_with fail
 (try rw[←hw3])
 (try rw[←hmnb])
 replace hw3:=Lib.hid hw3;clear x0 x9 hK2 hs2 hx2;have hI0:Hid (BdI w3 w3 xb m 0 (.slice U m cu) (sysA (capL s.cap) u val)):=BdI.start hx3.out;have hlt3:Hid (xb<w3.heap.size∧w.heap.size<w3.heap.size∧mnb<w3.heap.size∧mnb≠xb∧w.heap.size≠xb):=⟨hx3.out.lt,hs3.out.lt,hmn3.out.lt,by have:=hsz3.out;omega,by omega⟩;replace hmnb:=Lib.hid hmnb
 go_loopw [21] (fun ix wr=>∃(i:Nat),i≤m∧ix=.int .i64 (i:Int)∧Hid (BdI w3 wr xb m i (.slice U m cu) (sysA (capL s.cap) u val))) (fun ix _=>m-(intOf ix).toNat)
 case atStart=>exact⟨0,Nat.zero_le _,rfl,hI0⟩
 case round =>
  clear hI0;obtain⟨i,hi,rfl,hI⟩:=hrel;obtain⟨wy,rfl⟩:∃z,z=wr:=⟨_,rfl⟩
  by_cases him:i<m
  rotate_left
  · obtain rfl:i=m:=by omega
    go_wp2
    (try simp only[Exit.inBlock,Exit.then])
    go_end0;exact⟨rfl,w3,hK3.out,hI.out⟩
  · obtain ⟨Aa,Ab,ca,cb,bl,hKy,hxy,hoa,hob,hap,hrows⟩:=hI.out;replace hKy:=Lib.hid hKy;replace hxy:=Lib.hid hxy;replace hoa:=Lib.hid hoa;replace hob:=Lib.hid hob;replace hap:=Lib.hid hap;replace hrows:=Lib.hid hrows;clear hI;have hil:i<u.length:=by rw[←hme.out];exact him
    have hKw:Hid (Kp [xb] w wy):=kp_trans hK3.out hKy.out (fun y hy=>.inl hy);have hBw:=Lib.hid (fun W (h:Below wy.heap.size wy W)=>hKw.out.below h);obtain⟨ub,uo,hUe,hub,huc⟩:=(hUW.out wy hKw.out) (by rw[hul.out];omega);subst hUe;have e1:=huc i (by rw[hul.out];omega);rw[List.getElem_map]at e1;obtain⟨hpn,hpd⟩:=hug.out i hil;obtain⟨p,hp⟩:∃p,p=u[i]'hil:=⟨_,rfl⟩;rw[←hp]at e1 hpn hpd;replace hp:=Lib.hid hp;clear huc;have j0:(0:Int)≤(i:Int):=by omega
    have j1:(i:Int)<(m:Int):=by omega
    have x0:=hxy.out.cell (j:=0) rfl;have x9:=hxy.out.lt;have hmk:=run_make_q 29 Tryz.underlying29 m (by omega);obtain⟨rb,hrb⟩:∃x,x=wy.heap.size:=⟨_,rfl⟩;obtain⟨w5,hw5⟩:∃W,W=(wy.alloc (.cells (rowL m fun _=>zraw).toArray 37)):=⟨_,rfl⟩;have hB5:Hid (Below wy.heap.size wy w5):=by rw[hw5];exact(Below.refl _ wy).alloc (Nat.le_refl _) _
    have hR5:Hid (RowB w5 rb m fun j=>if j<0 then rq 0 else zraw):=by rw[hw5,hrb];refine RowB.congr (r:=fun _=>zraw) (heap_alloc_new wy _) fun j _=>?_;rw[if_neg (Nat.not_lt_zero _)]
    go_wp2_with fail
    (try rw[←hw5])
    (try rw[←hrb])
    replace hw5:=Lib.hid hw5;replace hrb:=Lib.hid hrb;clear hmk x0 x9 e1
    go_loopw [34] (fun kx wr=>∃(k:Nat),k≤m∧kx=.int .i64 (k:Int)∧Hid (Below wy.heap.size wy wr)∧Hid (RowB wr rb m fun j=>if j<k then rq 0 else zraw)) (fun kx _=>m-(intOf kx).toNat)
    case atStart=>exact⟨0,Nat.zero_le _,rfl,hB5,hR5⟩
    case round =>
     clear hB5 hR5;obtain⟨k,hk,rfl,hBz,hRz⟩:=hrel;obtain⟨wz,rfl⟩:∃z,z=wr:=⟨_,rfl⟩
     by_cases hkm:k<m
     · have k0:=Lib.hid (kn0.out wz (hEW.out _ (hBw.out _ hBz.out)));have q0:(0:Int)≤(k:Int):=by omega
       have q1:(k:Int)<(m:Int):=by omega
       go_wp2_with fail
       refine k0.out.mono ?_;rintro e w6 ⟨rfl,hb⟩;have hB6:Hid (Below wy.heap.size wy w6):=hBz.out.trans (hb.mono hBz.out.size);have hR6:Hid (RowB w6 rb m fun j=>if j<k then rq 0 else zraw):=hRz.out.below hb hRz.out.lt;clear hb k0 hBz hRz;obtain⟨r1,r2,r3⟩:=hR6.out.cell hkm;have f1:=hR6.out.frozen (k*3);have f2:=hR6.out.frozen (k*3+1);have f3:=hR6.out.frozen (k*3+2);have r9:=hR6.out.lt;have hrw:Hid (wy.heap.size≤rb):=Nat.le_of_eq hrb.out.symm;have hB7:Hid (Below wy.heap.size wy (((w6.setCell ⟨rb,k*3,none⟩ (.bool (rq (0)).1)).setCell ⟨rb,k*3+1,none⟩ (.string (rq (0)).2.1)).setCell ⟨rb,k*3+2,none⟩ (.string (rq (0)).2.2))):=((hB6.out.setCell (p:=⟨rb,k*3,none⟩) hrw.out _).setCell (p:=⟨rb,k*3+1,none⟩) hrw.out _).setCell (p:=⟨rb,k*3+2,none⟩) hrw.out _;have hR7:Hid (RowB (((w6.setCell ⟨rb,k*3,none⟩ (.bool (rq (0)).1)).setCell ⟨rb,k*3+1,none⟩ (.string (rq (0)).2.1)).setCell ⟨rb,k*3+2,none⟩ (.string (rq (0)).2.2)) rb m fun j=>if j<k+1 then rq 0 else zraw):=(hR6.out.set hkm (rq 0)).congr fun j _=>by by_cases c:j=k;(· rw[if_pos c,if_pos (by omega)]);(· rw[if_neg c];by_cases d:j<k;(· rw[if_pos d,if_pos (by omega)]);(· rw[if_neg d,if_neg (by omega)]))
       generalize (if k<k then rq 0 else zraw)=rz at r1 r2 r3;go_wp2;exact⟨⟨k+1,by omega,by go_num,hB7,hR7⟩,by simp only[intOf];omega⟩
     · obtain rfl:k=m:=by omega
       have hR8:Hid (RowB wz rb k fun _=>rq 0):=hRz.out.congr fun j hj=>by rw[if_pos hj]
       clear hRz;have k2:=Lib.hid (kn2.out wz (hEW.out _ (hBw.out _ hBz.out)))
       go_wp2_with fail
       refine k2.out.mono ?_;rintro e w6 ⟨rfl,hb⟩;have hB6:Hid (Below wy.heap.size wy w6):=hBz.out.trans (hb.mono hBz.out.size);have hR6:Hid (RowB w6 rb k fun _=>rq 0):=hR8.out.below hb hR8.out.lt;clear hb k2 kn2 hBz hR8;obtain⟨r1,r2,r3⟩:=hR6.out.cell him;have f1:=hR6.out.frozen (i*3);have f2:=hR6.out.frozen (i*3+1);have f3:=hR6.out.frozen (i*3+2);have r9:=hR6.out.lt;have hrw:Hid (wy.heap.size≤rb):=Nat.le_of_eq hrb.out.symm;obtain⟨w7,hw7⟩:∃W,W=(((w6.setCell ⟨rb,i*3,none⟩ (.bool (rq (1)).1)).setCell ⟨rb,i*3+1,none⟩ (.string (rq (1)).2.1)).setCell ⟨rb,i*3+2,none⟩ (.string (rq (1)).2.2)):=⟨_,rfl⟩;have hB7:Hid (Below wy.heap.size wy w7):=by rw[hw7];exact((hB6.out.setCell (p:=⟨rb,i*3,none⟩) hrw.out _).setCell (p:=⟨rb,i*3+1,none⟩) hrw.out _).setCell (p:=⟨rb,i*3+2,none⟩) hrw.out _
       have hR7:Hid (RowB w7 rb k fun j=>rq (rowR (capL s.cap) u i 0 j)):=by rw[hw7];exact(hR6.out.set him (rq 1)).congr fun j _=>by rw[rowR_zero];by_cases c:j=i;(· rw[if_pos c,if_pos c.symm]);(· rw[if_neg c,if_neg (fun e=>c e.symm)])
       have k3:=Lib.hid (kn0.out w7 (hEW.out _ (hBw.out _ hB7.out)))
       go_wp2_with fail
       (try rw[←hw7])
       replace hw7:=Lib.hid hw7;refine k3.out.mono ?_;rintro e w8 ⟨rfl,hb⟩;have hB8:Hid (Below wy.heap.size wy w8):=hB7.out.trans (hb.mono hB7.out.size);have hR8:Hid (RowB w8 rb k fun j=>rq (rowR (capL s.cap) u i 0 j)):=hR7.out.below hb hR7.out.lt;clear hb k3 hB6 hR6 hB7 hR7 r1 r2 r3 f1 f2 f3 r9 kn0;obtain⟨gb,hgb⟩:∃x,x=w8.heap.size:=⟨_,rfl⟩;obtain⟨w9,hw9⟩:∃W,W=(w8.alloc (.cells #[.bool (rq (0)).1,.string (rq (0)).2.1,.string (rq (0)).2.2] 37)):=⟨_,rfl⟩;have hB9:Hid (Below wy.heap.size wy w9):=by rw[hw9];exact hB8.out.alloc hB8.out.size _
       have hR9:Hid (RowB w9 rb k fun j=>rq (rowR (capL s.cap) u i 0 j)):=by rw[hw9];exact hR8.out.alloc _
       have hG9:Hid (Bk w9 gb 37 [.bool (rq (rgtR (capL s.cap) u val i 0)).1,.string (rq (rgtR (capL s.cap) u val i 0)).2.1,.string (rq (rgtR (capL s.cap) u val i 0)).2.2]):=by rw[hw9,hgb,rgtR_zero];exact Bk.new _ _ _
       have hrg:Hid (rb<gb∧wy.heap.size≤gb):=⟨by rw[hgb];exact hR8.out.lt,by rw[hgb];exact hB8.out.size⟩;have hs9:=Lib.hid ((hs3.out.kp hKy.out (by have:=hlt3.out;simp;omega)).below hB9.out);have u1:=hs9.out.cell (j:=1) rfl;have u9:=hs9.out.lt;rw[hw9]at u1 u9
       go_wp2_with fail
       (try rw[←hw9])
       (try rw[←hgb])
       replace hw9:=Lib.hid hw9;replace hgb:=Lib.hid hgb;clear u1 u9 hB8 hR8 hs9
       go_loopw [50] (fun kx wr=>∃(c:Nat),c≤s.cap.length∧kx=.int .i64 (c:Int)∧Hid (Below wy.heap.size wy wr)∧Hid (RowB wr rb k fun j=>rq (rowR (capL s.cap) u i c j))∧Hid (Bk wr gb 37 [.bool (rq (rgtR (capL s.cap) u val i c)).1,.string (rq (rgtR (capL s.cap) u val i c)).2.1,.string (rq (rgtR (capL s.cap) u val i c)).2.2])) (fun kx _=>s.cap.length-(intOf kx).toNat)
       case atStart=>exact⟨0,Nat.zero_le _,rfl,hB9,hR9,hG9⟩
       case round =>
        clear hB9 hR9 hG9;obtain⟨c,hc,rfl,hBz,hRz,hGz⟩:=hrel;obtain⟨wz,rfl⟩:∃z,z=wr:=⟨_,rfl⟩
        by_cases hcl2:c<s.cap.length
        · obtain ⟨vb2,off,hAe,hbl,hcc⟩:=(hsW.out wz (hBw.out _ hBz.out)) (by omega);subst hAe;obtain⟨e1,e2,e3,e4,e5⟩:=hcc c hcl2;obtain⟨co,ho,part,hlk1,hlk2,hco,hho⟩:=hlk.out c hcl2;rw[hlk1]at e1 e2 e3 e4 e5;replace e1:wz.cell? ⟨vb2,off+c*5,none⟩=some (.int .i64 (co:Int)):=e1;replace e2:wz.cell? ⟨vb2,off+c*5+1,none⟩=some (.int .i64 (ho:Int)):=e2;replace e3:wz.cell? ⟨vb2,off+c*5+2,none⟩=some (.bool (rq part).1):=e3;replace e4:wz.cell? ⟨vb2,off+c*5+3,none⟩=some (.string (rq part).2.1):=e4;replace e5:wz.cell? ⟨vb2,off+c*5+4,none⟩=some (.string (rq part).2.2):=e5;have hclc:c<(capL s.cap).length:=by rw[hcl.out];exact hcl2
          have hpt:(capL s.cap)[c].2.2=part:=by rw[hlk2]
          have hp1:=part_short hL.out hclc;have hp2:=part_neg hL.out hclc;have hp3:=Lib.hid (fun q=>part_val hL.out hv.out hclc q);rw[hpt]at hp1 hp2;replace hp1:=Lib.hid hp1;replace hp2:=Lib.hid hp2;have hsk:Hid (co≠p→(∀j,rowR (capL s.cap) u i (c+1) j=rowR (capL s.cap) u i c j)∧rgtR (capL s.cap) u val i (c+1)=rgtR (capL s.cap) u val i c):=fun hne=>row_skip hclc (by rw[hlk2,hpd];exact hne);have hin:Hid (co=p→∀t (ht:t<u.length),ho=u.getD t 0→(∀j,j<u.length→rowR (capL s.cap) u i (c+1) j=if j=t then rowR (capL s.cap) u i c t+-1*part else rowR (capL s.cap) u i c j)∧rgtR (capL s.cap) u val i (c+1)=rgtR (capL s.cap) u val i c):=fun he t ht hh=>by have h:=row_in (val:=val) (i:=i) hu.out hclc (by rw[hlk2,hpd];exact he) ht (by rw[hlk2];exact hh);rwa [hpt]at h
          have hout:Hid (co=p→ho∉u→(∀j,j<u.length→rowR (capL s.cap) u i (c+1) j=rowR (capL s.cap) u i c j)∧rgtR (capL s.cap) u val i (c+1)=rgtR (capL s.cap) u val i c+part*val ho):=fun he hh=>by have h:=row_out (val:=val) (i:=i) hclc (by rw[hlk2,hpd];exact he) (by rw[hlk2];exact hh);rwa [hlk2]at h
          replace hlk1:=Lib.hid hlk1;replace hlk2:=Lib.hid hlk2;replace hpt:=Lib.hid hpt;replace hclc:=Lib.hid hclc;clear hcc;have c0:(0:Int)≤(c:Int):=by omega
          have c1:(c:Int)<(s.cap.length:Int):=by omega
          obtain⟨lb,hlb⟩:∃x,x=wz.heap.size:=⟨_,rfl⟩;obtain⟨wa,hwa⟩:∃W,W=(wz.alloc (.cells #[.int .i64 (co:Int),.int .i64 (ho:Int),.bool (rq part).1,.string (rq part).2.1,.string (rq part).2.2] 42)):=⟨_,rfl⟩;have hBa:Hid (Below wy.heap.size wy wa):=by rw[hwa];exact hBz.out.alloc hBz.out.size _
          have hRa:Hid (RowB wa rb k fun j=>rq (rowR (capL s.cap) u i c j)):=by rw[hwa];exact hRz.out.alloc _
          have hGa:Hid (Bk wa gb 37 [.bool (rq (rgtR (capL s.cap) u val i c)).1,.string (rq (rgtR (capL s.cap) u val i c)).2.1,.string (rq (rgtR (capL s.cap) u val i c)).2.2]):=by rw[hwa];exact hGz.out.alloc _
          have hLa:Hid (Bk wa lb 42 [.int .i64 (co:Int),.int .i64 (ho:Int),.bool (rq part).1,.string (rq part).2.1,.string (rq part).2.2]):=by rw[hwa,hlb];exact Bk.new _ _ _
          have hnl:Hid (rb≠lb∧gb≠lb):=⟨by rw[hlb];exact Nat.ne_of_lt hRz.out.lt,by rw[hlb];exact Nat.ne_of_lt hGz.out.lt⟩;have y0:=hLa.out.cell (j:=0) rfl;have y1:=hLa.out.cell (j:=1) rfl;have y9:=hLa.out.lt;rw[hwa,hlb]at y0 y1 y9
          by_cases hcp:co=p
          rotate_left
          · have t1:((co:Int) != (p:Int))=true:=by rw[bne_iff_ne];omega
            have hnx:=hsk.out hcp;have hRb:Hid (RowB wa rb k fun j=>rq (rowR (capL s.cap) u i (c+1) j)):=hRa.out.congr fun j _=>by rw[hnx.1 j]
            have hGb:Hid (Bk wa gb 37 [.bool (rq (rgtR (capL s.cap) u val i (c+1))).1,.string (rq (rgtR (capL s.cap) u val i (c+1))).2.1,.string (rq (rgtR (capL s.cap) u val i (c+1))).2.2]):=by rw[hnx.2];exact hGa.out
            replace hcp:=Lib.hid hcp;rw[hwa]at hBa hRb hGb;clear hnx hsk hin hout hRa hGa hLa;go_wp2;exact⟨⟨c+1,by omega,by go_num,hBa,hRb,hGb⟩,by simp only[intOf];omega⟩
          · have t1:((co:Int) != (p:Int))=false:=by rw[bne_eq_false_iff_eq];omega
            have hcp2:=Lib.hid hcp;clear hcp;have hxa:=Lib.hid (hxy.out.below hBa.out);clear hsk y0 y1 y9;have y0:=hLa.out.cell (j:=0) rfl;have y9:=hLa.out.lt;rw[hwa,hlb]at y0 y9
            go_wp2_with fail
            subst hwa;subst hlb;clear y0 y9;have hkw:=Lib.hid (fun W (h:Below wy.heap.size wy W)=>hBw.out W h);have hBd:Hid (Below wy.heap.size wy (wz.alloc (.cells #[.int .i64 (co:Int),.int .i64 (ho:Int),.bool (rq part).1,.string (rq part).2.1,.string (rq part).2.2] 42)).drew):=hBa.out.drew;have hSd:Hid ((wz.alloc (.cells #[.int .i64 (co:Int),.int .i64 (ho:Int),.bool (rq part).1,.string (rq part).2.1,.string (rq part).2.2] 42)).drew.cell? ⟨xb,0,none⟩=some (.slice (some ⟨ub,uo,none⟩) k cu)∧(wz.alloc (.cells #[.int .i64 (co:Int),.int .i64 (ho:Int),.bool (rq part).1,.string (rq part).2.1,.string (rq part).2.2] 42)).drew.cell? ⟨wz.heap.size,1,none⟩=some (.int .i64 (ho:Int))):=⟨hxa.out.cell (j:=0) rfl,hLa.out.cell (j:=1) rfl⟩;have x0:=hxa.out.cell (j:=0) rfl;have x9:=hxa.out.lt;have y1:=hLa.out.cell (j:=1) rfl;have y9:=hLa.out.lt
            go_region_held3 (fun W=>W.cell? ⟨xb,0,none⟩=some (.slice (some ⟨ub,uo,none⟩) k cu)∧W.cell? ⟨wz.heap.size,1,none⟩=some (.int .i64 (ho:Int))) (first | (with_reducible exact hSd.out) | (with_reducible exact⟨hxa.out.cell (j:=0) rfl,hLa.out.cell (j:=1) rfl⟩) | go_keep) (first | (go_at_call 96;refine(kix.out _ _ (hkw.out _ hBd.out)).mono ?_;rintro e w7b ⟨rfl,hq⟩;obtain rfl:=hq.symm))
            clear x0 x9 y1 y9 hSd;have hRd:Hid (RowB (wz.alloc (.cells #[.int .i64 (co:Int),.int .i64 (ho:Int),.bool (rq part).1,.string (rq part).2.1,.string (rq part).2.2] 42)).drew rb k fun j=>rq (rowR (capL s.cap) u i c j)):=hRa.out;have hGd:Hid (Bk (wz.alloc (.cells #[.int .i64 (co:Int),.int .i64 (ho:Int),.bool (rq part).1,.string (rq part).2.1,.string (rq part).2.2] 42)).drew gb 37 [.bool (rq (rgtR (capL s.cap) u val i c)).1,.string (rq (rgtR (capL s.cap) u val i c)).2.1,.string (rq (rgtR (capL s.cap) u val i c)).2.2]):=hGa.out;have hLd:Hid (Bk (wz.alloc (.cells #[.int .i64 (co:Int),.int .i64 (ho:Int),.bool (rq part).1,.string (rq part).2.1,.string (rq part).2.2] 42)).drew wz.heap.size 42 [.int .i64 (co:Int),.int .i64 (ho:Int),.bool (rq part).1,.string (rq part).2.1,.string (rq part).2.2]):=hLa.out;obtain⟨wd,hwd⟩:∃W,W=(wz.alloc (.cells #[.int .i64 (co:Int),.int .i64 (ho:Int),.bool (rq part).1,.string (rq part).2.1,.string (rq part).2.2] 42)).drew:=⟨_,rfl⟩;rw[←hwd]at hBd hRd hGd hLd
            (try rw[←hwd])
            replace hwd:=Lib.hid hwd;clear hBa hRa hGa hLa hxa;have hmnd:Hid (Bk wd mnb 37 [.bool (rq (-1)).1,.string (rq (-1)).2.1,.string (rq (-1)).2.2]):=(hmn3.out.kp hKy.out (by have:=hlt3.out;simp;omega)).below hBd.out;have hmrb:Hid (rb≠mnb):=fun e=>by have h1:=hlt3.out;have h2:=hKy.out.size;have h3:=hrb.out;omega
            by_cases hu1:ho∈u
            · obtain⟨t,ht,hte⟩:∃t,t<u.length∧ho=u.getD t 0:=⟨u.idxOf ho,List.idxOf_lt_length_iff.2 hu1,(getD_idx hu1).symm⟩;have hix:ixOf (u.map fun(q:Nat)=>(q:Int)) (ho:Int)=(t:Int):=ix_in hu.out ht hte;have hnx:=hin.out hcp2.out t ht hte;rw[hix];rw[←hme.out]at ht hnx;replace hnx:=Lib.hid hnx;replace hix:=Lib.hid hix;replace hu1:=Lib.hid hu1;replace hte:=Lib.hid hte;have t2:decide ((0:Int)≤(t:Int))=true:=decide_eq_true (by omega)
              go_wp2_with fail
              refine bd19 mnb rb wz.heap.size k t _ (rowR (capL s.cap) u i c t) part _ _ wd (hEW.out _ (hBw.out _ hBd.out)) ht (by omega) hRd.out rfl hmnd.out hLd.out hmrb.out hnl.out.1 (rowR_short hL.out) hp1.out hp2.out ?_;intro _ _ _ _ _ _ _ _ _ _ _ we hRe hKe;have hBe:Hid (Below wy.heap.size wy we):=hKe.out.to_below hBd.out (fun x hx=>by have:=hrb.out;simp at hx;omega);have hRf:Hid (RowB we rb k fun j=>rq (rowR (capL s.cap) u i (c+1) j)):=hRe.out.congr fun j hj=>by rw[hnx.out.1 j hj];split<;>rfl
              have hGf:Hid (Bk we gb 37 [.bool (rq (rgtR (capL s.cap) u val i (c+1))).1,.string (rq (rgtR (capL s.cap) u val i (c+1))).2.1,.string (rq (rgtR (capL s.cap) u val i (c+1))).2.2]):=by rw[hnx.out.2];exact hGd.out.kp hKe.out (by have:=hrg.out;simp;omega)
              clear hRe hKe hRd hGd hLd hBd hmnd;go_wp2;exact⟨⟨c+1,by omega,by go_num,hBe,hRf,hGf⟩,by simp only[intOf];omega⟩
            · have hix:ixOf (u.map fun(q:Nat)=>(q:Int)) (ho:Int)=-1:=ix_out hu1;have hnx:=hout.out hcp2.out hu1;rw[hix];rw[←hme.out]at hnx;replace hnx:=Lib.hid hnx;replace hix:=Lib.hid hix;replace hu1:=Lib.hid hu1;have hp4:=Lib.hid (hp3.out ho);rw[hpt.out]at hp4
              go_wp2_with fail
              refine bd20 gb wz.heap.size vb (ho:Int) (rgtR (capL s.cap) u val i c) part (val ho) _ wd (hEW.out _ (hBw.out _ hBd.out)) hGd.out hLd.out hnl.out.2 (rgtR_short hL.out hv.out) hp1.out (hv.out.short ho) hp4.out (fun W hW=>kva.out W ho hho (hBw.out _ (hBd.out.trans (hW.mono hBd.out.size)))) ?_;intro _ _ _ _ _ _ _ _ we hGe hKe;have hBe:Hid (Below wy.heap.size wy we):=hKe.out.to_below hBd.out (fun x hx=>by have:=hrg.out;simp at hx;omega);have hRf:Hid (RowB we rb k fun j=>rq (rowR (capL s.cap) u i (c+1) j)):=(rowB_kp hRd.out hKe.out (by have:=hrg.out;simp;omega)).congr fun j hj=>by rw[hnx.out.1 j hj]
              have hGf:Hid (Bk we gb 37 [.bool (rq (rgtR (capL s.cap) u val i (c+1))).1,.string (rq (rgtR (capL s.cap) u val i (c+1))).2.1,.string (rq (rgtR (capL s.cap) u val i (c+1))).2.2]):=by rw[hnx.out.2];exact hGe.out
              clear hGe hKe hRd hGd hLd hBd hmnd;go_wp2;exact⟨⟨c+1,by omega,by go_num,hBe,hRf,hGf⟩,by simp only[intOf];omega⟩
        · obtain rfl:c=s.cap.length:=by omega
          have hRf:Hid (RowB wz rb k fun j=>rq (sysA (capL s.cap) u val i j)):=hRz.out.congr fun j hj=>by rw[←hcl.out,rowR_all (val:=val) (by rw[←hme.out];exact hj)]
          have hGf:Hid (Bk wz gb 37 [.bool (rq (sysA (capL s.cap) u val i k)).1,.string (rq (sysA (capL s.cap) u val i k)).2.1,.string (rq (sysA (capL s.cap) u val i k)).2.2]):=by have h:=hGz.out;rw[←hcl.out,rgtR_all,←hme.out]at h;exact h
          have hxz:=Lib.hid (hxy.out.below hBz.out);have hoz:=Lib.hid (own_below' hoa.out hBz.out);have hpz:=Lib.hid (own_below' hob.out hBz.out);clear hRz hGz hlk kix kva
          go_wp2_with fail
          refine bd22 xb gb rb k i ca cb w3.heap.size Aa Ab _ _ _ (rq (sysA (capL s.cap) u val i k)) wz (by omega) hxz.out hGf.out (by have h1:=hlt3.out;have h2:=hKy.out.size;have h3:=hrg.out;omega) (Nat.le_trans hKy.out.size hBz.out.size) hlt3.out.1 hoz.out hpz.out hap.out (fun e=>by have h1:=(hoa.out.lt _ e).2;have h3:=hrg.out;omega) (fun e=>by have h1:=(hob.out.lt _ e).2;have h3:=hrg.out;omega) ?_;intro _ _ _ _ _ _ _ _ _ _ _ _ _ _ _ _ _ _ _ _ Aa2 Ab2 ca2 cb2 we k1 k2 k3 k4 k5 k6 k7;have hI2:Hid (BdI w3 we xb k (i+1) (.slice (some ⟨ub,uo,none⟩) k cu) (sysA (capL s.cap) u val)):=BdI.step hKy.out hoa.out hob.out hrows.out hBz.out hrb.out (by have h1:=hlt3.out;have h2:=hKy.out.size;omega) hRf.out k1.out k2.out k3.out k4.out k5.out k6.out k7.out;clear k1 k2 k3 k4 k5 k6 k7 hxz hoz hpz hRf hGf hBz;go_wp2;exact⟨⟨i+1,by omega,by go_num,hI2⟩,by simp only[intOf];omega⟩
end Sh
end
section
open Go.RowKit Go.Shelf
namespace Sh
open Nt Ci
theorem sysA_short {n D:Nat} {L:List Lp} {u:List Nat} {val:Nat→Rat} (hL:Caps n L) (hv:Vals val D) {i j:Nat} (hj:j≤u.length):ShortQ (sysA L u val i j):=by
 by_cases e:j=u.length
 · rw[e,←rgtR_all];exact rgtR_short hL hv
 · rw[←rowR_all (val:=val) (by omega:j<u.length)];exact rowR_short hL
theorem inRow_rowB {W:World} {b n:Nat} {f:Nat→Rat} (h:RowB W b n fun j=>rq (f j)):InRow W (some ⟨b,0,none⟩) (outL n f):=fun _=>⟨b,0,rfl,h.lt,fun j hj=>by
 have hj':j<n:=by rwa [outL_length]at hj
 obtain⟨c1,c2,c3⟩:=h.cell hj';rw[outL_get];rw[Nat.zero_add];exact⟨c1,c2,c3⟩⟩
theorem BdI.slv {n D:Nat} {w W:World} {xb:Nat} {uv:Value} {L:List Lp} {u:List Nat} {val:Nat→Rat} (h:BdI w W xb u.length u.length uv (sysA L u val)) (hL:Caps n L) (hv:Vals val D) (h8:u.length≤8) :
 ∃(Aa Ab:Option Addr) (ca cb:Nat) (la:List RowH),Kp [xb] w W∧Bk W xb 74 [uv,.slice Aa u.length ca,.slice Ab u.length cb]∧la.length=u.length∧SysIn W Aa Ab la (bRow L u val)∧rowsOf la=aRows L u val:=by
 obtain⟨Aa,Ab,ca,cb,bl,hK,hx,hoa,hob,hap,hrows⟩:=h
 let la:List RowH:=(List.range u.length).map fun k=>((some ⟨bl k,0,none⟩:Option Addr),u.length,outL u.length (sysA L u val k))
 have hll:la.length=u.length:=by simp[la]
 have hla:∀x∈la,∃k,k<u.length∧x=((some ⟨bl k,0,none⟩:Option Addr),u.length,outL u.length (sysA L u val k)):=fun x hx=>by
  obtain⟨k,hk,rfl⟩:=List.mem_map.1 hx;exact⟨k,List.mem_range.1 hk,rfl⟩
 have hmap:(List.range u.length).map (fun k=>Value.slice (some ⟨bl k,0,none⟩) u.length u.length)=la.map hdr:=by
  simp only[la,List.map_map];refine List.map_congr_left fun k _=>?_;simp[hdr,outL_length]
 obtain ⟨A1,c1,e1,hM⟩:=inMat_of_own (L:=la) (v:=.slice Aa u.length ca) (by rw[←hmap,hll];exact hoa) (fun x hx=>by
  obtain⟨k,hk,rfl⟩:=hla x hx;exact inRow_rowB (hrows k hk).1)
 obtain⟨A2,c2,e2,hR⟩:=inRow_of_own hob;rw[hll]at e1;injection e1 with q1 _ _;injection e2 with q2 _ _;subst q1;subst q2;refine⟨Aa,Ab,ca,cb,la,hK,hx,hll,⟨hM,hR,by omega,by rw[show (bRow L u val).length=u.length from outL_length _ _];omega,fun x hx=>?_,fun x hx=>?_⟩,?_⟩
 · obtain⟨k,hk,rfl⟩:=hla x hx;refine⟨by show (outL _ _).length≤_;rw[outL_length];omega,fun y hy=>?_⟩;obtain⟨j,hj,rfl⟩:=List.mem_map.1 (show y∈outL u.length (sysA L u val k) from hy);exact rawSz_rq (sysA_short hL hv (Nat.le_of_lt (List.mem_range.1 hj))).ok
 · obtain⟨j,hj,rfl⟩:=List.mem_map.1 (show x∈outL u.length (fun i=>sysA L u val i u.length) from hx);exact rawSz_rq (sysA_short hL hv (Nat.le_refl _)).ok
 · simp[rowsOf,la,aRows,List.map_map]
theorem slv_any {n D:Nat} {L:List Lp} {F done u:List Nat} {val:Nat→Rat} (hL:Caps n L) (hi:Inv L F done val D) (hx:Nxt L F done u) (hlen:done.length+u.length≤16) (h8:u.length≤8)
 {W:World} {Aa Ab:Option Addr} {ca cb:Nat} {la:List RowH} (hE:Env W) (hl:la.length=u.length) (hs:SysIn W Aa Ab la (bRow L u val)) (hr:rowsOf la=aRows L u val) :
 Calls Tryz.prog 49 #[.slice Aa u.length ca,.slice Ab u.length cb] W fun e w'=>(∃p c,e=.returned (.tuple #[.slice p u.length c,.int .i64 0])∧InRow w' p (outL u.length fun i=>nextV SQ L u val (u.getD i 0)))∧Below W.heap.size W w':=by
 have h:=Solve_r Aa Ab ca cb la (bRow L u val) W hE hs;have hb:(bRow L u val).length=u.length:=outL_length _ _;rw[hr,solve_build hL hi hx hlen h8,hl,hb]at h;refine h.mono fun e w' ⟨⟨p,c,e1,e2⟩,hB⟩=>⟨⟨p,c,?_,e2⟩,hB⟩;rw[e1]
 show Ending.returned (.tuple #[.slice p (outL u.length _).length c,.int .i64 0])=_
 rw[outL_length]
end Sh
end
section
open Go.RowKit Go.Shelf
namespace Sh
open Nt Ci
theorem okQ_short0 {p:Nat} {val:Nat→Rat} {L:List Lp}:OkQ (lsum p val (L.take 0)):=⟨by have:=one_lt_Lim;show 0<Lim;omega,one_lt_Lim⟩
theorem sum20_all (s:SR) (Ap Ac Av Aw:Option Addr) (cp cc cv cw:Nat) (p:Nat) (val:Nat→Rat) (w:World) (hE:Env w) (hs:InLk w Ac s.cap) (hsd:soundB s=true) (hc3:s.cap.length≤300)
 (hv:InRow w Aw (outL s.ps.length val)) (hsv:∀q,q<s.ps.length→ShortQ (val q)) (hpv:∀k (h:k<(capL s.cap).length),ShortQ ((capL s.cap)[k].2.2*val (capL s.cap)[k].2.1)) :
 Calls Tryz.prog 24 #[.agg #[.slice Ap s.ps.length cp,.slice Ac s.cap.length cc,.slice Av s.vot.length cv],.slice Aw s.ps.length cw,.int .i64 (p:Int)] w fun e w'=>(∃gx nx dx ok,e=.returned (.tuple #[.agg #[.bool gx,.string nx,.string dx],.bool ok])∧(ok=true→(gx,nx,dx)=rq (lsum p val (capL s.cap))∧OkQ (lsum p val (capL s.cap)))∧((∀k,k≤(capL s.cap).length→ShortQ (lsum p val ((capL s.cap).take k)))→ok=true))∧Below w.heap.size w w':=by
 have hn60:=sound_n60 hsd;have hL:=caps_of hsd;have hcl:(capL s.cap).length=s.cap.length:=by unfold capL;rw[List.length_map]
 have hlk:=Lib.hid (fun k h=>link_part hsd (k:=k) h);have ho0:Hid (OkQ (lsum p val ((capL s.cap).take 0))):=okQ_short0;have hps:=Lib.hid (fun k h=>part_short hL (k:=k) h);replace hcl:=Lib.hid hcl;replace hL:=Lib.hid hL;replace hsd:=Lib.hid hsd;replace hs:=Lib.hid hs;replace hv:=Lib.hid hv;replace hsv:=Lib.hid hsv;replace hpv:=Lib.hid hpv;replace hE:=Lib.hid hE;have hB2:Hid (Below w.heap.size w ((w.alloc (.cells #[.slice Ap s.ps.length cp,.slice Ac s.cap.length cc,.slice Av s.vot.length cv] 25)).alloc (.cells #[.bool false,.string ⟨#[]⟩,.string ⟨#[]⟩] 37))):=(((Below.refl _ w).alloc (Nat.le_refl _) _).alloc (by simp) _);have hs2:Hid (Bk ((w.alloc (.cells #[.slice Ap s.ps.length cp,.slice Ac s.cap.length cc,.slice Av s.vot.length cv] 25)).alloc (.cells #[.bool false,.string ⟨#[]⟩,.string ⟨#[]⟩] 37)) (w.heap.size) 25 [.slice Ap s.ps.length cp,.slice Ac s.cap.length cc,.slice Av s.vot.length cv]):=by have h:=Bk.new w 25 [.slice Ap s.ps.length cp,.slice Ac s.cap.length cc,.slice Av s.vot.length cv];have h:=h.alloc (.cells #[.bool false,.string ⟨#[]⟩,.string ⟨#[]⟩] 37); exact h
 have hr2:Hid (Bk ((w.alloc (.cells #[.slice Ap s.ps.length cp,.slice Ac s.cap.length cc,.slice Av s.vot.length cv] 25)).alloc (.cells #[.bool false,.string ⟨#[]⟩,.string ⟨#[]⟩] 37)) (w.heap.size+1) 37 [.bool false,.string ⟨#[]⟩,.string ⟨#[]⟩]):=by have h:=Bk.new (w.alloc (.cells #[.slice Ap s.ps.length cp,.slice Ac s.cap.length cc,.slice Av s.vot.length cv] 25)) 37 [.bool false,.string ⟨#[]⟩,.string ⟨#[]⟩];simp only[World.size_alloc]at h;exact h
 have kof:Hid (Calls Tryz.prog 20 #[.int .i64 0,.int .i64 1] ((w.alloc (.cells #[.slice Ap s.ps.length cp,.slice Ac s.cap.length cc,.slice Av s.vot.length cv] 25)).alloc (.cells #[.bool false,.string ⟨#[]⟩,.string ⟨#[]⟩] 37)) fun e w'=>e=.returned (.agg #[.bool (rq (0)).1,.string (rq (0)).2.1,.string (rq (0)).2.2])∧Below (((w.alloc (.cells #[.slice Ap s.ps.length cp,.slice Ac s.cap.length cc,.slice Av s.vot.length cv] 25)).alloc (.cells #[.bool false,.string ⟨#[]⟩,.string ⟨#[]⟩] 37))).heap.size ((w.alloc (.cells #[.slice Ap s.ps.length cp,.slice Ac s.cap.length cc,.slice Av s.vot.length cv] 25)).alloc (.cells #[.bool false,.string ⟨#[]⟩,.string ⟨#[]⟩] 37)) w'):=by have h:=of20_any 0 1 ((w.alloc (.cells #[.slice Ap s.ps.length cp,.slice Ac s.cap.length cc,.slice Av s.vot.length cv] 25)).alloc (.cells #[.bool false,.string ⟨#[]⟩,.string ⟨#[]⟩] 37)) (hE.out.below hB2.out) (by omega) (by omega) (by omega) (by omega) (by omega);rw[ofQ_one',show ((0:Int):Rat)=0 from rfl]at h;exact h
 go_enter Tryz.func24,Tryz.ntmps24
 go_wp2_with fail
 refine kof.out.mono ?_;rintro e w3 ⟨rfl,hb⟩;have hB3:=Lib.hid (hB2.out.trans (hb.mono hB2.out.size));have hs3:=Lib.hid (hs2.out.below hb);have hr3:=Lib.hid (hr2.out.below hb);clear hb hB2 hs2 hr2 kof;have hrl:=Lib.hid hr3.out.lt;have hB4:Hid (Below w.heap.size w (w3.alloc (.cells #[.bool (rq (0)).1,.string (rq (0)).2.1,.string (rq (0)).2.2] 37))):=hB3.out.alloc hB3.out.size _;have hs4:=Lib.hid (hs3.out.alloc (.cells #[.bool (rq (0)).1,.string (rq (0)).2.1,.string (rq (0)).2.2] 37));have hr4:=Lib.hid (hr3.out.alloc (.cells #[.bool (rq (0)).1,.string (rq (0)).2.1,.string (rq (0)).2.2] 37));clear hB3 hs3 hr3;have ho4:Hid (Bk (w3.alloc (.cells #[.bool (rq (0)).1,.string (rq (0)).2.1,.string (rq (0)).2.2] 37)) w3.heap.size 37 [.bool (rq (0)).1,.string (rq (0)).2.1,.string (rq (0)).2.2]):=Bk.new _ _ _;obtain⟨ob,hob⟩:∃x,x=w3.heap.size:=⟨_,rfl⟩;have hlt2:Hid (w.heap.size+1<ob):=by rw[hob];exact hrl.out
 obtain⟨w3,hw3⟩:∃W,W=(w3.alloc (.cells #[.bool (rq (0)).1,.string (rq (0)).2.1,.string (rq (0)).2.2] 37)):=⟨_,rfl⟩;rw[←hw3]at hB4 hs4 hr4 ho4;rw[←hob]at ho4
 go_wp2_with fail
 (try rw[←hw3])
 (try rw[←hob])
 have hlt3:Hid (w.heap.size+1<ob∧ob<w3.heap.size):=⟨hlt2.out,ho4.out.lt⟩;replace hw3:=Lib.hid hw3;replace hob:=Lib.hid hob;have hO0:Hid (Bk w3 ob 37 [.bool (rq (lsum p val ((capL s.cap).take 0))).1,.string (rq (lsum p val ((capL s.cap).take 0))).2.1,.string (rq (lsum p val ((capL s.cap).take 0))).2.2]):=ho4;have hK0:Hid (Kp [ob] w3 w3):=Kp.refl _ _;have hEK:Hid (∀W,Kp [ob] w3 W→Below w.heap.size w W):=fun W h=>h.to_below hB4.out (fun x hx=>by have:=hlt3.out.1;simp at hx;omega);have hsK:Hid (∀W,Kp [ob] w3 W→Bk W w.heap.size 25 [.slice Ap s.ps.length cp,.slice Ac s.cap.length cc,.slice Av s.vot.length cv]):=fun W h=>hs4.out.kp h (by have:=hlt3.out.1;simp;omega);have hrK:Hid (∀W,Kp [ob] w3 W→Bk W (w.heap.size+1) 37 [.bool false,.string ⟨#[]⟩,.string ⟨#[]⟩]):=fun W h=>hr4.out.kp h (by have:=hlt3.out.1;simp;omega);clear hs4 hr4
 go_loopw [9] (fun ix wr=>∃(i:Nat),i≤s.cap.length∧ix=.int .i64 (i:Int)∧Hid (Kp [ob] w3 wr)∧Hid (Bk wr ob 37 [.bool (rq (lsum p val ((capL s.cap).take i))).1,.string (rq (lsum p val ((capL s.cap).take i))).2.1,.string (rq (lsum p val ((capL s.cap).take i))).2.2])∧Hid (OkQ (lsum p val ((capL s.cap).take i)))) (fun ix _=>s.cap.length-(intOf ix).toNat)
 case atStart=>exact⟨0,Nat.zero_le _,rfl,hK0,hO0,ho0⟩
 case round =>
  clear hK0 hO0 ho4 ho0;obtain⟨i,hi,rfl,hK,hO,hOk⟩:=hrel;obtain⟨wr0,rfl⟩:∃z,z=wr:=⟨_,rfl⟩;have hS:=Lib.hid (hsK.out _ hK.out);have u1:=hS.out.cell (j:=1) rfl;have u9:=hS.out.lt
  by_cases hil:i<s.cap.length
  · obtain ⟨co,ho,part,hle,hlp,hco,hho⟩:=hlk.out i hil;have hst:=lsum_take (p:=p) (f:=val) (l:=capL s.cap) (k:=i) (by rw[hcl.out];exact hil);rw[hlp]at hst;dsimp only at hst;have hpp:=hpv.out i (by rw[hcl.out];exact hil);rw[hlp]at hpp;have hp1:=hps.out i (by rw[hcl.out];exact hil);rw[hlp]at hp1;dsimp only at hpp hp1;obtain⟨lb,lo,rfl,hll,hlc⟩:=(hs.out.below (hEK.out _ hK.out)) (by omega);obtain⟨c0,c1,c2,c3,c4⟩:=hlc i hil;rw[hle]at c0 c1 c2 c3 c4;dsimp only at c0 c1 c2 c3 c4;replace hst:=Lib.hid hst;replace hpp:=Lib.hid hpp;replace hp1:=Lib.hid hp1;replace hle:=Lib.hid hle;replace hlp:=Lib.hid hlp;clear hlc;have j0:(0:Int)≤(i:Int):=by omega
    have j1:(i:Int)<(s.cap.length:Int):=by omega
    have hKl:Hid (Kp [ob] w3 (wr0.alloc (.cells #[.int .i64 (co:Int),.int .i64 (ho:Int),.bool (rq (part)).1,.string (rq (part)).2.1,.string (rq (part)).2.2] 42))):=hK.out.alloc _;have hOl:Hid (Bk (wr0.alloc (.cells #[.int .i64 (co:Int),.int .i64 (ho:Int),.bool (rq (part)).1,.string (rq (part)).2.1,.string (rq (part)).2.2] 42)) ob 37 [.bool (rq (lsum p val ((capL s.cap).take i))).1,.string (rq (lsum p val ((capL s.cap).take i))).2.1,.string (rq (lsum p val ((capL s.cap).take i))).2.2]):=hO.out.alloc _;have hLl:Hid (Bk (wr0.alloc (.cells #[.int .i64 (co:Int),.int .i64 (ho:Int),.bool (rq (part)).1,.string (rq (part)).2.1,.string (rq (part)).2.2] 42)) wr0.heap.size 42 [.int .i64 (co:Int),.int .i64 (ho:Int),.bool (rq (part)).1,.string (rq (part)).2.1,.string (rq (part)).2.2]):=Bk.new _ _ _;have hlo:Hid (ob<wr0.heap.size):=hO.out.lt
    by_cases hcp:(co:Int)=(p:Int)
    rotate_left
    · have m1:((co:Int) != (p:Int))=true:=by rw[bne_iff_ne];exact hcp
      have hOn:Hid (Bk (wr0.alloc (.cells #[.int .i64 (co:Int),.int .i64 (ho:Int),.bool (rq (part)).1,.string (rq (part)).2.1,.string (rq (part)).2.2] 42)) ob 37 [.bool (rq (lsum p val ((capL s.cap).take (i+1)))).1,.string (rq (lsum p val ((capL s.cap).take (i+1)))).2.1,.string (rq (lsum p val ((capL s.cap).take (i+1)))).2.2]):=by have h:=hst.out;rw[if_neg (fun e=>hcp (by rw[e])),Rat.add_zero]at h;rw[h];exact hOl.out
      have hOkn:Hid (OkQ (lsum p val ((capL s.cap).take (i+1)))):=by have h:=hst.out;rw[if_neg (fun e=>hcp (by rw[e])),Rat.add_zero]at h;rw[h];exact hOk.out
      replace hcp:=Lib.hid hcp;clear hOl hLl hst hO;go_wp2;exact⟨⟨i+1,by omega,by go_num,hKl,hOn,hOkn⟩,by simp only[intOf];omega⟩
    · have m1:((co:Int) != (p:Int))=false:=by rw[bne_eq_false_iff_eq];exact hcp
      have hst2:Hid (lsum p val ((capL s.cap).take (i+1))=lsum p val ((capL s.cap).take i)+part*val ho):=by have h:=hst.out;rw[if_pos (by omega)]at h;exact h
      clear hst;replace hcp:=Lib.hid hcp;obtain⟨vb,vo,rfl,hvl,hvc⟩:=(hv.out.below (hEK.out _ hKl.out) (Nat.le_refl _)) (by rw[outL_length];omega);obtain⟨v0,v1,v2⟩:=hvc ho (by rw[outL_length];omega);rw[outL_get]at v0 v1 v2;clear hvc;have q1:decide ((ho:Int)<0)=false:=decide_eq_false (by omega);have q2:decide ((s.ps.length:Int)≤(ho:Int))=false:=decide_eq_false (by omega);have q3:decide (s.ps.length≤ho)=false:=decide_eq_false (by omega);have q4:(0:Int)≤(ho:Int):=by omega
      have q5:(ho:Int)<(s.ps.length:Int):=by omega
      have hEl:Hid (∀W,Below ((wr0.alloc (.cells #[.int .i64 (co:Int),.int .i64 (ho:Int),.bool (rq (part)).1,.string (rq (part)).2.1,.string (rq (part)).2.2] 42))).heap.size (wr0.alloc (.cells #[.int .i64 (co:Int),.int .i64 (ho:Int),.bool (rq (part)).1,.string (rq (part)).2.1,.string (rq (part)).2.2] 42)) W→Env W):=fun W h=>hE.out.below ((hEK.out _ hKl.out).trans (h.mono (hEK.out _ hKl.out).size));have km:Hid (∀W,Env W→Calls Tryz.prog 21 #[.agg #[.bool (rq (part)).1,.string (rq (part)).2.1,.string (rq (part)).2.2],.agg #[.bool (rq (val ho)).1,.string (rq (val ho)).2.1,.string (rq (val ho)).2.2]] W fun e w'=>e=.returned (.tuple #[.agg #[.bool (rq (part*val ho)).1,.string (rq (part*val ho)).2.1,.string (rq (part*val ho)).2.2],.int .i64 0])∧Below W.heap.size W w'):=fun W hW=>Mul_short part (val ho) hp1.out (hsv.out ho hho) W hW;obtain⟨bx,hbx⟩:∃x,x=wr0.heap.size:=⟨_,rfl⟩;obtain⟨wl,hwl⟩:∃W,W=(wr0.alloc (.cells #[.int .i64 (co:Int),.int .i64 (ho:Int),.bool (rq (part)).1,.string (rq (part)).2.1,.string (rq (part)).2.2] 42)):=⟨_,rfl⟩;rw[←hbx]at hLl hlo;rw[←hwl]at hKl hOl hLl hEl v0 v1 v2 hvl
      go_wp2_with fail
      (try rw[←hwl])
      (try rw[←hbx])
      replace hwl:=Lib.hid hwl;replace hbx:=Lib.hid hbx;clear c0 c1 c2 c3 c4 u1 u9 hll hO hK hS;have HS:Hid (∀W,Below wl.heap.size wl W→(fun W=>W.cell? ⟨bx,1,none⟩=some (.int .i64 (ho:Int))∧W.cell? ⟨bx,2,none⟩=some (.bool (rq (part)).1)∧W.cell? ⟨bx,3,none⟩=some (.string (rq (part)).2.1)∧W.cell? ⟨bx,4,none⟩=some (.string (rq (part)).2.2)∧W.cell? ⟨vb,vo+ho*3,none⟩=some (.bool (rq (val ho)).1)∧W.cell? ⟨vb,vo+ho*3+1,none⟩=some (.string (rq (val ho)).2.1)∧W.cell? ⟨vb,vo+ho*3+2,none⟩=some (.string (rq (val ho)).2.2)) W):=fun W h=>⟨(hLl.out.below h).cell (j:=1) rfl,(hLl.out.below h).cell (j:=2) rfl,(hLl.out.below h).cell (j:=3) rfl,(hLl.out.below h).cell (j:=4) rfl,(h.cell (p:=⟨vb,vo+ho*3,none⟩) hvl).trans v0,(h.cell (p:=⟨vb,vo+ho*3+1,none⟩) hvl).trans v1,(h.cell (p:=⟨vb,vo+ho*3+2,none⟩) hvl).trans v2⟩;have hD:Hid (Below wl.heap.size wl wl.drew):=(Below.refl _ _).drew;have hDa:Hid (Below wl.heap.size wl (wl.alloc (.cells #[.bool false,.string ⟨#[]⟩,.string ⟨#[]⟩] 37)).drew):=((Below.refl _ wl).alloc (Nat.le_refl _) _).drew;have hZ:Hid (Bk (wl.alloc (.cells #[.bool false,.string ⟨#[]⟩,.string ⟨#[]⟩] 37)).drew wl.heap.size 37 [.bool false,.string ⟨#[]⟩,.string ⟨#[]⟩]):=(show Bk (wl.alloc (.cells #[.bool false,.string ⟨#[]⟩,.string ⟨#[]⟩] 37)) wl.heap.size 37 [.bool false,.string ⟨#[]⟩,.string ⟨#[]⟩] from Bk.new _ _ _);have hwz:Hid (wl.heap.size≤wl.heap.size):=Nat.le_refl _;clear v0 v1 v2 hvl
      go_region_held3 (fun W=>W.cell? ⟨bx,1,none⟩=some (.int .i64 (ho:Int))∧W.cell? ⟨bx,2,none⟩=some (.bool (rq (part)).1)∧W.cell? ⟨bx,3,none⟩=some (.string (rq (part)).2.1)∧W.cell? ⟨bx,4,none⟩=some (.string (rq (part)).2.2)∧W.cell? ⟨vb,vo+ho*3,none⟩=some (.bool (rq (val ho)).1)∧W.cell? ⟨vb,vo+ho*3+1,none⟩=some (.string (rq (val ho)).2.1)∧W.cell? ⟨vb,vo+ho*3+2,none⟩=some (.string (rq (val ho)).2.2)) (first | (with_reducible exact HS.out _ hD.out) | (with_reducible exact HS.out _ hDa.out) | (with_reducible exact HS.out _ h8.out) | (with_reducible exact HS.out _ (h8.out.alloc h8.out.size _)) | (with_reducible exact HS.out _ (((h8.out.setCell hwz.out _).setCell hwz.out _).setCell hwz.out _)) | go_keep) (first | (go_at_call 21;refine(km.out _ ?_).mono ?_;(with_reducible exact hEl.out _ hD.out);rintro e w8 ⟨rfl,hb⟩;have h8:=Lib.hid (hD.out.trans (hb.mono hD.out.size));clear hb) | (go_at_call 21;refine(km.out _ ?_).mono ?_;(with_reducible exact hEl.out _ hDa.out);rintro e w8 ⟨rfl,hb⟩;have h8:=Lib.hid (hDa.out.trans (hb.mono hDa.out.size));have hz8:=Lib.hid (hZ.out.below hb);have y0:=hz8.out.cell (j:=0) rfl;have y1:=hz8.out.cell (j:=1) rfl;have y2:=hz8.out.cell (j:=2) rfl;have y9:=hz8.out.lt;have yf0:=hz8.out.frozen 0;have yf1:=hz8.out.frozen 1;have yf2:=hz8.out.frozen 2;clear hb))
      all_goals (
       first
        | (obtain⟨w9,hw9⟩:∃W,W=w8.alloc (.cells #[.bool (rq (part*val ho)).1,.string (rq (part*val ho)).2.1,.string (rq (part*val ho)).2.2] 37):=⟨_,rfl⟩;rw[←hw9];obtain⟨pb,hpb⟩:∃x,x=w8.heap.size:=⟨_,rfl⟩;rw[←hpb];have h9:Hid (Below wl.heap.size wl w9):=(by rw[hw9];exact h8.out.alloc h8.out.size _);have hP:Hid (Bk w9 pb 37 [.bool (rq (part*val ho)).1,.string (rq (part*val ho)).2.1,.string (rq (part*val ho)).2.2]):=(by rw[hw9,hpb];exact Bk.new _ _ _);have hpo:Hid (ob<pb):=(by rw[hpb];exact Nat.lt_of_lt_of_le hOl.out.lt h8.out.size))
        | (obtain⟨w9,hw9⟩:∃W,W=((w8.setCell ⟨wl.heap.size,0,none⟩ (.bool (rq (part*val ho)).1)).setCell ⟨wl.heap.size,1,none⟩ (.string (rq (part*val ho)).2.1)).setCell ⟨wl.heap.size,2,none⟩ (.string (rq (part*val ho)).2.2):=⟨_,rfl⟩;rw[←hw9];obtain⟨pb,hpb⟩:∃x,x=wl.heap.size:=⟨_,rfl⟩;rw[←hpb];have h9:Hid (Below wl.heap.size wl w9):=(by rw[hw9];exact((h8.out.setCell hwz.out _).setCell hwz.out _).setCell hwz.out _);have hP:Hid (Bk w9 pb 37 [.bool (rq (part*val ho)).1,.string (rq (part*val ho)).2.1,.string (rq (part*val ho)).2.2]):=(by rw[hw9,hpb];exact((hz8.out.set 0 _).set 1 _).set 2 _);have hpo:Hid (ob<pb):=(by rw[hpb];exact hOl.out.lt);clear y0 y1 y2 y9 yf0 yf1 yf2 hz8)
       replace hw9:=Lib.hid hw9;replace hpb:=Lib.hid hpb;have hK9:Hid (Kp [ob] w3 w9):=hKl.out.below h9.out;have hO9:Hid (Bk w9 ob 37 [.bool (rq (lsum p val ((capL s.cap).take i))).1,.string (rq (lsum p val ((capL s.cap).take i))).2.1,.string (rq (lsum p val ((capL s.cap).take i))).2.2]):=hOl.out.below h9.out;have hE9:=Lib.hid (hEl.out _ h9.out);clear HS hD hDa hZ h8 h9 km hEl hKl hOl hLl;have x0:=hO9.out.cell (j:=0) rfl;have x1:=hO9.out.cell (j:=1) rfl;have x2:=hO9.out.cell (j:=2) rfl;have x9:=hO9.out.lt;have y0:=hP.out.cell (j:=0) rfl;have y1:=hP.out.cell (j:=1) rfl;have y2:=hP.out.cell (j:=2) rfl;have y9:=hP.out.lt
       by_cases hsh:ShortQ (lsum p val ((capL s.cap).take i))
       rotate_left
       · have ka:Hid (Calls Tryz.prog 27 #[.agg #[.bool (rq (lsum p val ((capL s.cap).take i))).1,.string (rq (lsum p val ((capL s.cap).take i))).2.1,.string (rq (lsum p val ((capL s.cap).take i))).2.2],.agg #[.bool (rq (part*val ho)).1,.string (rq (part*val ho)).2.1,.string (rq (part*val ho)).2.2]] w9 fun e w'=>e=.returned (.tuple #[.agg #[.bool false,.string ⟨#[]⟩,.string ⟨#[]⟩],.int .i64 2])∧Below w9.heap.size w9 w'):=Add_long _ _ hOk.out (okQ_mul hp1.out (hsv.out ho hho)) (fun h=>hsh h.1) w9 hE9.out
         go_wp2_with fail
         refine ka.out.mono ?_;rintro e w10 ⟨rfl,hb⟩;have hK10:=Lib.hid (hK9.out.below hb);have hO10:=Lib.hid (hO9.out.below hb);clear hb ka hK9 hO9 hP x0 x1 x2 x9 y0 y1 y2 y9;have x0:=hO10.out.cell (j:=0) rfl;have x1:=hO10.out.cell (j:=1) rfl;have x2:=hO10.out.cell (j:=2) rfl;have x9:=hO10.out.lt;have xf0:=hO10.out.frozen 0;have xf1:=hO10.out.frozen 1;have xf2:=hO10.out.frozen 2;obtain⟨wz,hwz2⟩:∃W,W=(((w10.setCell ⟨ob,0,none⟩ (.bool false)).setCell ⟨ob,1,none⟩ (.string ⟨#[]⟩)).setCell ⟨ob,2,none⟩ (.string ⟨#[]⟩)):=⟨_,rfl⟩;have hKz:Hid (Kp [ob] w3 wz):=by rw[hwz2];exact(Kp.set (Kp.set (Kp.set hK10.out (a:=⟨ob,0,none⟩) (.bool false) (.inl (by simp))) (a:=⟨ob,1,none⟩) (.string ⟨#[]⟩) (.inl (by simp))) (a:=⟨ob,2,none⟩) (.string ⟨#[]⟩) (.inl (by simp)))
         have hOz:Hid (Bk wz ob 37 [.bool false,.string ⟨#[]⟩,.string ⟨#[]⟩]):=by rw[hwz2];exact(Bk.set (Bk.set (Bk.set hO10.out 0 (.bool false)) 1 (.string ⟨#[]⟩)) 2 (.string ⟨#[]⟩))
         have hnsh:Hid (¬ShortQ (lsum p val ((capL s.cap).take i))):=hsh;replace hsh:=Lib.hid hsh;have hRz:=Lib.hid (hrK.out _ hKz.out);have r0:=hRz.out.cell (j:=0) rfl;have r1:=hRz.out.cell (j:=1) rfl;have r2:=hRz.out.cell (j:=2) rfl;have r9:=hRz.out.lt;have rf0:=hRz.out.frozen 0;have rf1:=hRz.out.frozen 1;have rf2:=hRz.out.frozen 2;have hBz:Hid (Below w.heap.size w (((wz.setCell ⟨w.heap.size+1,0,none⟩ (.bool false)).setCell ⟨w.heap.size+1,1,none⟩ (.string ⟨#[]⟩)).setCell ⟨w.heap.size+1,2,none⟩ (.string ⟨#[]⟩))):=((((hEK.out _ hKz.out).setCell (p:=⟨w.heap.size+1,0,none⟩) (by simp only[];omega) _).setCell (p:=⟨w.heap.size+1,1,none⟩) (by simp only[];omega) _).setCell (p:=⟨w.heap.size+1,2,none⟩) (by simp only[];omega) _);have hRy:Hid (Bk (((wz.setCell ⟨w.heap.size+1,0,none⟩ (.bool false)).setCell ⟨w.heap.size+1,1,none⟩ (.string ⟨#[]⟩)).setCell ⟨w.heap.size+1,2,none⟩ (.string ⟨#[]⟩)) (w.heap.size+1) 37 [.bool false,.string ⟨#[]⟩,.string ⟨#[]⟩]):=(Bk.set (Bk.set (Bk.set hRz.out 0 (.bool false)) 1 (.string ⟨#[]⟩)) 2 (.string ⟨#[]⟩));have hor1:ob≠w.heap.size+1:=by have:=hlt3.out.1;omega
         have hor2:w.heap.size+1≠ob:=fun e=>hor1 e.symm;have hwz3:=hwz2;rw[hwz3]at hBz hRy;have s0:=hRy.out.cell (j:=0) rfl;have s1:=hRy.out.cell (j:=1) rfl;have s2:=hRy.out.cell (j:=2) rfl;have s9:=hRy.out.lt;replace hwz2:=Lib.hid hwz2;replace hwz3:=Lib.hid hwz3;clear r0 r1 r2 r9 rf0 rf1 rf2;have r0:=(hrK.out _ hK10.out).cell (j:=0) rfl;have r1:=(hrK.out _ hK10.out).cell (j:=1) rfl;have r2:=(hrK.out _ hK10.out).cell (j:=2) rfl;have r9:=(hrK.out _ hK10.out).lt;have rf0:=(hrK.out _ hK10.out).frozen 0;have rf1:=(hrK.out _ hK10.out).frozen 1;have rf2:=(hrK.out _ hK10.out).frozen 2;go_wp2
         (try simp only[Exit.inBlock,Exit.then])
         refine bodyPost_ret (v:=.tuple #[.agg #[.bool false,.string ⟨#[]⟩,.string ⟨#[]⟩],.bool false]) (by simp[results,Tryz.results24,go_sem,s0,s1,s2]) rfl ⟨⟨_,_,_,false,rfl,(fun h=>by cases h),fun h=>absurd (h i (by rw[hcl.out];omega)) hnsh.out⟩,hBz.out⟩
       · have ka:Hid (Calls Tryz.prog 27 #[.agg #[.bool (rq (lsum p val ((capL s.cap).take i))).1,.string (rq (lsum p val ((capL s.cap).take i))).2.1,.string (rq (lsum p val ((capL s.cap).take i))).2.2],.agg #[.bool (rq (part*val ho)).1,.string (rq (part*val ho)).2.1,.string (rq (part*val ho)).2.2]] w9 fun e w'=>e=.returned (.tuple #[.agg #[.bool (rq (lsum p val ((capL s.cap).take (i+1)))).1,.string (rq (lsum p val ((capL s.cap).take (i+1)))).2.1,.string (rq (lsum p val ((capL s.cap).take (i+1)))).2.2],.int .i64 0])∧Below w9.heap.size w9 w'):=by rw[hst2.out];exact Add_short _ _ hsh hpp.out w9 hE9.out
         have hOkn:Hid (OkQ (lsum p val ((capL s.cap).take (i+1)))):=by rw[hst2.out];exact okQ_add hsh hpp.out
         replace hsh:=Lib.hid hsh
         go_wp2_with fail
         refine ka.out.mono ?_;rintro e w10 ⟨rfl,hb⟩;have hK10:=Lib.hid (hK9.out.below hb);have hO10:=Lib.hid (hO9.out.below hb);clear hb ka hK9 hO9 hP x0 x1 x2 x9 y0 y1 y2 y9;have x0:=hO10.out.cell (j:=0) rfl;have x1:=hO10.out.cell (j:=1) rfl;have x2:=hO10.out.cell (j:=2) rfl;have x9:=hO10.out.lt;have xf0:=hO10.out.frozen 0;have xf1:=hO10.out.frozen 1;have xf2:=hO10.out.frozen 2;obtain⟨wz,hwz2⟩:∃W,W=(((w10.setCell ⟨ob,0,none⟩ (.bool (rq (lsum p val ((capL s.cap).take (i+1)))).1)).setCell ⟨ob,1,none⟩ (.string (rq (lsum p val ((capL s.cap).take (i+1)))).2.1)).setCell ⟨ob,2,none⟩ (.string (rq (lsum p val ((capL s.cap).take (i+1)))).2.2)):=⟨_,rfl⟩;have hKz:Hid (Kp [ob] w3 wz):=by rw[hwz2];exact(Kp.set (Kp.set (Kp.set hK10.out (a:=⟨ob,0,none⟩) (.bool (rq (lsum p val ((capL s.cap).take (i+1)))).1) (.inl (by simp))) (a:=⟨ob,1,none⟩) (.string (rq (lsum p val ((capL s.cap).take (i+1)))).2.1) (.inl (by simp))) (a:=⟨ob,2,none⟩) (.string (rq (lsum p val ((capL s.cap).take (i+1)))).2.2) (.inl (by simp)))
         have hOz:Hid (Bk wz ob 37 [.bool (rq (lsum p val ((capL s.cap).take (i+1)))).1,.string (rq (lsum p val ((capL s.cap).take (i+1)))).2.1,.string (rq (lsum p val ((capL s.cap).take (i+1)))).2.2]):=by rw[hwz2];exact(Bk.set (Bk.set (Bk.set hO10.out 0 (.bool (rq (lsum p val ((capL s.cap).take (i+1)))).1)) 1 (.string (rq (lsum p val ((capL s.cap).take (i+1)))).2.1)) 2 (.string (rq (lsum p val ((capL s.cap).take (i+1)))).2.2))
         rw[hwz2]at hKz hOz;replace hwz2:=Lib.hid hwz2;go_wp2;exact⟨⟨i+1,by omega,by go_num,hKz,hOz,hOkn⟩,by simp only[intOf];omega⟩
      )
  · obtain rfl:i=s.cap.length:=by omega
    have hta:(capL s.cap).take s.cap.length=capL s.cap:=List.take_of_length_le (by rw[hcl.out];exact Nat.le_refl _);rw[hta]at hO hOk;have hKz:=hK;clear hta;have x0:=hO.out.cell (j:=0) rfl;have x1:=hO.out.cell (j:=1) rfl;have x2:=hO.out.cell (j:=2) rfl;have x9:=hO.out.lt;have hRz:=Lib.hid (hrK.out _ hKz.out);have r0:=hRz.out.cell (j:=0) rfl;have r1:=hRz.out.cell (j:=1) rfl;have r2:=hRz.out.cell (j:=2) rfl;have r9:=hRz.out.lt;have rf0:=hRz.out.frozen 0;have rf1:=hRz.out.frozen 1;have rf2:=hRz.out.frozen 2;have hBz:Hid (Below w.heap.size w (((wr0.setCell ⟨w.heap.size+1,0,none⟩ (.bool (rq (lsum p val (capL s.cap))).1)).setCell ⟨w.heap.size+1,1,none⟩ (.string (rq (lsum p val (capL s.cap))).2.1)).setCell ⟨w.heap.size+1,2,none⟩ (.string (rq (lsum p val (capL s.cap))).2.2))):=((((hEK.out _ hKz.out).setCell (p:=⟨w.heap.size+1,0,none⟩) (by simp only[];omega) _).setCell (p:=⟨w.heap.size+1,1,none⟩) (by simp only[];omega) _).setCell (p:=⟨w.heap.size+1,2,none⟩) (by simp only[];omega) _);have hRy:Hid (Bk (((wr0.setCell ⟨w.heap.size+1,0,none⟩ (.bool (rq (lsum p val (capL s.cap))).1)).setCell ⟨w.heap.size+1,1,none⟩ (.string (rq (lsum p val (capL s.cap))).2.1)).setCell ⟨w.heap.size+1,2,none⟩ (.string (rq (lsum p val (capL s.cap))).2.2)) (w.heap.size+1) 37 [.bool (rq (lsum p val (capL s.cap))).1,.string (rq (lsum p val (capL s.cap))).2.1,.string (rq (lsum p val (capL s.cap))).2.2]):=(Bk.set (Bk.set (Bk.set hRz.out 0 (.bool (rq (lsum p val (capL s.cap))).1)) 1 (.string (rq (lsum p val (capL s.cap))).2.1)) 2 (.string (rq (lsum p val (capL s.cap))).2.2));have hor1:ob≠w.heap.size+1:=by have:=hlt3.out.1;omega
    have hor2:w.heap.size+1≠ob:=fun e=>hor1 e.symm;have s0:=hRy.out.cell (j:=0) rfl;have s1:=hRy.out.cell (j:=1) rfl;have s2:=hRy.out.cell (j:=2) rfl;have s9:=hRy.out.lt;go_wp2
    (try simp only[Exit.inBlock,Exit.then])
    refine bodyPost_ret (v:=.tuple #[.agg #[.bool (rq (lsum p val (capL s.cap))).1,.string (rq (lsum p val (capL s.cap))).2.1,.string (rq (lsum p val (capL s.cap))).2.2],.bool true]) (by simp[results,Tryz.results24,go_sem,s0,s1,s2]) rfl ⟨⟨_,_,_,true,rfl,(fun _=>⟨rfl,hOk.out⟩),fun _=>rfl⟩,hBz.out⟩
theorem sum20_any (s:SR) (Ap Ac Av Aw:Option Addr) (cp cc cv cw:Nat) (p:Nat) (val:Nat→Rat) (w:World) (hE:Env w) (hs:InLk w Ac s.cap) (hsd:soundB s=true) (hc3:s.cap.length≤300)
 (hv:InRow w Aw (outL s.ps.length val)) (hsv:∀q,q<s.ps.length→ShortQ (val q)) (hpv:∀k (h:k<(capL s.cap).length),ShortQ ((capL s.cap)[k].2.2*val (capL s.cap)[k].2.1)) :
 Calls Tryz.prog 24 #[.agg #[.slice Ap s.ps.length cp,.slice Ac s.cap.length cc,.slice Av s.vot.length cv],.slice Aw s.ps.length cw,.int .i64 (p:Int)] w fun e w'=>(∃gx nx dx ok,e=.returned (.tuple #[.agg #[.bool gx,.string nx,.string dx],.bool ok])∧(ok=true→(gx,nx,dx)=rq (lsum p val (capL s.cap)))∧((∀k,k≤(capL s.cap).length→ShortQ (lsum p val ((capL s.cap).take k)))→ok=true))∧Below w.heap.size w w' :=
 (sum20_all s Ap Ac Av Aw cp cc cv cw p val w hE hs hsd hc3 hv hsv hpv).mono fun _ _ ⟨⟨gx,nx,dx,ok,h1,h2,h3⟩,hb⟩=>⟨⟨gx,nx,dx,ok,h1,fun h=>(h2 h).1,h3⟩,hb⟩
end Sh
end
end Go.Proofs.YtioidbebjgeahaaGreatDoor

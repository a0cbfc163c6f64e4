/- Texts that the proof needs: ShaReg22, ShaTake, ShaSolve, ShaRowP, ShaBuild, ShaSlv. -/
import Derived.Test.YtilodknkildkbaaGreatDoorKbA
import Derived.Test.YtilodknkildkbaaGreatDoorKbB
import Derived.Test.YtilodknkildkbaaGreatDoorKbC
import Derived.Test.YtilodknkildkbaaGreatDoorKbD
import Derived.Test.YtilodknkildkbaaGreatDoorKbE
import Derived.Test.YtilodknkildkbaaGreatDoorKbF
set_option maxHeartbeats 32000000
set_option maxRecDepth 1000000
namespace Go.Proofs.YtilodknkildkbaaGreatDoor
theorem tkbG{P:Program}{md:Region.Mode}{ops:Array Oper}{Q:Exit→Act→World→Prop}{S:World→Prop}{oi:Oper}{v:Value}{fuel:Nat}{listed:Array Bool}{a:Act}{w:World}(i:Nat)(hi:ops[i]?=some oi)(hS:S w)(hy:YieldsIf P ops S oi v a)(h:wpAnyH P md ops Q S fuel (listed.setIfInBounds i true) (a.put oi.dst v) w)(hs:Region.noSelect ops=true:=by kernel_rfl)(hf:Region.free md ops listed i=true:=by kernel_rfl)(hr:(Region.ready md ops listed).contains i=true:=by kernel_rfl)(hQ:∀c a w,Q (.panic c) (a.put oi.dst v) w→Q (.panic c) a w:=by exact fun _ _ _ h=>h):wpAnyH P md ops Q S (fuel+1) listed a w:=wpAnyH_take hi hs hf hr hQ hy hS h
section
open Go.RowKit Go.Shelf
namespace Sh
open Nt Ci
theorem J7 {W:World} {b:Nat} {v:Value} (h:W.cell? ⟨b,0,none⟩=some v):∀j u,[v][j]? = some u→W.cell? ((⟨b,0,none⟩:Addr).add j)=some u:=by
 intro j u hj
 match j,hj with
 | 0,hj=>simp only[List.getElem?_cons_zero,Option.some.injEq]at hj;subst hj;simpa [Addr.add] using h
 | j+1,hj=>simp at hj
theorem QO {W:World} {b:Nat} {x y z:Value} (h0:W.cell? ⟨b,0,none⟩=some x) (h1:W.cell? ⟨b,1,none⟩=some y) (h2:W.cell? ⟨b,2,none⟩=some z):∀j u,[x,y,z][j]? = some u→W.cell? ((⟨b,0,none⟩:Addr).add j)=some u:=by
 intro j u hj
 match j,hj with
 | 0,hj=>simp at hj;subst hj;simpa [Addr.add] using h0
 | 1,hj=>simp at hj;subst hj;simpa [Addr.add] using h1
 | 2,hj=>simp at hj;subst hj;simpa [Addr.add] using h2
 | j+3,hj=>simp at hj
theorem O8 {P:Program} {md:Region.Mode} {ops:Array Oper} {Q:Exit→Act→World→Prop} {S:World→Prop} {n:Nat} {l:Array Bool} {a:Act} {w:World}
 (h:∀F:Nat→Array Bool→Act→World→Prop,F=wpAnyH P md ops Q S→F n l a w):wpAnyH P md ops Q S n l a w:=h _ rfl
theorem TX {F:Nat→Array Bool→Act→World→Prop} {n n':Nat} {l l':Array Bool} {a a':Act} {w:World} (hn:n'=n) (hl:l'=l) (ha:a'=a) (h:F n l a w):F n' l' a' w:=by rw[hn,hl,ha];exact h
theorem DV {W:World} {base n m:Nat} {e:TypeId} {u:Value} {xs:List Value} (h:W.ownsRow base e m u n xs):∃A cap,u=.slice A n cap:=by
 rcases h.2 with⟨rfl,h0⟩ | ⟨g,cap,cur,rfl,_⟩
 · exact⟨none,0,by rw[h0]⟩
 · exact⟨_,cap,rfl⟩
theorem H7 {x:Nat} {w W W':World} {L:List Nat} {o:Option Nat} (h:Kp (x::L) w W) (hg:W.grownBy W' o) (hl:∀b,o=some b→b∈L∨w.heap.size≤b):Kp (x::L) w W' :=
 h.grown hg fun b e=>(hl b e).imp (List.mem_cons_of_mem _) id
theorem Vd {c1 c2 c3 c4 c5 c6 c7 c8 c10 c12 c13 c14 c15 c16 c17 c18 c19 c20 c21 c22 c23 c24 c25 c26 c27 c28 c29 c30 c31 c32 c33 c34 c35 c36 c37 c38 c39 c40 c41 c42 c43 c44 c45 c46 c47 c48 c49 c50 c51 c52 c53 c54 c55 c56 c57 c58 c59 c60 c61 c62 c63 c64 c65 c66 c67 c68 c69 c70 c71 c72 c73 c74 c75 c76 c77 c78 c79 c80 c81 c82 c83 c84 c85 c86 c107 a87 a88 a89 a90 a91 a92 a93 a94 a95 a96 a97 a98 a99 a100 a101 a102 a103 a104 a105 a106:Value} {Q:Exit→Act→World→Prop} (xb gb rb m i ca cb B1:Nat) (Aa Ab:Option Addr) (uv:Value) (hds cbs:List Value) (x:Raw) (w:World) (hi:i≤1000) (hx:Bk w xb 75 [uv,.slice Aa i ca,.slice Ab i cb]) (hb:Bk w gb 40 [.bool x.1,.string x.2.1,.string x.2.2]) (ngx:gb≠xb) (hB1:B1≤w.heap.size) (hxB:xb<B1) (oa:w.ownsRow B1 27 1 (Value.slice Aa i ca) i hds) (ob:w.ownsRow B1 40 3 (Value.slice Ab i cb) i cbs) (ap:∀b,(Value.slice Aa i ca).ownBlock=some b→(Value.slice Ab i cb).ownBlock≠some b) (nga:(Value.slice Aa i ca).ownBlock≠some gb) (ngb:(Value.slice Ab i cb).ownBlock≠some gb)
 (h:∀(u87 u88 u89 u90 u91 u92 u93 u94 u95 u96 u97 u98 u99 u100 u101 u102 u103 u104 u105 u106:Value) (Aa2 Ab2:Option Addr) (ca2 cb2:Nat) (W:World) (_:Hid (Kp (xb::((Value.slice Aa i ca).ownBlock.toList++(Value.slice Ab i cb).ownBlock.toList)) w W)) (_:Hid (Bk W xb 75 [uv,.slice Aa2 (i+1) ca2,.slice Ab2 (i+1) cb2])) (_:Hid (W.ownsRow B1 27 1 (Value.slice Aa2 (i+1) ca2) (i+1) (hds++[.slice (some ⟨rb,0,none⟩) m m]))) (_:Hid (W.ownsRow B1 40 3 (Value.slice Ab2 (i+1) cb2) (i+1) (cbs++[.bool x.1,.string x.2.1,.string x.2.2]))) (_:Hid (∀b,(Value.slice Aa2 (i+1) ca2).ownBlock=some b→(Value.slice Ab2 (i+1) cb2).ownBlock≠some b)) (_:Hid ((Value.slice Aa2 (i+1) ca2).ownBlock=(Value.slice Aa i ca).ownBlock∨∃b,(Value.slice Aa2 (i+1) ca2).ownBlock=some b∧w.heap.size≤b)) (_:Hid ((Value.slice Ab2 (i+1) cb2).ownBlock=(Value.slice Ab i cb).ownBlock∨∃b,(Value.slice Ab2 (i+1) cb2).ownBlock=some b∧w.heap.size≤b)),Q .normal ⟨#[.pointer (some ⟨xb,0,none⟩),c1,c2,c3,c4,c5,c6,c7,c8,.slice (some ⟨rb,0,none⟩) m m,c10,.pointer (some ⟨gb,0,none⟩),c12,c13,c14,c15,c16,c17,c18,c19,c20,c21,c22,c23,c24,c25,c26,c27,c28,c29,c30,c31,c32,c33,c34,c35,c36,c37,c38,c39,c40,c41,c42,c43,c44,c45,c46,c47,c48,c49,c50,c51,c52,c53,c54,c55,c56,c57,c58,c59,c60,c61,c62,c63,c64,c65,c66,c67,c68,c69,c70,c71,c72,c73,c74,c75,c76,c77,c78,c79,c80,c81,c82,c83,c84,c85,c86,u87,u88,u89,u90,u91,u92,u93,u94,u95,u96,u97,u98,u99,u100,u101,u102,u103,u104,u105,u106,c107],[]⟩ W) :
 Code.wp Tryz.prog (bdR 22) Q ⟨#[.pointer (some ⟨xb,0,none⟩),c1,c2,c3,c4,c5,c6,c7,c8,.slice (some ⟨rb,0,none⟩) m m,c10,.pointer (some ⟨gb,0,none⟩),c12,c13,c14,c15,c16,c17,c18,c19,c20,c21,c22,c23,c24,c25,c26,c27,c28,c29,c30,c31,c32,c33,c34,c35,c36,c37,c38,c39,c40,c41,c42,c43,c44,c45,c46,c47,c48,c49,c50,c51,c52,c53,c54,c55,c56,c57,c58,c59,c60,c61,c62,c63,c64,c65,c66,c67,c68,c69,c70,c71,c72,c73,c74,c75,c76,c77,c78,c79,c80,c81,c82,c83,c84,c85,c86,a87,a88,a89,a90,a91,a92,a93,a94,a95,a96,a97,a98,a99,a100,a101,a102,a103,a104,a105,a106,c107],[]⟩ w:=by
 conv=>arg 2;whnf
 conv=>arg 4;zeta
 replace h:=zh h;have hk0:Hid (Kp (xb::((Value.slice Aa i ca).ownBlock.toList++(Value.slice Ab i cb).ownBlock.toList)) w w.drew):=(Kp.refl _ w).drew;have hx0:Hid (Bk w.drew xb 75 [uv,.slice Aa i ca,.slice Ab i cb]):=hx.below (Below.refl _ w).drew;have hb0:Hid (Bk w.drew gb 40 [.bool x.1,.string x.2.1,.string x.2.2]):=hb.below (Below.refl _ w).drew;have oa0:=zh (AX oa (Below.refl _ w).drew);have ob0:=zh (AX ob (Below.refl _ w).drew);have hla:Hid (∀b,(Value.slice Aa i ca).ownBlock=some b→B1≤b∧b<w.heap.size):=fun b e=>oa.lt b e;have hlb:Hid (∀b,(Value.slice Ab i cb).ownBlock=some b→B1≤b∧b<w.heap.size):=fun b e=>ob.lt b e;have nxa:Hid ((Value.slice Aa i ca).ownBlock≠some xb):=fun e=>by have:=(oa.lt xb e).1;omega
 have nxb:Hid ((Value.slice Ab i cb).ownBlock≠some xb):=fun e=>by have:=(ob.lt xb e).1;omega
 have gl:=hb.lt;have xl:=hx.lt;replace ap:=zh ap;clear oa ob hb hx;replace hB1:=zh hB1;replace nga:=zh nga;replace ngb:=zh ngb;replace ngx:=zh ngx;replace hxB:=zh hxB;replace gl:=zh gl;replace xl:=zh xl;have hma:Hid (∀b,(Value.slice Aa i ca).ownBlock=some b→b∈((Value.slice Aa i ca).ownBlock.toList++(Value.slice Ab i cb).ownBlock.toList)∨w.heap.size≤b):=fun b e=>.inl (by rw[e];simp);have hmb:Hid (∀b,(Value.slice Ab i cb).ownBlock=some b→b∈((Value.slice Aa i ca).ownBlock.toList++(Value.slice Ab i cb).ownBlock.toList)∨w.heap.size≤b):=fun b e=>.inl (by rw[e];simp);obtain⟨i0,hi0,hzz⟩:=Option.map_eq_some_iff.1 Q1;simp only[Prod.mk.injEq]at hzz;obtain⟨z0i0,z1i0,z2i0⟩:=hzz;replace hi0:=zh hi0;replace z0i0:=zh z0i0;replace z1i0:=zh z1i0;replace z2i0:=zh z2i0;obtain⟨i3,hi3,hzz⟩:=Option.map_eq_some_iff.1 infoQ;simp only[Prod.mk.injEq]at hzz;obtain⟨z0i3,z1i3,z2i3⟩:=hzz;replace hi3:=zh hi3;replace z0i3:=zh z0i3;replace z1i3:=zh z1i3;replace z2i3:=zh z2i3;refine wp_region_noPanic ?_;refine wp_region_held_drew (S:=fun W=>W.cell? ⟨gb,0,none⟩=some (.bool x.1)∧W.cell? ⟨gb,1,none⟩=some (.string x.2.1)∧W.cell? ⟨gb,2,none⟩=some (.string x.2.2)) (by kernel_rfl) (⟨hb0.out.c0,hb0.out.c1,hb0.out.c2⟩) (fun hS0=>?_);replace hS0:=zh hS0;refine tkbG (v:=?_) 0 rfl (hS0.out) (Or.inl ⟨by rfl,?_⟩) ?_;rotate_left
 · (intro w hSw;obtain⟨q1,q2,q3⟩:=hSw;go_simp<;>with_reducible rfl)
 try simp only[Act.put,List.setIfInBounds_toArray]
 refine tkbG (v:=?_) 1 rfl (hS0.out) (Or.inl ⟨by rfl,?_⟩) ?_;rotate_left
 · (intro w hSw;obtain⟨q1,q2,q3⟩:=hSw;go_simp<;>with_reducible rfl)
 try simp only[Act.put]
 refine tkbG (v:=?_) 2 rfl (hS0.out) (Or.inl ⟨by rfl,?_⟩) ?_;rotate_left
 · (intro w hSw;obtain⟨q1,q2,q3⟩:=hSw;go_simp<;>with_reducible rfl)
 try simp only[Act.put]
 refine tkbG (v:=?_) 3 rfl (hS0.out) (Or.inl ⟨by rfl,?_⟩) ?_;rotate_left
 · (intro w hSw;obtain⟨q1,q2,q3⟩:=hSw;go_simp<;>with_reducible rfl)
 try simp only[Act.put]
 refine tkbG (v:=?_) 4 rfl (hS0.out) (Or.inl ⟨by rfl,?_⟩) ?_;rotate_left
 · (intro w hSw;obtain⟨q1,q2,q3⟩:=hSw;go_simp<;>with_reducible rfl)
 try simp only[Act.put]
 refine tkbG (v:=?_) 6 rfl (hS0.out) (Or.inl ⟨by rfl,?_⟩) ?_;rotate_left
 · (intro w hSw;obtain⟨q1,q2,q3⟩:=hSw;go_simp<;>with_reducible rfl)
 try simp only[Act.put]
 refine tkbG (v:=?_) 9 rfl (hS0.out) (Or.inl ⟨by rfl,?_⟩) ?_;rotate_left
 · (intro w hSw;obtain⟨q1,q2,q3⟩:=hSw;go_simp<;>with_reducible rfl)
 try simp only[Act.put]
 refine tkbG (v:=?_) 10 rfl (hS0.out) (Or.inl ⟨by rfl,?_⟩) ?_;rotate_left
 · (intro w hSw;obtain⟨q1,q2,q3⟩:=hSw;go_simp<;>with_reducible rfl)
 try simp only[Act.put]
 refine tkbG (v:=?_) 11 rfl (hS0.out) (Or.inl ⟨by rfl,?_⟩) ?_;rotate_left
 · (intro w hSw;obtain⟨q1,q2,q3⟩:=hSw;go_simp<;>with_reducible rfl)
 try simp only[Act.put]
 refine tkbG (v:=?_) 13 rfl (hS0.out) (Or.inl ⟨by rfl,?_⟩) ?_;rotate_left
 · (intro w hSw;obtain⟨q1,q2,q3⟩:=hSw;go_simp<;>with_reducible rfl)
 try simp only[Act.put]
 clear hS0;refine O8 (fun F hF=>?_);replace hF:=zh hF
 have Lx5x7x8x12x14x15:∀(l7:Nat) (Aa2:Option Addr) (ca2:Nat) (l14:Nat) (Ab2:Option Addr) (cb2:Nat) (W:World),Hid (Kp (xb::((Value.slice Aa i ca).ownBlock.toList++(Value.slice Ab i cb).ownBlock.toList)) w W)→Hid (Bk W xb 75 [uv,.slice Aa i ca,.slice Ab i cb])→Hid (Bk W gb 40 [.bool x.1,.string x.2.1,.string x.2.2])→Hid (W.ownsRow B1 27 1 (Value.slice Aa2 (i+1) ca2) (i+1) (hds++[.slice (some ⟨rb,0,none⟩) m m]))→Hid ((Value.slice Aa2 (i+1) ca2).ownBlock=(Value.slice Aa i ca).ownBlock∨∃b,(Value.slice Aa2 (i+1) ca2).ownBlock=some b∧w.heap.size≤b)→Hid (W.ownsRow B1 40 3 (Value.slice Ab2 (i+1) cb2) (i+1) (cbs++[.bool x.1,.string x.2.1,.string x.2.2]))→Hid ((Value.slice Ab2 (i+1) cb2).ownBlock=(Value.slice Ab i cb).ownBlock∨∃b,(Value.slice Ab2 (i+1) cb2).ownBlock=some b∧w.heap.size≤b)→Hid (∀b,(Value.slice Aa2 (i+1) ca2).ownBlock=some b→(Value.slice Ab2 (i+1) cb2).ownBlock≠some b)→F 6 #[true,true,true,true,true,true,true,true,true,true,true,true,true,true,true,true,false,false,false,false,false,false] ⟨#[.pointer (some ⟨xb,0,none⟩),c1,c2,c3,c4,c5,c6,c7,c8,.slice (some ⟨rb,0,none⟩) m m,c10,.pointer (some ⟨gb,0,none⟩),c12,c13,c14,c15,c16,c17,c18,c19,c20,c21,c22,c23,c24,c25,c26,c27,c28,c29,c30,c31,c32,c33,c34,c35,c36,c37,c38,c39,c40,c41,c42,c43,c44,c45,c46,c47,c48,c49,c50,c51,c52,c53,c54,c55,c56,c57,c58,c59,c60,c61,c62,c63,c64,c65,c66,c67,c68,c69,c70,c71,c72,c73,c74,c75,c76,c77,c78,c79,c80,c81,c82,c83,c84,c85,c86,.pointer (some ⟨xb,0,none⟩),.pointer (some ⟨xb,0,none⟩),.pointer (some ⟨xb,0,none⟩),.pointer (some ⟨xb,0,none⟩),.pointer (some ⟨xb,1,none⟩),.slice Aa i ca,.slice (some ⟨rb,0,none⟩) m m,.slice (some ⟨l7,0,none⟩) 1 1,.slice Aa2 (i+1) ca2,.pointer (some ⟨xb,0,none⟩),.pointer (some ⟨xb,0,none⟩),.pointer (some ⟨xb,2,none⟩),.slice Ab i cb,.agg #[.bool x.1,.string x.2.1,.string x.2.2],.slice (some ⟨l14,0,none⟩) 1 1,.slice Ab2 (i+1) cb2,a103,a104,a105,a106,c107],[]⟩ W:=by
  intro l7 Aa2 ca2 l14 Ab2 cb2 W hk hx hb oa na ob nb ap;rw[hF.out];refine tkbG (v:=?_) 16 rfl (⟨hb.out.c0,hb.out.c1,hb.out.c2⟩) (Or.inl ⟨by rfl,?_⟩) ?_;rotate_left
  · (intro w hSw;obtain⟨q1,q2,q3⟩:=hSw;go_simp<;>with_reducible rfl)
  try simp only[Act.put,List.setIfInBounds_toArray,List.set_cons_zero,List.set_cons_succ]
  refine tkbG (v:=?_) 17 rfl (⟨hb.out.c0,hb.out.c1,hb.out.c2⟩) (Or.inl ⟨by rfl,?_⟩) ?_;rotate_left
  · (intro w hSw;obtain⟨q1,q2,q3⟩:=hSw;go_simp<;>with_reducible rfl)
  try simp only[Act.put,List.setIfInBounds_toArray,List.set_cons_zero,List.set_cons_succ]
  have x1:=hx.out.c1;have f1:=hx.out.frozen 1;have x9:=hx.out.lt;refine wpAnyH_ready (rs:=[18]) (by kernel_rfl) (by simp) ?_;refine AllReadyH.cons (o:=_) rfl (fun K hK=>?_) ?_
  · go_simp;have hb2:Hid (Bk (W.setCell ⟨xb,1,none⟩ (.slice Aa2 (i+1) ca2)) gb 40 [.bool x.1,.string x.2.1,.string x.2.2]):=hb.out.far (p:=⟨xb,1,none⟩) ngx.out _;have hx2:Hid (Bk (W.setCell ⟨xb,1,none⟩ (.slice Aa2 (i+1) ca2)) xb 75 [uv,.slice Aa2 (i+1) ca2,.slice Ab i cb]):=hx.out.set 1 (.slice Aa2 (i+1) ca2);have hk2:Hid (Kp (xb::((Value.slice Aa i ca).ownBlock.toList++(Value.slice Ab i cb).ownBlock.toList)) w (W.setCell ⟨xb,1,none⟩ (.slice Aa2 (i+1) ca2))):=hk.out.set (a:=⟨xb,1,none⟩) _ (.inl (by simp));have nxa2:Hid ((Value.slice Aa2 (i+1) ca2).ownBlock≠some xb):=fun e=>by rcases na.out with c | ⟨b,c,d⟩;(· exact nxa.out (c▸e));(· rw[c]at e;cases e;have:=xl.out;omega)
    have nxb2:Hid ((Value.slice Ab2 (i+1) cb2).ownBlock≠some xb):=fun e=>by rcases nb.out with c | ⟨b,c,d⟩;(· exact nxb.out (c▸e));(· rw[c]at e;cases e;have:=xl.out;omega)
    have oa2:=zh (oa.out.kept (A5 W ⟨xb,1,none⟩ (.slice Aa2 (i+1) ca2)) (.inr nxa2.out));have ob2:=zh (ob.out.kept (A5 W ⟨xb,1,none⟩ (.slice Aa2 (i+1) ca2)) (.inr nxb2.out));clear x1 f1 x9;refine hK.out _ _ (⟨hb2.out.c0,hb2.out.c1,hb2.out.c2⟩) (fun _=>?_);clear hK K
    try simp only[List.setIfInBounds_toArray,List.set_cons_zero,List.set_cons_succ]
    refine tkbG (v:=?_) 19 rfl (⟨hb2.out.c0,hb2.out.c1,hb2.out.c2⟩) (Or.inl ⟨by rfl,?_⟩) ?_;rotate_left
    · (intro w hSw;obtain⟨q1,q2,q3⟩:=hSw;go_simp<;>with_reducible rfl)
    try simp only[Act.put,List.setIfInBounds_toArray,List.set_cons_zero,List.set_cons_succ]
    refine tkbG (v:=?_) 20 rfl (⟨hb2.out.c0,hb2.out.c1,hb2.out.c2⟩) (Or.inl ⟨by rfl,?_⟩) ?_;rotate_left
    · (intro w hSw;obtain⟨q1,q2,q3⟩:=hSw;go_simp<;>with_reducible rfl)
    try simp only[Act.put,List.setIfInBounds_toArray,List.set_cons_zero,List.set_cons_succ]
    have x1:=hx2.out.c2;have f1:=hx2.out.frozen 2;have x9:=hx2.out.lt;refine wpAnyH_ready (rs:=[21]) (by kernel_rfl) (by simp) ?_;refine AllReadyH.cons (o:=_) rfl (fun K hK=>?_) ?_
    · go_simp;have hb3:Hid (Bk ((W.setCell ⟨xb,1,none⟩ (.slice Aa2 (i+1) ca2)).setCell ⟨xb,2,none⟩ (.slice Ab2 (i+1) cb2)) gb 40 [.bool x.1,.string x.2.1,.string x.2.2]):=hb2.out.far (p:=⟨xb,2,none⟩) ngx.out _;have hx3:Hid (Bk ((W.setCell ⟨xb,1,none⟩ (.slice Aa2 (i+1) ca2)).setCell ⟨xb,2,none⟩ (.slice Ab2 (i+1) cb2)) xb 75 [uv,.slice Aa2 (i+1) ca2,.slice Ab2 (i+1) cb2]):=hx2.out.set 2 (.slice Ab2 (i+1) cb2);have hk3:Hid (Kp (xb::((Value.slice Aa i ca).ownBlock.toList++(Value.slice Ab i cb).ownBlock.toList)) w ((W.setCell ⟨xb,1,none⟩ (.slice Aa2 (i+1) ca2)).setCell ⟨xb,2,none⟩ (.slice Ab2 (i+1) cb2))):=hk2.out.set (a:=⟨xb,2,none⟩) _ (.inl (by simp));have oa3:=zh (oa2.out.kept (A5 (W.setCell ⟨xb,1,none⟩ (.slice Aa2 (i+1) ca2)) ⟨xb,2,none⟩ (.slice Ab2 (i+1) cb2)) (.inr nxa2.out));have ob3:=zh (ob2.out.kept (A5 (W.setCell ⟨xb,1,none⟩ (.slice Aa2 (i+1) ca2)) ⟨xb,2,none⟩ (.slice Ab2 (i+1) cb2)) (.inr nxb2.out));clear x1 f1 x9;refine hK.out _ _ (⟨hb3.out.c0,hb3.out.c1,hb3.out.c2⟩) (fun _=>?_);clear hK K
      try simp only[List.setIfInBounds_toArray,List.set_cons_zero,List.set_cons_succ]
      refine wpAnyH_done (by kernel_rfl) ?_ _;refine NoPanic.normal ?_;exact h.out _ _ _ _ _ _ _ _ _ _ _ _ _ _ _ _ _ _ _ _ _ _ _ _ _ hk3 hx3 oa3 ob3 ap na nb
    exact AllReadyH.nil
  exact AllReadyH.nil
 have Lx5x7x8x12x14:∀(l7:Nat) (Aa2:Option Addr) (ca2:Nat) (l14:Nat) (W:World),Hid (Kp (xb::((Value.slice Aa i ca).ownBlock.toList++(Value.slice Ab i cb).ownBlock.toList)) w W)→Hid (Bk W xb 75 [uv,.slice Aa i ca,.slice Ab i cb])→Hid (Bk W gb 40 [.bool x.1,.string x.2.1,.string x.2.2])→Hid (W.ownsRow B1 27 1 (Value.slice Aa2 (i+1) ca2) (i+1) (hds++[.slice (some ⟨rb,0,none⟩) m m]))→Hid ((Value.slice Aa2 (i+1) ca2).ownBlock=(Value.slice Aa i ca).ownBlock∨∃b,(Value.slice Aa2 (i+1) ca2).ownBlock=some b∧w.heap.size≤b)→Hid (W.ownsRow B1 40 3 (Value.slice Ab i cb) i cbs)→Hid (∀b,(Value.slice Aa2 (i+1) ca2).ownBlock=some b→(Value.slice Ab i cb).ownBlock≠some b)→Hid ((W.cell? ⟨l14,0,none⟩=some (.bool x.1)∧W.cell? ⟨l14,1,none⟩=some (.string x.2.1)∧W.cell? ⟨l14,2,none⟩=some (.string x.2.2))∧w.heap.size≤l14∧l14<W.heap.size)→F 7 #[true,true,true,true,true,true,true,true,true,true,true,true,true,true,true,false,false,false,false,false,false,false] ⟨#[.pointer (some ⟨xb,0,none⟩),c1,c2,c3,c4,c5,c6,c7,c8,.slice (some ⟨rb,0,none⟩) m m,c10,.pointer (some ⟨gb,0,none⟩),c12,c13,c14,c15,c16,c17,c18,c19,c20,c21,c22,c23,c24,c25,c26,c27,c28,c29,c30,c31,c32,c33,c34,c35,c36,c37,c38,c39,c40,c41,c42,c43,c44,c45,c46,c47,c48,c49,c50,c51,c52,c53,c54,c55,c56,c57,c58,c59,c60,c61,c62,c63,c64,c65,c66,c67,c68,c69,c70,c71,c72,c73,c74,c75,c76,c77,c78,c79,c80,c81,c82,c83,c84,c85,c86,.pointer (some ⟨xb,0,none⟩),.pointer (some ⟨xb,0,none⟩),.pointer (some ⟨xb,0,none⟩),.pointer (some ⟨xb,0,none⟩),.pointer (some ⟨xb,1,none⟩),.slice Aa i ca,.slice (some ⟨rb,0,none⟩) m m,.slice (some ⟨l7,0,none⟩) 1 1,.slice Aa2 (i+1) ca2,.pointer (some ⟨xb,0,none⟩),.pointer (some ⟨xb,0,none⟩),.pointer (some ⟨xb,2,none⟩),.slice Ab i cb,.agg #[.bool x.1,.string x.2.1,.string x.2.2],.slice (some ⟨l14,0,none⟩) 1 1,a102,a103,a104,a105,a106,c107],[]⟩ W:=by
  intro l7 Aa2 ca2 l14 W hk hx hb oa na ob ap c14;rw[hF.out];refine wpAnyH_ready (rs:=[15]) (by kernel_rfl) (by simp) ?_;refine AllReadyH.cons (o:=_) rfl (fun K hK=>?_) ?_
  · rw[if_pos (by rfl)];refine Nt.AS _ _ _ 27 rfl B1 40 i3 (.agg #[.bool false,.string ⟨#[]⟩,.string ⟨#[]⟩]) 3 40 Tryz.underlying27 hi3.out z0i3.out z1i3.out z2i3.out rfl (by decide) (.slice Ab i cb) i cbs rfl ob.out ⟨l14,0,none⟩ 1 1 [.bool x.1,.string x.2.1,.string x.2.2] rfl rfl (QO c14.out.1.1 c14.out.1.2.1 c14.out.1.2.2) (fun u hu=>Kw x u hu) (by omega) (by unfold maxLen;omega) (by omega) (Nat.le_trans hB1.out hk.out.size) ?_;intro vx wx hox hgx hnx;obtain⟨A9,c9,rfl⟩:=DV hox;have hb2:=zh (hb.out.grown hgx (fun e=>ngb.out e.symm));have hx2:=zh (hx.out.grown hgx (fun e=>nxb.out e.symm));have hk2:=zh (H7 hk.out hgx hmb.out);have oa2:=zh (oa.out.kept hgx (by cases e:(Value.slice Aa2 (i+1) ca2).ownBlock with | none=>exact .inl rfl | some b=>exact .inr (fun e2=>ap.out b e e2.symm)));have nb2:Hid ((Value.slice A9 (i+1) c9).ownBlock=(Value.slice Ab i cb).ownBlock∨∃b,(Value.slice A9 (i+1) c9).ownBlock=some b∧w.heap.size≤b):=hnx.imp id fun e=>⟨_,e,hk.out.size⟩;have ap2:Hid (∀b,(Value.slice Aa2 (i+1) ca2).ownBlock=some b→(Value.slice A9 (i+1) c9).ownBlock≠some b):=fun b e e2=>by rcases hnx with c | c;(· exact ap.out b e (c▸e2));(· rw[c]at e2;cases e2;have:=(oa.out.lt _ e).2;omega)
    refine hK.out _ _ (⟨hb2.out.c0,hb2.out.c1,hb2.out.c2⟩) (fun _=>?_);clear hK K
    try simp only[Act.put,List.setIfInBounds_toArray,List.set_cons_zero,List.set_cons_succ]
    rw[←hF.out];exact Lx5x7x8x12x14x15 l7 Aa2 ca2 l14 A9 c9 _ hk2 hx2 hb2 oa2 na (zh hox) nb2 ap2
  exact AllReadyH.nil
 have Lx5x7x12x14:∀(l7:Nat) (l14:Nat) (W:World),Hid (Kp (xb::((Value.slice Aa i ca).ownBlock.toList++(Value.slice Ab i cb).ownBlock.toList)) w W)→Hid (Bk W xb 75 [uv,.slice Aa i ca,.slice Ab i cb])→Hid (Bk W gb 40 [.bool x.1,.string x.2.1,.string x.2.2])→Hid (W.ownsRow B1 27 1 (Value.slice Aa i ca) i hds)→Hid (W.ownsRow B1 40 3 (Value.slice Ab i cb) i cbs)→Hid (∀b,(Value.slice Aa i ca).ownBlock=some b→(Value.slice Ab i cb).ownBlock≠some b)→Hid (W.cell? ⟨l7,0,none⟩=some (.slice (some ⟨rb,0,none⟩) m m)∧w.heap.size≤l7∧l7<W.heap.size)→Hid ((W.cell? ⟨l14,0,none⟩=some (.bool x.1)∧W.cell? ⟨l14,1,none⟩=some (.string x.2.1)∧W.cell? ⟨l14,2,none⟩=some (.string x.2.2))∧w.heap.size≤l14∧l14<W.heap.size)→F 8 #[true,true,true,true,true,true,true,true,false,true,true,true,true,true,true,false,false,false,false,false,false,false] ⟨#[.pointer (some ⟨xb,0,none⟩),c1,c2,c3,c4,c5,c6,c7,c8,.slice (some ⟨rb,0,none⟩) m m,c10,.pointer (some ⟨gb,0,none⟩),c12,c13,c14,c15,c16,c17,c18,c19,c20,c21,c22,c23,c24,c25,c26,c27,c28,c29,c30,c31,c32,c33,c34,c35,c36,c37,c38,c39,c40,c41,c42,c43,c44,c45,c46,c47,c48,c49,c50,c51,c52,c53,c54,c55,c56,c57,c58,c59,c60,c61,c62,c63,c64,c65,c66,c67,c68,c69,c70,c71,c72,c73,c74,c75,c76,c77,c78,c79,c80,c81,c82,c83,c84,c85,c86,.pointer (some ⟨xb,0,none⟩),.pointer (some ⟨xb,0,none⟩),.pointer (some ⟨xb,0,none⟩),.pointer (some ⟨xb,0,none⟩),.pointer (some ⟨xb,1,none⟩),.slice Aa i ca,.slice (some ⟨rb,0,none⟩) m m,.slice (some ⟨l7,0,none⟩) 1 1,a95,.pointer (some ⟨xb,0,none⟩),.pointer (some ⟨xb,0,none⟩),.pointer (some ⟨xb,2,none⟩),.slice Ab i cb,.agg #[.bool x.1,.string x.2.1,.string x.2.2],.slice (some ⟨l14,0,none⟩) 1 1,a102,a103,a104,a105,a106,c107],[]⟩ W:=by
  intro l7 l14 W hk hx hb oa ob ap c7 c14;rw[hF.out];refine wpAnyH_ready (rs:=[8]) (by kernel_rfl) (by simp) ?_;refine AllReadyH.cons (o:=_) rfl (fun K hK=>?_) ?_
  · rw [if_pos (by rfl)];refine Nt.AS _ _ _ 73 rfl B1 27 i0 (.slice none 0 0) 1 24 Tryz.underlying73 hi0.out z0i0.out z1i0.out z2i0.out rfl (by decide) (.slice Aa i ca) i hds rfl oa.out ⟨l7,0,none⟩ 1 1 [.slice (some ⟨rb,0,none⟩) m m] rfl rfl (J7 c7.out.1) (Ci.AU _ rfl) (by omega) (by unfold maxLen;omega) (by omega) (Nat.le_trans hB1.out hk.out.size) ?_;intro vx wx hox hgx hnx;obtain⟨A9,c9,rfl⟩:=DV hox;have hb2:=zh (hb.out.grown hgx (fun e=>nga.out e.symm));have hx2:=zh (hx.out.grown hgx (fun e=>nxa.out e.symm));have hk2:=zh (H7 hk.out hgx hma.out);have ob2:=zh (ob.out.kept hgx (by cases e:(Value.slice Ab i cb).ownBlock with | none=>exact .inl rfl | some b=>exact .inr (fun e2=>ap.out b e2.symm e)));have na2:Hid ((Value.slice A9 (i+1) c9).ownBlock=(Value.slice Aa i ca).ownBlock∨∃b,(Value.slice A9 (i+1) c9).ownBlock=some b∧w.heap.size≤b):=hnx.imp id fun e=>⟨_,e,hk.out.size⟩;have ap2:Hid (∀b,(Value.slice A9 (i+1) c9).ownBlock=some b→(Value.slice Ab i cb).ownBlock≠some b):=fun b e e2=>by rcases hnx with c | c;(· exact ap.out b (c▸e) e2);(· rw[c]at e;cases e;have:=(ob.out.lt _ e2).2;omega)
    have c142:Hid (((wx.cell? ⟨l14,0,none⟩=some (.bool x.1)∧wx.cell? ⟨l14,1,none⟩=some (.string x.2.1)∧wx.cell? ⟨l14,2,none⟩=some (.string x.2.2))∧w.heap.size≤l14∧l14<wx.heap.size)):=by
     have hblk:=hgx.block l14 c14.out.2.2 (fun e=>by have:=(hla.out _ e.symm).2;have:=c14.out.2.1;omega);exact⟨⟨(World.cell?_of_block (a:=⟨l14,0,none⟩) hblk).trans c14.out.1.1,(World.cell?_of_block (a:=⟨l14,1,none⟩) hblk).trans c14.out.1.2.1,(World.cell?_of_block (a:=⟨l14,2,none⟩) hblk).trans c14.out.1.2.2⟩,c14.out.2.1,Nat.lt_of_lt_of_le c14.out.2.2 hgx.size⟩
    refine hK.out _ _ (⟨hb2.out.c0,hb2.out.c1,hb2.out.c2⟩) (fun _=>?_);clear hK K
    try simp only[Act.put,List.setIfInBounds_toArray,List.set_cons_zero,List.set_cons_succ]
    rw[←hF.out];exact Lx5x7x8x12x14 l7 A9 c9 l14 _ hk2 hx2 hb2 (zh hox) na2 ob2 ap2 c142
  exact AllReadyH.nil
 have Lx5x7x8x12:∀(l7:Nat) (Aa2:Option Addr) (ca2:Nat) (W:World),Hid (Kp (xb::((Value.slice Aa i ca).ownBlock.toList++(Value.slice Ab i cb).ownBlock.toList)) w W)→Hid (Bk W xb 75 [uv,.slice Aa i ca,.slice Ab i cb])→Hid (Bk W gb 40 [.bool x.1,.string x.2.1,.string x.2.2])→Hid (W.ownsRow B1 27 1 (Value.slice Aa2 (i+1) ca2) (i+1) (hds++[.slice (some ⟨rb,0,none⟩) m m]))→Hid ((Value.slice Aa2 (i+1) ca2).ownBlock=(Value.slice Aa i ca).ownBlock∨∃b,(Value.slice Aa2 (i+1) ca2).ownBlock=some b∧w.heap.size≤b)→Hid (W.ownsRow B1 40 3 (Value.slice Ab i cb) i cbs)→Hid (∀b,(Value.slice Aa2 (i+1) ca2).ownBlock=some b→(Value.slice Ab i cb).ownBlock≠some b)→F 8 #[true,true,true,true,true,true,true,true,true,true,true,true,true,true,false,false,false,false,false,false,false,false] ⟨#[.pointer (some ⟨xb,0,none⟩),c1,c2,c3,c4,c5,c6,c7,c8,.slice (some ⟨rb,0,none⟩) m m,c10,.pointer (some ⟨gb,0,none⟩),c12,c13,c14,c15,c16,c17,c18,c19,c20,c21,c22,c23,c24,c25,c26,c27,c28,c29,c30,c31,c32,c33,c34,c35,c36,c37,c38,c39,c40,c41,c42,c43,c44,c45,c46,c47,c48,c49,c50,c51,c52,c53,c54,c55,c56,c57,c58,c59,c60,c61,c62,c63,c64,c65,c66,c67,c68,c69,c70,c71,c72,c73,c74,c75,c76,c77,c78,c79,c80,c81,c82,c83,c84,c85,c86,.pointer (some ⟨xb,0,none⟩),.pointer (some ⟨xb,0,none⟩),.pointer (some ⟨xb,0,none⟩),.pointer (some ⟨xb,0,none⟩),.pointer (some ⟨xb,1,none⟩),.slice Aa i ca,.slice (some ⟨rb,0,none⟩) m m,.slice (some ⟨l7,0,none⟩) 1 1,.slice Aa2 (i+1) ca2,.pointer (some ⟨xb,0,none⟩),.pointer (some ⟨xb,0,none⟩),.pointer (some ⟨xb,2,none⟩),.slice Ab i cb,.agg #[.bool x.1,.string x.2.1,.string x.2.2],a101,a102,a103,a104,a105,a106,c107],[]⟩ W:=by
  intro l7 Aa2 ca2 W hk hx hb oa na ob ap;rw[hF.out];refine wpAnyH_ready (rs:=[14]) (by kernel_rfl) (by simp) ?_;refine AllReadyH.cons (o:=_) rfl (fun K hK=>?_) ?_
  · go_simp;refine hK.out _ _ (⟨(hb.out.alloc (.cells #[.bool x.1,.string x.2.1,.string x.2.2] 40)).c0,(hb.out.alloc (.cells #[.bool x.1,.string x.2.1,.string x.2.2] 40)).c1,(hb.out.alloc (.cells #[.bool x.1,.string x.2.1,.string x.2.2] 40)).c2⟩) (fun _=>?_);clear hK K
    try simp only[List.setIfInBounds_toArray,List.set_cons_zero,List.set_cons_succ]
    rw[←hF.out];exact Lx5x7x8x12x14 l7 Aa2 ca2 W.heap.size _ (zh ((hk.out.alloc (.cells #[.bool x.1,.string x.2.1,.string x.2.2] 40)))) (zh ((hx.out.alloc (.cells #[.bool x.1,.string x.2.1,.string x.2.2] 40)))) (zh ((hb.out.alloc (.cells #[.bool x.1,.string x.2.1,.string x.2.2] 40)))) (zh ((oa.out.alloc (.cells #[.bool x.1,.string x.2.1,.string x.2.2] 40)))) (zh (na.out)) (zh ((ob.out.alloc (.cells #[.bool x.1,.string x.2.1,.string x.2.2] 40)))) (zh (ap.out)) (zh (⟨⟨(Bk.new W 40 [.bool x.1,.string x.2.1,.string x.2.2]).c0,(Bk.new W 40 [.bool x.1,.string x.2.1,.string x.2.2]).c1,(Bk.new W 40 [.bool x.1,.string x.2.1,.string x.2.2]).c2⟩,hk.out.size,by rw[World.size_alloc];exact Nat.lt_succ_self _⟩))
  exact AllReadyH.nil
 have Lx5x7x12:∀(l7:Nat) (W:World),Hid (Kp (xb::((Value.slice Aa i ca).ownBlock.toList++(Value.slice Ab i cb).ownBlock.toList)) w W)→Hid (Bk W xb 75 [uv,.slice Aa i ca,.slice Ab i cb])→Hid (Bk W gb 40 [.bool x.1,.string x.2.1,.string x.2.2])→Hid (W.ownsRow B1 27 1 (Value.slice Aa i ca) i hds)→Hid (W.ownsRow B1 40 3 (Value.slice Ab i cb) i cbs)→Hid (∀b,(Value.slice Aa i ca).ownBlock=some b→(Value.slice Ab i cb).ownBlock≠some b)→Hid (W.cell? ⟨l7,0,none⟩=some (.slice (some ⟨rb,0,none⟩) m m)∧w.heap.size≤l7∧l7<W.heap.size)→F 9 #[true,true,true,true,true,true,true,true,false,true,true,true,true,true,false,false,false,false,false,false,false,false] ⟨#[.pointer (some ⟨xb,0,none⟩),c1,c2,c3,c4,c5,c6,c7,c8,.slice (some ⟨rb,0,none⟩) m m,c10,.pointer (some ⟨gb,0,none⟩),c12,c13,c14,c15,c16,c17,c18,c19,c20,c21,c22,c23,c24,c25,c26,c27,c28,c29,c30,c31,c32,c33,c34,c35,c36,c37,c38,c39,c40,c41,c42,c43,c44,c45,c46,c47,c48,c49,c50,c51,c52,c53,c54,c55,c56,c57,c58,c59,c60,c61,c62,c63,c64,c65,c66,c67,c68,c69,c70,c71,c72,c73,c74,c75,c76,c77,c78,c79,c80,c81,c82,c83,c84,c85,c86,.pointer (some ⟨xb,0,none⟩),.pointer (some ⟨xb,0,none⟩),.pointer (some ⟨xb,0,none⟩),.pointer (some ⟨xb,0,none⟩),.pointer (some ⟨xb,1,none⟩),.slice Aa i ca,.slice (some ⟨rb,0,none⟩) m m,.slice (some ⟨l7,0,none⟩) 1 1,a95,.pointer (some ⟨xb,0,none⟩),.pointer (some ⟨xb,0,none⟩),.pointer (some ⟨xb,2,none⟩),.slice Ab i cb,.agg #[.bool x.1,.string x.2.1,.string x.2.2],a101,a102,a103,a104,a105,a106,c107],[]⟩ W:=by
  intro l7 W hk hx hb oa ob ap c7;rw[hF.out];refine wpAnyH_ready (rs:=[8,14]) (by kernel_rfl) (by simp) ?_;refine AllReadyH.cons (o:=_) rfl (fun K hK=>?_) ?_
  · rw[if_pos (by rfl)];refine Nt.AS _ _ _ 73 rfl B1 27 i0 (.slice none 0 0) 1 24 Tryz.underlying73 hi0.out z0i0.out z1i0.out z2i0.out rfl (by decide) (.slice Aa i ca) i hds rfl oa.out ⟨l7,0,none⟩ 1 1 [.slice (some ⟨rb,0,none⟩) m m] rfl rfl (J7 c7.out.1) (Ci.AU _ rfl) (by omega) (by unfold maxLen;omega) (by omega) (Nat.le_trans hB1.out hk.out.size) ?_;intro vx wx hox hgx hnx;obtain⟨A9,c9,rfl⟩:=DV hox;have hb2:=zh (hb.out.grown hgx (fun e=>nga.out e.symm));have hx2:=zh (hx.out.grown hgx (fun e=>nxa.out e.symm));have hk2:=zh (H7 hk.out hgx hma.out);have ob2:=zh (ob.out.kept hgx (by cases e:(Value.slice Ab i cb).ownBlock with | none=>exact .inl rfl | some b=>exact .inr (fun e2=>ap.out b e2.symm e)));have na2:Hid ((Value.slice A9 (i+1) c9).ownBlock=(Value.slice Aa i ca).ownBlock∨∃b,(Value.slice A9 (i+1) c9).ownBlock=some b∧w.heap.size≤b):=hnx.imp id fun e=>⟨_,e,hk.out.size⟩;have ap2:Hid (∀b,(Value.slice A9 (i+1) c9).ownBlock=some b→(Value.slice Ab i cb).ownBlock≠some b):=fun b e e2=>by rcases hnx with c | c;(· exact ap.out b (c▸e) e2);(· rw[c]at e;cases e;have:=(ob.out.lt _ e2).2;omega)
    refine hK.out _ _ (⟨hb2.out.c0,hb2.out.c1,hb2.out.c2⟩) (fun _=>?_);clear hK K
    try simp only[Act.put,List.setIfInBounds_toArray,List.set_cons_zero,List.set_cons_succ]
    rw[←hF.out];exact Lx5x7x8x12 l7 A9 c9 _ hk2 hx2 hb2 (zh hox) na2 ob2 ap2
  refine AllReadyH.cons (o:=_) rfl (fun K hK=>?_) ?_
  · go_simp;refine hK.out _ _ (⟨(hb.out.alloc (.cells #[.bool x.1,.string x.2.1,.string x.2.2] 40)).c0,(hb.out.alloc (.cells #[.bool x.1,.string x.2.1,.string x.2.2] 40)).c1,(hb.out.alloc (.cells #[.bool x.1,.string x.2.1,.string x.2.2] 40)).c2⟩) (fun _=>?_);clear hK K
    try simp only[List.setIfInBounds_toArray,List.set_cons_zero,List.set_cons_succ]
    rw[←hF.out];exact Lx5x7x12x14 l7 W.heap.size _ (zh ((hk.out.alloc (.cells #[.bool x.1,.string x.2.1,.string x.2.2] 40)))) (zh ((hx.out.alloc (.cells #[.bool x.1,.string x.2.1,.string x.2.2] 40)))) (zh ((hb.out.alloc (.cells #[.bool x.1,.string x.2.1,.string x.2.2] 40)))) (zh ((oa.out.alloc (.cells #[.bool x.1,.string x.2.1,.string x.2.2] 40)))) (zh ((ob.out.alloc (.cells #[.bool x.1,.string x.2.1,.string x.2.2] 40)))) (zh (ap.out)) (zh (⟨(World.cell?_alloc_lt _ _ _ c7.out.2.2).trans c7.out.1,c7.out.2.1,by rw[World.size_alloc];exact Nat.lt_succ_of_lt c7.out.2.2⟩)) (zh (⟨⟨(Bk.new W 40 [.bool x.1,.string x.2.1,.string x.2.2]).c0,(Bk.new W 40 [.bool x.1,.string x.2.1,.string x.2.2]).c1,(Bk.new W 40 [.bool x.1,.string x.2.1,.string x.2.2]).c2⟩,hk.out.size,by rw[World.size_alloc];exact Nat.lt_succ_self _⟩))
  exact AllReadyH.nil
 have Lx5x7x8x14:∀(l7:Nat) (Aa2:Option Addr) (ca2:Nat) (l14:Nat) (W:World),Hid (Kp (xb::((Value.slice Aa i ca).ownBlock.toList++(Value.slice Ab i cb).ownBlock.toList)) w W)→Hid (Bk W xb 75 [uv,.slice Aa i ca,.slice Ab i cb])→Hid (Bk W gb 40 [.bool x.1,.string x.2.1,.string x.2.2])→Hid (W.ownsRow B1 27 1 (Value.slice Aa2 (i+1) ca2) (i+1) (hds++[.slice (some ⟨rb,0,none⟩) m m]))→Hid ((Value.slice Aa2 (i+1) ca2).ownBlock=(Value.slice Aa i ca).ownBlock∨∃b,(Value.slice Aa2 (i+1) ca2).ownBlock=some b∧w.heap.size≤b)→Hid (W.ownsRow B1 40 3 (Value.slice Ab i cb) i cbs)→Hid (∀b,(Value.slice Aa2 (i+1) ca2).ownBlock=some b→(Value.slice Ab i cb).ownBlock≠some b)→Hid ((W.cell? ⟨l14,0,none⟩=some (.bool x.1)∧W.cell? ⟨l14,1,none⟩=some (.string x.2.1)∧W.cell? ⟨l14,2,none⟩=some (.string x.2.2))∧w.heap.size≤l14∧l14<W.heap.size)→F 8 #[true,true,true,true,true,true,true,true,true,true,true,true,false,true,true,false,false,false,false,false,false,false] ⟨#[.pointer (some ⟨xb,0,none⟩),c1,c2,c3,c4,c5,c6,c7,c8,.slice (some ⟨rb,0,none⟩) m m,c10,.pointer (some ⟨gb,0,none⟩),c12,c13,c14,c15,c16,c17,c18,c19,c20,c21,c22,c23,c24,c25,c26,c27,c28,c29,c30,c31,c32,c33,c34,c35,c36,c37,c38,c39,c40,c41,c42,c43,c44,c45,c46,c47,c48,c49,c50,c51,c52,c53,c54,c55,c56,c57,c58,c59,c60,c61,c62,c63,c64,c65,c66,c67,c68,c69,c70,c71,c72,c73,c74,c75,c76,c77,c78,c79,c80,c81,c82,c83,c84,c85,c86,.pointer (some ⟨xb,0,none⟩),.pointer (some ⟨xb,0,none⟩),.pointer (some ⟨xb,0,none⟩),.pointer (some ⟨xb,0,none⟩),.pointer (some ⟨xb,1,none⟩),.slice Aa i ca,.slice (some ⟨rb,0,none⟩) m m,.slice (some ⟨l7,0,none⟩) 1 1,.slice Aa2 (i+1) ca2,.pointer (some ⟨xb,0,none⟩),.pointer (some ⟨xb,0,none⟩),.pointer (some ⟨xb,2,none⟩),a99,.agg #[.bool x.1,.string x.2.1,.string x.2.2],.slice (some ⟨l14,0,none⟩) 1 1,a102,a103,a104,a105,a106,c107],[]⟩ W:=by
  intro l7 Aa2 ca2 l14 W hk hx hb oa na ob ap c14;rw[hF.out];refine wpAnyH_ready (rs:=[12]) (by kernel_rfl) (by simp) ?_;have x1:=hx.out.c2;have x9:=hx.out.lt;refine AllReadyH.cons (o:=_) rfl (fun K hK=>?_) ?_
  · go_simp;clear x1 x9;refine hK.out _ _ (⟨hb.out.c0,hb.out.c1,hb.out.c2⟩) (fun _=>?_);clear hK K
    try simp only[List.setIfInBounds_toArray,List.set_cons_zero,List.set_cons_succ]
    rw[←hF.out];exact Lx5x7x8x12x14 l7 Aa2 ca2 l14 W hk hx hb oa na ob ap c14
  clear x1 x9;exact AllReadyH.nil
 have Lx5x7x14:∀(l7:Nat) (l14:Nat) (W:World),Hid (Kp (xb::((Value.slice Aa i ca).ownBlock.toList++(Value.slice Ab i cb).ownBlock.toList)) w W)→Hid (Bk W xb 75 [uv,.slice Aa i ca,.slice Ab i cb])→Hid (Bk W gb 40 [.bool x.1,.string x.2.1,.string x.2.2])→Hid (W.ownsRow B1 27 1 (Value.slice Aa i ca) i hds)→Hid (W.ownsRow B1 40 3 (Value.slice Ab i cb) i cbs)→Hid (∀b,(Value.slice Aa i ca).ownBlock=some b→(Value.slice Ab i cb).ownBlock≠some b)→Hid (W.cell? ⟨l7,0,none⟩=some (.slice (some ⟨rb,0,none⟩) m m)∧w.heap.size≤l7∧l7<W.heap.size)→Hid ((W.cell? ⟨l14,0,none⟩=some (.bool x.1)∧W.cell? ⟨l14,1,none⟩=some (.string x.2.1)∧W.cell? ⟨l14,2,none⟩=some (.string x.2.2))∧w.heap.size≤l14∧l14<W.heap.size)→F 9 #[true,true,true,true,true,true,true,true,false,true,true,true,false,true,true,false,false,false,false,false,false,false] ⟨#[.pointer (some ⟨xb,0,none⟩),c1,c2,c3,c4,c5,c6,c7,c8,.slice (some ⟨rb,0,none⟩) m m,c10,.pointer (some ⟨gb,0,none⟩),c12,c13,c14,c15,c16,c17,c18,c19,c20,c21,c22,c23,c24,c25,c26,c27,c28,c29,c30,c31,c32,c33,c34,c35,c36,c37,c38,c39,c40,c41,c42,c43,c44,c45,c46,c47,c48,c49,c50,c51,c52,c53,c54,c55,c56,c57,c58,c59,c60,c61,c62,c63,c64,c65,c66,c67,c68,c69,c70,c71,c72,c73,c74,c75,c76,c77,c78,c79,c80,c81,c82,c83,c84,c85,c86,.pointer (some ⟨xb,0,none⟩),.pointer (some ⟨xb,0,none⟩),.pointer (some ⟨xb,0,none⟩),.pointer (some ⟨xb,0,none⟩),.pointer (some ⟨xb,1,none⟩),.slice Aa i ca,.slice (some ⟨rb,0,none⟩) m m,.slice (some ⟨l7,0,none⟩) 1 1,a95,.pointer (some ⟨xb,0,none⟩),.pointer (some ⟨xb,0,none⟩),.pointer (some ⟨xb,2,none⟩),a99,.agg #[.bool x.1,.string x.2.1,.string x.2.2],.slice (some ⟨l14,0,none⟩) 1 1,a102,a103,a104,a105,a106,c107],[]⟩ W:=by
  intro l7 l14 W hk hx hb oa ob ap c7 c14;rw[hF.out];refine wpAnyH_ready (rs:=[8,12]) (by kernel_rfl) (by simp) ?_;refine AllReadyH.cons (o:=_) rfl (fun K hK=>?_) ?_
  · rw [if_pos (by rfl)];refine Nt.AS _ _ _ 73 rfl B1 27 i0 (.slice none 0 0) 1 24 Tryz.underlying73 hi0.out z0i0.out z1i0.out z2i0.out rfl (by decide) (.slice Aa i ca) i hds rfl oa.out ⟨l7,0,none⟩ 1 1 [.slice (some ⟨rb,0,none⟩) m m] rfl rfl (J7 c7.out.1) (Ci.AU _ rfl) (by omega) (by unfold maxLen;omega) (by omega) (Nat.le_trans hB1.out hk.out.size) ?_;intro vx wx hox hgx hnx;obtain⟨A9,c9,rfl⟩:=DV hox;have hb2:=zh (hb.out.grown hgx (fun e=>nga.out e.symm));have hx2:=zh (hx.out.grown hgx (fun e=>nxa.out e.symm));have hk2:=zh (H7 hk.out hgx hma.out);have ob2:=zh (ob.out.kept hgx (by cases e:(Value.slice Ab i cb).ownBlock with | none=>exact .inl rfl | some b=>exact .inr (fun e2=>ap.out b e2.symm e)));have na2:Hid ((Value.slice A9 (i+1) c9).ownBlock=(Value.slice Aa i ca).ownBlock∨∃b,(Value.slice A9 (i+1) c9).ownBlock=some b∧w.heap.size≤b):=hnx.imp id fun e=>⟨_,e,hk.out.size⟩;have ap2:Hid (∀b,(Value.slice A9 (i+1) c9).ownBlock=some b→(Value.slice Ab i cb).ownBlock≠some b):=fun b e e2=>by rcases hnx with c | c;(· exact ap.out b (c▸e) e2);(· rw[c]at e;cases e;have:=(ob.out.lt _ e2).2;omega)
    have c142:Hid (((wx.cell? ⟨l14,0,none⟩=some (.bool x.1)∧wx.cell? ⟨l14,1,none⟩=some (.string x.2.1)∧wx.cell? ⟨l14,2,none⟩=some (.string x.2.2))∧w.heap.size≤l14∧l14<wx.heap.size)):=by
     have hblk:=hgx.block l14 c14.out.2.2 (fun e=>by have:=(hla.out _ e.symm).2;have:=c14.out.2.1;omega);exact⟨⟨(World.cell?_of_block (a:=⟨l14,0,none⟩) hblk).trans c14.out.1.1,(World.cell?_of_block (a:=⟨l14,1,none⟩) hblk).trans c14.out.1.2.1,(World.cell?_of_block (a:=⟨l14,2,none⟩) hblk).trans c14.out.1.2.2⟩,c14.out.2.1,Nat.lt_of_lt_of_le c14.out.2.2 hgx.size⟩
    refine hK.out _ _ (⟨hb2.out.c0,hb2.out.c1,hb2.out.c2⟩) (fun _=>?_);clear hK K
    try simp only[Act.put,List.setIfInBounds_toArray,List.set_cons_zero,List.set_cons_succ]
    rw[←hF.out];exact Lx5x7x8x14 l7 A9 c9 l14 _ hk2 hx2 hb2 (zh hox) na2 ob2 ap2 c142
  have x1:=hx.out.c2;have x9:=hx.out.lt;refine AllReadyH.cons (o:=_) rfl (fun K hK=>?_) ?_
  · go_simp;clear x1 x9;refine hK.out _ _ (⟨hb.out.c0,hb.out.c1,hb.out.c2⟩) (fun _=>?_);clear hK K
    try simp only[List.setIfInBounds_toArray,List.set_cons_zero,List.set_cons_succ]
    rw[←hF.out];exact Lx5x7x12x14 l7 l14 W hk hx hb oa ob ap c7 c14
  clear x1 x9;exact AllReadyH.nil
 have Lx5x7x8:∀(l7:Nat) (Aa2:Option Addr) (ca2:Nat) (W:World),Hid (Kp (xb::((Value.slice Aa i ca).ownBlock.toList++(Value.slice Ab i cb).ownBlock.toList)) w W)→Hid (Bk W xb 75 [uv,.slice Aa i ca,.slice Ab i cb])→Hid (Bk W gb 40 [.bool x.1,.string x.2.1,.string x.2.2])→Hid (W.ownsRow B1 27 1 (Value.slice Aa2 (i+1) ca2) (i+1) (hds++[.slice (some ⟨rb,0,none⟩) m m]))→Hid ((Value.slice Aa2 (i+1) ca2).ownBlock=(Value.slice Aa i ca).ownBlock∨∃b,(Value.slice Aa2 (i+1) ca2).ownBlock=some b∧w.heap.size≤b)→Hid (W.ownsRow B1 40 3 (Value.slice Ab i cb) i cbs)→Hid (∀b,(Value.slice Aa2 (i+1) ca2).ownBlock=some b→(Value.slice Ab i cb).ownBlock≠some b)→F 9 #[true,true,true,true,true,true,true,true,true,true,true,true,false,true,false,false,false,false,false,false,false,false] ⟨#[.pointer (some ⟨xb,0,none⟩),c1,c2,c3,c4,c5,c6,c7,c8,.slice (some ⟨rb,0,none⟩) m m,c10,.pointer (some ⟨gb,0,none⟩),c12,c13,c14,c15,c16,c17,c18,c19,c20,c21,c22,c23,c24,c25,c26,c27,c28,c29,c30,c31,c32,c33,c34,c35,c36,c37,c38,c39,c40,c41,c42,c43,c44,c45,c46,c47,c48,c49,c50,c51,c52,c53,c54,c55,c56,c57,c58,c59,c60,c61,c62,c63,c64,c65,c66,c67,c68,c69,c70,c71,c72,c73,c74,c75,c76,c77,c78,c79,c80,c81,c82,c83,c84,c85,c86,.pointer (some ⟨xb,0,none⟩),.pointer (some ⟨xb,0,none⟩),.pointer (some ⟨xb,0,none⟩),.pointer (some ⟨xb,0,none⟩),.pointer (some ⟨xb,1,none⟩),.slice Aa i ca,.slice (some ⟨rb,0,none⟩) m m,.slice (some ⟨l7,0,none⟩) 1 1,.slice Aa2 (i+1) ca2,.pointer (some ⟨xb,0,none⟩),.pointer (some ⟨xb,0,none⟩),.pointer (some ⟨xb,2,none⟩),a99,.agg #[.bool x.1,.string x.2.1,.string x.2.2],a101,a102,a103,a104,a105,a106,c107],[]⟩ W:=by
  intro l7 Aa2 ca2 W hk hx hb oa na ob ap;rw[hF.out];refine wpAnyH_ready (rs:=[12,14]) (by kernel_rfl) (by simp) ?_;have x1:=hx.out.c2;have x9:=hx.out.lt;refine AllReadyH.cons (o:=_) rfl (fun K hK=>?_) ?_
  · go_simp;clear x1 x9;refine hK.out _ _ (⟨hb.out.c0,hb.out.c1,hb.out.c2⟩) (fun _=>?_);clear hK K
    try simp only[List.setIfInBounds_toArray,List.set_cons_zero,List.set_cons_succ]
    rw[←hF.out];exact Lx5x7x8x12 l7 Aa2 ca2 W hk hx hb oa na ob ap
  clear x1 x9;refine AllReadyH.cons (o:=_) rfl (fun K hK=>?_) ?_
  · go_simp;refine hK.out _ _ (⟨(hb.out.alloc (.cells #[.bool x.1,.string x.2.1,.string x.2.2] 40)).c0,(hb.out.alloc (.cells #[.bool x.1,.string x.2.1,.string x.2.2] 40)).c1,(hb.out.alloc (.cells #[.bool x.1,.string x.2.1,.string x.2.2] 40)).c2⟩) (fun _=>?_);clear hK K
    try simp only[List.setIfInBounds_toArray,List.set_cons_zero,List.set_cons_succ]
    rw[←hF.out];exact Lx5x7x8x14 l7 Aa2 ca2 W.heap.size _ (zh ((hk.out.alloc (.cells #[.bool x.1,.string x.2.1,.string x.2.2] 40)))) (zh ((hx.out.alloc (.cells #[.bool x.1,.string x.2.1,.string x.2.2] 40)))) (zh ((hb.out.alloc (.cells #[.bool x.1,.string x.2.1,.string x.2.2] 40)))) (zh ((oa.out.alloc (.cells #[.bool x.1,.string x.2.1,.string x.2.2] 40)))) (zh (na.out)) (zh ((ob.out.alloc (.cells #[.bool x.1,.string x.2.1,.string x.2.2] 40)))) (zh (ap.out)) (zh (⟨⟨(Bk.new W 40 [.bool x.1,.string x.2.1,.string x.2.2]).c0,(Bk.new W 40 [.bool x.1,.string x.2.1,.string x.2.2]).c1,(Bk.new W 40 [.bool x.1,.string x.2.1,.string x.2.2]).c2⟩,hk.out.size,by rw[World.size_alloc];exact Nat.lt_succ_self _⟩))
  exact AllReadyH.nil
 have Lx5x7:∀(l7:Nat) (W:World),Hid (Kp (xb::((Value.slice Aa i ca).ownBlock.toList++(Value.slice Ab i cb).ownBlock.toList)) w W)→Hid (Bk W xb 75 [uv,.slice Aa i ca,.slice Ab i cb])→Hid (Bk W gb 40 [.bool x.1,.string x.2.1,.string x.2.2])→Hid (W.ownsRow B1 27 1 (Value.slice Aa i ca) i hds)→Hid (W.ownsRow B1 40 3 (Value.slice Ab i cb) i cbs)→Hid (∀b,(Value.slice Aa i ca).ownBlock=some b→(Value.slice Ab i cb).ownBlock≠some b)→Hid (W.cell? ⟨l7,0,none⟩=some (.slice (some ⟨rb,0,none⟩) m m)∧w.heap.size≤l7∧l7<W.heap.size)→F 10 #[true,true,true,true,true,true,true,true,false,true,true,true,false,true,false,false,false,false,false,false,false,false] ⟨#[.pointer (some ⟨xb,0,none⟩),c1,c2,c3,c4,c5,c6,c7,c8,.slice (some ⟨rb,0,none⟩) m m,c10,.pointer (some ⟨gb,0,none⟩),c12,c13,c14,c15,c16,c17,c18,c19,c20,c21,c22,c23,c24,c25,c26,c27,c28,c29,c30,c31,c32,c33,c34,c35,c36,c37,c38,c39,c40,c41,c42,c43,c44,c45,c46,c47,c48,c49,c50,c51,c52,c53,c54,c55,c56,c57,c58,c59,c60,c61,c62,c63,c64,c65,c66,c67,c68,c69,c70,c71,c72,c73,c74,c75,c76,c77,c78,c79,c80,c81,c82,c83,c84,c85,c86,.pointer (some ⟨xb,0,none⟩),.pointer (some ⟨xb,0,none⟩),.pointer (some ⟨xb,0,none⟩),.pointer (some ⟨xb,0,none⟩),.pointer (some ⟨xb,1,none⟩),.slice Aa i ca,.slice (some ⟨rb,0,none⟩) m m,.slice (some ⟨l7,0,none⟩) 1 1,a95,.pointer (some ⟨xb,0,none⟩),.pointer (some ⟨xb,0,none⟩),.pointer (some ⟨xb,2,none⟩),a99,.agg #[.bool x.1,.string x.2.1,.string x.2.2],a101,a102,a103,a104,a105,a106,c107],[]⟩ W:=by
  intro l7 W hk hx hb oa ob ap c7;rw[hF.out];refine wpAnyH_ready (rs:=[8,12,14]) (by kernel_rfl) (by simp) ?_;refine AllReadyH.cons (o:=_) rfl (fun K hK=>?_) ?_
  · rw[if_pos (by rfl)];refine Nt.AS _ _ _ 73 rfl B1 27 i0 (.slice none 0 0) 1 24 Tryz.underlying73 hi0.out z0i0.out z1i0.out z2i0.out rfl (by decide) (.slice Aa i ca) i hds rfl oa.out ⟨l7,0,none⟩ 1 1 [.slice (some ⟨rb,0,none⟩) m m] rfl rfl (J7 c7.out.1) (Ci.AU _ rfl) (by omega) (by unfold maxLen;omega) (by omega) (Nat.le_trans hB1.out hk.out.size) ?_;intro vx wx hox hgx hnx;obtain⟨A9,c9,rfl⟩:=DV hox;have hb2:=zh (hb.out.grown hgx (fun e=>nga.out e.symm));have hx2:=zh (hx.out.grown hgx (fun e=>nxa.out e.symm));have hk2:=zh (H7 hk.out hgx hma.out);have ob2:=zh (ob.out.kept hgx (by cases e:(Value.slice Ab i cb).ownBlock with | none=>exact .inl rfl | some b=>exact .inr (fun e2=>ap.out b e2.symm e)));have na2:Hid ((Value.slice A9 (i+1) c9).ownBlock=(Value.slice Aa i ca).ownBlock∨∃b,(Value.slice A9 (i+1) c9).ownBlock=some b∧w.heap.size≤b):=hnx.imp id fun e=>⟨_,e,hk.out.size⟩;have ap2:Hid (∀b,(Value.slice A9 (i+1) c9).ownBlock=some b→(Value.slice Ab i cb).ownBlock≠some b):=fun b e e2=>by rcases hnx with c | c;(· exact ap.out b (c▸e) e2);(· rw[c]at e;cases e;have:=(ob.out.lt _ e2).2;omega)
    refine hK.out _ _ (⟨hb2.out.c0,hb2.out.c1,hb2.out.c2⟩) (fun _=>?_);clear hK K
    try simp only[Act.put,List.setIfInBounds_toArray,List.set_cons_zero,List.set_cons_succ]
    rw[←hF.out];exact Lx5x7x8 l7 A9 c9 _ hk2 hx2 hb2 (zh hox) na2 ob2 ap2
  have x1:=hx.out.c2;have x9:=hx.out.lt;refine AllReadyH.cons (o:=_) rfl (fun K hK=>?_) ?_
  · go_simp;clear x1 x9;refine hK.out _ _ (⟨hb.out.c0,hb.out.c1,hb.out.c2⟩) (fun _=>?_);clear hK K
    try simp only[List.setIfInBounds_toArray,List.set_cons_zero,List.set_cons_succ]
    rw[←hF.out];exact Lx5x7x12 l7 W hk hx hb oa ob ap c7
  clear x1 x9;refine AllReadyH.cons (o:=_) rfl (fun K hK=>?_) ?_
  · go_simp;refine hK.out _ _ (⟨(hb.out.alloc (.cells #[.bool x.1,.string x.2.1,.string x.2.2] 40)).c0,(hb.out.alloc (.cells #[.bool x.1,.string x.2.1,.string x.2.2] 40)).c1,(hb.out.alloc (.cells #[.bool x.1,.string x.2.1,.string x.2.2] 40)).c2⟩) (fun _=>?_);clear hK K
    try simp only[List.setIfInBounds_toArray,List.set_cons_zero,List.set_cons_succ]
    rw[←hF.out];exact Lx5x7x14 l7 W.heap.size _ (zh ((hk.out.alloc (.cells #[.bool x.1,.string x.2.1,.string x.2.2] 40)))) (zh ((hx.out.alloc (.cells #[.bool x.1,.string x.2.1,.string x.2.2] 40)))) (zh ((hb.out.alloc (.cells #[.bool x.1,.string x.2.1,.string x.2.2] 40)))) (zh ((oa.out.alloc (.cells #[.bool x.1,.string x.2.1,.string x.2.2] 40)))) (zh ((ob.out.alloc (.cells #[.bool x.1,.string x.2.1,.string x.2.2] 40)))) (zh (ap.out)) (zh (⟨(World.cell?_alloc_lt _ _ _ c7.out.2.2).trans c7.out.1,c7.out.2.1,by rw[World.size_alloc];exact Nat.lt_succ_of_lt c7.out.2.2⟩)) (zh (⟨⟨(Bk.new W 40 [.bool x.1,.string x.2.1,.string x.2.2]).c0,(Bk.new W 40 [.bool x.1,.string x.2.1,.string x.2.2]).c1,(Bk.new W 40 [.bool x.1,.string x.2.1,.string x.2.2]).c2⟩,hk.out.size,by rw[World.size_alloc];exact Nat.lt_succ_self _⟩))
  exact AllReadyH.nil
 have Lx5x12x14:∀(l14:Nat) (W:World),Hid (Kp (xb::((Value.slice Aa i ca).ownBlock.toList++(Value.slice Ab i cb).ownBlock.toList)) w W)→Hid (Bk W xb 75 [uv,.slice Aa i ca,.slice Ab i cb])→Hid (Bk W gb 40 [.bool x.1,.string x.2.1,.string x.2.2])→Hid (W.ownsRow B1 27 1 (Value.slice Aa i ca) i hds)→Hid (W.ownsRow B1 40 3 (Value.slice Ab i cb) i cbs)→Hid (∀b,(Value.slice Aa i ca).ownBlock=some b→(Value.slice Ab i cb).ownBlock≠some b)→Hid ((W.cell? ⟨l14,0,none⟩=some (.bool x.1)∧W.cell? ⟨l14,1,none⟩=some (.string x.2.1)∧W.cell? ⟨l14,2,none⟩=some (.string x.2.2))∧w.heap.size≤l14∧l14<W.heap.size)→F 9 #[true,true,true,true,true,true,true,false,false,true,true,true,true,true,true,false,false,false,false,false,false,false] ⟨#[.pointer (some ⟨xb,0,none⟩),c1,c2,c3,c4,c5,c6,c7,c8,.slice (some ⟨rb,0,none⟩) m m,c10,.pointer (some ⟨gb,0,none⟩),c12,c13,c14,c15,c16,c17,c18,c19,c20,c21,c22,c23,c24,c25,c26,c27,c28,c29,c30,c31,c32,c33,c34,c35,c36,c37,c38,c39,c40,c41,c42,c43,c44,c45,c46,c47,c48,c49,c50,c51,c52,c53,c54,c55,c56,c57,c58,c59,c60,c61,c62,c63,c64,c65,c66,c67,c68,c69,c70,c71,c72,c73,c74,c75,c76,c77,c78,c79,c80,c81,c82,c83,c84,c85,c86,.pointer (some ⟨xb,0,none⟩),.pointer (some ⟨xb,0,none⟩),.pointer (some ⟨xb,0,none⟩),.pointer (some ⟨xb,0,none⟩),.pointer (some ⟨xb,1,none⟩),.slice Aa i ca,.slice (some ⟨rb,0,none⟩) m m,a94,a95,.pointer (some ⟨xb,0,none⟩),.pointer (some ⟨xb,0,none⟩),.pointer (some ⟨xb,2,none⟩),.slice Ab i cb,.agg #[.bool x.1,.string x.2.1,.string x.2.2],.slice (some ⟨l14,0,none⟩) 1 1,a102,a103,a104,a105,a106,c107],[]⟩ W:=by
  intro l14 W hk hx hb oa ob ap c14;rw[hF.out];refine wpAnyH_ready (rs:=[7]) (by kernel_rfl) (by simp) ?_;refine AllReadyH.cons (o:=_) rfl (fun K hK=>?_) ?_
  · go_simp;refine hK.out _ _ (⟨(hb.out.alloc (.cells #[.slice (some ⟨rb,0,none⟩) m m] 27)).c0,(hb.out.alloc (.cells #[.slice (some ⟨rb,0,none⟩) m m] 27)).c1,(hb.out.alloc (.cells #[.slice (some ⟨rb,0,none⟩) m m] 27)).c2⟩) (fun _=>?_);clear hK K
    try simp only[List.setIfInBounds_toArray,List.set_cons_zero,List.set_cons_succ]
    rw[←hF.out];exact Lx5x7x12x14 W.heap.size l14 _ (zh ((hk.out.alloc (.cells #[.slice (some ⟨rb,0,none⟩) m m] 27)))) (zh ((hx.out.alloc (.cells #[.slice (some ⟨rb,0,none⟩) m m] 27)))) (zh ((hb.out.alloc (.cells #[.slice (some ⟨rb,0,none⟩) m m] 27)))) (zh ((oa.out.alloc (.cells #[.slice (some ⟨rb,0,none⟩) m m] 27)))) (zh ((ob.out.alloc (.cells #[.slice (some ⟨rb,0,none⟩) m m] 27)))) (zh (ap.out)) (zh (⟨(Bk.new W 27 [.slice (some ⟨rb,0,none⟩) m m]).c0,hk.out.size,by rw[World.size_alloc];exact Nat.lt_succ_self _⟩)) (zh (⟨⟨(World.cell?_alloc_lt _ _ _ c14.out.2.2).trans c14.out.1.1,(World.cell?_alloc_lt _ _ _ c14.out.2.2).trans c14.out.1.2.1,(World.cell?_alloc_lt _ _ _ c14.out.2.2).trans c14.out.1.2.2⟩,c14.out.2.1,by rw[World.size_alloc];exact Nat.lt_succ_of_lt c14.out.2.2⟩))
  exact AllReadyH.nil
 have Lx5x12:∀(W:World),Hid (Kp (xb::((Value.slice Aa i ca).ownBlock.toList++(Value.slice Ab i cb).ownBlock.toList)) w W)→Hid (Bk W xb 75 [uv,.slice Aa i ca,.slice Ab i cb])→Hid (Bk W gb 40 [.bool x.1,.string x.2.1,.string x.2.2])→Hid (W.ownsRow B1 27 1 (Value.slice Aa i ca) i hds)→Hid (W.ownsRow B1 40 3 (Value.slice Ab i cb) i cbs)→Hid (∀b,(Value.slice Aa i ca).ownBlock=some b→(Value.slice Ab i cb).ownBlock≠some b)→F 10 #[true,true,true,true,true,true,true,false,false,true,true,true,true,true,false,false,false,false,false,false,false,false] ⟨#[.pointer (some ⟨xb,0,none⟩),c1,c2,c3,c4,c5,c6,c7,c8,.slice (some ⟨rb,0,none⟩) m m,c10,.pointer (some ⟨gb,0,none⟩),c12,c13,c14,c15,c16,c17,c18,c19,c20,c21,c22,c23,c24,c25,c26,c27,c28,c29,c30,c31,c32,c33,c34,c35,c36,c37,c38,c39,c40,c41,c42,c43,c44,c45,c46,c47,c48,c49,c50,c51,c52,c53,c54,c55,c56,c57,c58,c59,c60,c61,c62,c63,c64,c65,c66,c67,c68,c69,c70,c71,c72,c73,c74,c75,c76,c77,c78,c79,c80,c81,c82,c83,c84,c85,c86,.pointer (some ⟨xb,0,none⟩),.pointer (some ⟨xb,0,none⟩),.pointer (some ⟨xb,0,none⟩),.pointer (some ⟨xb,0,none⟩),.pointer (some ⟨xb,1,none⟩),.slice Aa i ca,.slice (some ⟨rb,0,none⟩) m m,a94,a95,.pointer (some ⟨xb,0,none⟩),.pointer (some ⟨xb,0,none⟩),.pointer (some ⟨xb,2,none⟩),.slice Ab i cb,.agg #[.bool x.1,.string x.2.1,.string x.2.2],a101,a102,a103,a104,a105,a106,c107],[]⟩ W:=by
  intro  W hk hx hb oa ob ap;rw[hF.out];refine wpAnyH_ready (rs:=[7,14]) (by kernel_rfl) (by simp) ?_;refine AllReadyH.cons (o:=_) rfl (fun K hK=>?_) ?_
  · go_simp;refine hK.out _ _ (⟨(hb.out.alloc (.cells #[.slice (some ⟨rb,0,none⟩) m m] 27)).c0,(hb.out.alloc (.cells #[.slice (some ⟨rb,0,none⟩) m m] 27)).c1,(hb.out.alloc (.cells #[.slice (some ⟨rb,0,none⟩) m m] 27)).c2⟩) (fun _=>?_);clear hK K
    try simp only[List.setIfInBounds_toArray,List.set_cons_zero,List.set_cons_succ]
    rw[←hF.out];exact Lx5x7x12 W.heap.size _ (zh ((hk.out.alloc (.cells #[.slice (some ⟨rb,0,none⟩) m m] 27)))) (zh ((hx.out.alloc (.cells #[.slice (some ⟨rb,0,none⟩) m m] 27)))) (zh ((hb.out.alloc (.cells #[.slice (some ⟨rb,0,none⟩) m m] 27)))) (zh ((oa.out.alloc (.cells #[.slice (some ⟨rb,0,none⟩) m m] 27)))) (zh ((ob.out.alloc (.cells #[.slice (some ⟨rb,0,none⟩) m m] 27)))) (zh (ap.out)) (zh (⟨(Bk.new W 27 [.slice (some ⟨rb,0,none⟩) m m]).c0,hk.out.size,by rw[World.size_alloc];exact Nat.lt_succ_self _⟩))
  refine AllReadyH.cons (o:=_) rfl (fun K hK=>?_) ?_
  · go_simp;refine hK.out _ _ (⟨(hb.out.alloc (.cells #[.bool x.1,.string x.2.1,.string x.2.2] 40)).c0,(hb.out.alloc (.cells #[.bool x.1,.string x.2.1,.string x.2.2] 40)).c1,(hb.out.alloc (.cells #[.bool x.1,.string x.2.1,.string x.2.2] 40)).c2⟩) (fun _=>?_);clear hK K
    try simp only[List.setIfInBounds_toArray,List.set_cons_zero,List.set_cons_succ]
    rw[←hF.out];exact Lx5x12x14 W.heap.size _ (zh ((hk.out.alloc (.cells #[.bool x.1,.string x.2.1,.string x.2.2] 40)))) (zh ((hx.out.alloc (.cells #[.bool x.1,.string x.2.1,.string x.2.2] 40)))) (zh ((hb.out.alloc (.cells #[.bool x.1,.string x.2.1,.string x.2.2] 40)))) (zh ((oa.out.alloc (.cells #[.bool x.1,.string x.2.1,.string x.2.2] 40)))) (zh ((ob.out.alloc (.cells #[.bool x.1,.string x.2.1,.string x.2.2] 40)))) (zh (ap.out)) (zh (⟨⟨(Bk.new W 40 [.bool x.1,.string x.2.1,.string x.2.2]).c0,(Bk.new W 40 [.bool x.1,.string x.2.1,.string x.2.2]).c1,(Bk.new W 40 [.bool x.1,.string x.2.1,.string x.2.2]).c2⟩,hk.out.size,by rw[World.size_alloc];exact Nat.lt_succ_self _⟩))
  exact AllReadyH.nil
 have Lx5x14:∀(l14:Nat) (W:World),Hid (Kp (xb::((Value.slice Aa i ca).ownBlock.toList++(Value.slice Ab i cb).ownBlock.toList)) w W)→Hid (Bk W xb 75 [uv,.slice Aa i ca,.slice Ab i cb])→Hid (Bk W gb 40 [.bool x.1,.string x.2.1,.string x.2.2])→Hid (W.ownsRow B1 27 1 (Value.slice Aa i ca) i hds)→Hid (W.ownsRow B1 40 3 (Value.slice Ab i cb) i cbs)→Hid (∀b,(Value.slice Aa i ca).ownBlock=some b→(Value.slice Ab i cb).ownBlock≠some b)→Hid ((W.cell? ⟨l14,0,none⟩=some (.bool x.1)∧W.cell? ⟨l14,1,none⟩=some (.string x.2.1)∧W.cell? ⟨l14,2,none⟩=some (.string x.2.2))∧w.heap.size≤l14∧l14<W.heap.size)→F 10 #[true,true,true,true,true,true,true,false,false,true,true,true,false,true,true,false,false,false,false,false,false,false] ⟨#[.pointer (some ⟨xb,0,none⟩),c1,c2,c3,c4,c5,c6,c7,c8,.slice (some ⟨rb,0,none⟩) m m,c10,.pointer (some ⟨gb,0,none⟩),c12,c13,c14,c15,c16,c17,c18,c19,c20,c21,c22,c23,c24,c25,c26,c27,c28,c29,c30,c31,c32,c33,c34,c35,c36,c37,c38,c39,c40,c41,c42,c43,c44,c45,c46,c47,c48,c49,c50,c51,c52,c53,c54,c55,c56,c57,c58,c59,c60,c61,c62,c63,c64,c65,c66,c67,c68,c69,c70,c71,c72,c73,c74,c75,c76,c77,c78,c79,c80,c81,c82,c83,c84,c85,c86,.pointer (some ⟨xb,0,none⟩),.pointer (some ⟨xb,0,none⟩),.pointer (some ⟨xb,0,none⟩),.pointer (some ⟨xb,0,none⟩),.pointer (some ⟨xb,1,none⟩),.slice Aa i ca,.slice (some ⟨rb,0,none⟩) m m,a94,a95,.pointer (some ⟨xb,0,none⟩),.pointer (some ⟨xb,0,none⟩),.pointer (some ⟨xb,2,none⟩),a99,.agg #[.bool x.1,.string x.2.1,.string x.2.2],.slice (some ⟨l14,0,none⟩) 1 1,a102,a103,a104,a105,a106,c107],[]⟩ W:=by
  intro l14 W hk hx hb oa ob ap c14;rw[hF.out];refine wpAnyH_ready (rs:=[7,12]) (by kernel_rfl) (by simp) ?_;refine AllReadyH.cons (o:=_) rfl (fun K hK=>?_) ?_
  · go_simp;refine hK.out _ _ (⟨(hb.out.alloc (.cells #[.slice (some ⟨rb,0,none⟩) m m] 27)).c0,(hb.out.alloc (.cells #[.slice (some ⟨rb,0,none⟩) m m] 27)).c1,(hb.out.alloc (.cells #[.slice (some ⟨rb,0,none⟩) m m] 27)).c2⟩) (fun _=>?_);clear hK K
    try simp only[List.setIfInBounds_toArray,List.set_cons_zero,List.set_cons_succ]
    rw[←hF.out];exact Lx5x7x14 W.heap.size l14 _ (zh ((hk.out.alloc (.cells #[.slice (some ⟨rb,0,none⟩) m m] 27)))) (zh ((hx.out.alloc (.cells #[.slice (some ⟨rb,0,none⟩) m m] 27)))) (zh ((hb.out.alloc (.cells #[.slice (some ⟨rb,0,none⟩) m m] 27)))) (zh ((oa.out.alloc (.cells #[.slice (some ⟨rb,0,none⟩) m m] 27)))) (zh ((ob.out.alloc (.cells #[.slice (some ⟨rb,0,none⟩) m m] 27)))) (zh (ap.out)) (zh (⟨(Bk.new W 27 [.slice (some ⟨rb,0,none⟩) m m]).c0,hk.out.size,by rw[World.size_alloc];exact Nat.lt_succ_self _⟩)) (zh (⟨⟨(World.cell?_alloc_lt _ _ _ c14.out.2.2).trans c14.out.1.1,(World.cell?_alloc_lt _ _ _ c14.out.2.2).trans c14.out.1.2.1,(World.cell?_alloc_lt _ _ _ c14.out.2.2).trans c14.out.1.2.2⟩,c14.out.2.1,by rw[World.size_alloc];exact Nat.lt_succ_of_lt c14.out.2.2⟩))
  have x1:=hx.out.c2;have x9:=hx.out.lt;refine AllReadyH.cons (o:=_) rfl (fun K hK=>?_) ?_
  · go_simp;clear x1 x9;refine hK.out _ _ (⟨hb.out.c0,hb.out.c1,hb.out.c2⟩) (fun _=>?_);clear hK K
    try simp only[List.setIfInBounds_toArray,List.set_cons_zero,List.set_cons_succ]
    rw[←hF.out];exact Lx5x12x14 l14 W hk hx hb oa ob ap c14
  clear x1 x9;exact AllReadyH.nil
 have Lx5:∀(W:World),Hid (Kp (xb::((Value.slice Aa i ca).ownBlock.toList++(Value.slice Ab i cb).ownBlock.toList)) w W)→Hid (Bk W xb 75 [uv,.slice Aa i ca,.slice Ab i cb])→Hid (Bk W gb 40 [.bool x.1,.string x.2.1,.string x.2.2])→Hid (W.ownsRow B1 27 1 (Value.slice Aa i ca) i hds)→Hid (W.ownsRow B1 40 3 (Value.slice Ab i cb) i cbs)→Hid (∀b,(Value.slice Aa i ca).ownBlock=some b→(Value.slice Ab i cb).ownBlock≠some b)→F 11 #[true,true,true,true,true,true,true,false,false,true,true,true,false,true,false,false,false,false,false,false,false,false] ⟨#[.pointer (some ⟨xb,0,none⟩),c1,c2,c3,c4,c5,c6,c7,c8,.slice (some ⟨rb,0,none⟩) m m,c10,.pointer (some ⟨gb,0,none⟩),c12,c13,c14,c15,c16,c17,c18,c19,c20,c21,c22,c23,c24,c25,c26,c27,c28,c29,c30,c31,c32,c33,c34,c35,c36,c37,c38,c39,c40,c41,c42,c43,c44,c45,c46,c47,c48,c49,c50,c51,c52,c53,c54,c55,c56,c57,c58,c59,c60,c61,c62,c63,c64,c65,c66,c67,c68,c69,c70,c71,c72,c73,c74,c75,c76,c77,c78,c79,c80,c81,c82,c83,c84,c85,c86,.pointer (some ⟨xb,0,none⟩),.pointer (some ⟨xb,0,none⟩),.pointer (some ⟨xb,0,none⟩),.pointer (some ⟨xb,0,none⟩),.pointer (some ⟨xb,1,none⟩),.slice Aa i ca,.slice (some ⟨rb,0,none⟩) m m,a94,a95,.pointer (some ⟨xb,0,none⟩),.pointer (some ⟨xb,0,none⟩),.pointer (some ⟨xb,2,none⟩),a99,.agg #[.bool x.1,.string x.2.1,.string x.2.2],a101,a102,a103,a104,a105,a106,c107],[]⟩ W:=by
  intro  W hk hx hb oa ob ap;rw[hF.out];refine wpAnyH_ready (rs:=[7,12,14]) (by kernel_rfl) (by simp) ?_;refine AllReadyH.cons (o:=_) rfl (fun K hK=>?_) ?_
  · go_simp;refine hK.out _ _ (⟨(hb.out.alloc (.cells #[.slice (some ⟨rb,0,none⟩) m m] 27)).c0,(hb.out.alloc (.cells #[.slice (some ⟨rb,0,none⟩) m m] 27)).c1,(hb.out.alloc (.cells #[.slice (some ⟨rb,0,none⟩) m m] 27)).c2⟩) (fun _=>?_);clear hK K
    try simp only[List.setIfInBounds_toArray,List.set_cons_zero,List.set_cons_succ]
    rw[←hF.out];exact Lx5x7 W.heap.size _ (zh ((hk.out.alloc (.cells #[.slice (some ⟨rb,0,none⟩) m m] 27)))) (zh ((hx.out.alloc (.cells #[.slice (some ⟨rb,0,none⟩) m m] 27)))) (zh ((hb.out.alloc (.cells #[.slice (some ⟨rb,0,none⟩) m m] 27)))) (zh ((oa.out.alloc (.cells #[.slice (some ⟨rb,0,none⟩) m m] 27)))) (zh ((ob.out.alloc (.cells #[.slice (some ⟨rb,0,none⟩) m m] 27)))) (zh (ap.out)) (zh (⟨(Bk.new W 27 [.slice (some ⟨rb,0,none⟩) m m]).c0,hk.out.size,by rw[World.size_alloc];exact Nat.lt_succ_self _⟩))
  have x1:=hx.out.c2;have x9:=hx.out.lt;refine AllReadyH.cons (o:=_) rfl (fun K hK=>?_) ?_
  · go_simp;clear x1 x9;refine hK.out _ _ (⟨hb.out.c0,hb.out.c1,hb.out.c2⟩) (fun _=>?_);clear hK K
    try simp only[List.setIfInBounds_toArray,List.set_cons_zero,List.set_cons_succ]
    rw[←hF.out];exact Lx5x12  W hk hx hb oa ob ap
  clear x1 x9;refine AllReadyH.cons (o:=_) rfl (fun K hK=>?_) ?_
  · go_simp;refine hK.out _ _ (⟨(hb.out.alloc (.cells #[.bool x.1,.string x.2.1,.string x.2.2] 40)).c0,(hb.out.alloc (.cells #[.bool x.1,.string x.2.1,.string x.2.2] 40)).c1,(hb.out.alloc (.cells #[.bool x.1,.string x.2.1,.string x.2.2] 40)).c2⟩) (fun _=>?_);clear hK K
    try simp only[List.setIfInBounds_toArray,List.set_cons_zero,List.set_cons_succ]
    rw[←hF.out];exact Lx5x14 W.heap.size _ (zh ((hk.out.alloc (.cells #[.bool x.1,.string x.2.1,.string x.2.2] 40)))) (zh ((hx.out.alloc (.cells #[.bool x.1,.string x.2.1,.string x.2.2] 40)))) (zh ((hb.out.alloc (.cells #[.bool x.1,.string x.2.1,.string x.2.2] 40)))) (zh ((oa.out.alloc (.cells #[.bool x.1,.string x.2.1,.string x.2.2] 40)))) (zh ((ob.out.alloc (.cells #[.bool x.1,.string x.2.1,.string x.2.2] 40)))) (zh (ap.out)) (zh (⟨⟨(Bk.new W 40 [.bool x.1,.string x.2.1,.string x.2.2]).c0,(Bk.new W 40 [.bool x.1,.string x.2.1,.string x.2.2]).c1,(Bk.new W 40 [.bool x.1,.string x.2.1,.string x.2.2]).c2⟩,hk.out.size,by rw[World.size_alloc];exact Nat.lt_succ_self _⟩))
  exact AllReadyH.nil
 have Lx7x12x14:∀(l7:Nat) (l14:Nat) (W:World),Hid (Kp (xb::((Value.slice Aa i ca).ownBlock.toList++(Value.slice Ab i cb).ownBlock.toList)) w W)→Hid (Bk W xb 75 [uv,.slice Aa i ca,.slice Ab i cb])→Hid (Bk W gb 40 [.bool x.1,.string x.2.1,.string x.2.2])→Hid (W.ownsRow B1 27 1 (Value.slice Aa i ca) i hds)→Hid (W.ownsRow B1 40 3 (Value.slice Ab i cb) i cbs)→Hid (∀b,(Value.slice Aa i ca).ownBlock=some b→(Value.slice Ab i cb).ownBlock≠some b)→Hid (W.cell? ⟨l7,0,none⟩=some (.slice (some ⟨rb,0,none⟩) m m)∧w.heap.size≤l7∧l7<W.heap.size)→Hid ((W.cell? ⟨l14,0,none⟩=some (.bool x.1)∧W.cell? ⟨l14,1,none⟩=some (.string x.2.1)∧W.cell? ⟨l14,2,none⟩=some (.string x.2.2))∧w.heap.size≤l14∧l14<W.heap.size)→F 9 #[true,true,true,true,true,false,true,true,false,true,true,true,true,true,true,false,false,false,false,false,false,false] ⟨#[.pointer (some ⟨xb,0,none⟩),c1,c2,c3,c4,c5,c6,c7,c8,.slice (some ⟨rb,0,none⟩) m m,c10,.pointer (some ⟨gb,0,none⟩),c12,c13,c14,c15,c16,c17,c18,c19,c20,c21,c22,c23,c24,c25,c26,c27,c28,c29,c30,c31,c32,c33,c34,c35,c36,c37,c38,c39,c40,c41,c42,c43,c44,c45,c46,c47,c48,c49,c50,c51,c52,c53,c54,c55,c56,c57,c58,c59,c60,c61,c62,c63,c64,c65,c66,c67,c68,c69,c70,c71,c72,c73,c74,c75,c76,c77,c78,c79,c80,c81,c82,c83,c84,c85,c86,.pointer (some ⟨xb,0,none⟩),.pointer (some ⟨xb,0,none⟩),.pointer (some ⟨xb,0,none⟩),.pointer (some ⟨xb,0,none⟩),.pointer (some ⟨xb,1,none⟩),a92,.slice (some ⟨rb,0,none⟩) m m,.slice (some ⟨l7,0,none⟩) 1 1,a95,.pointer (some ⟨xb,0,none⟩),.pointer (some ⟨xb,0,none⟩),.pointer (some ⟨xb,2,none⟩),.slice Ab i cb,.agg #[.bool x.1,.string x.2.1,.string x.2.2],.slice (some ⟨l14,0,none⟩) 1 1,a102,a103,a104,a105,a106,c107],[]⟩ W:=by
  intro l7 l14 W hk hx hb oa ob ap c7 c14;rw[hF.out];refine wpAnyH_ready (rs:=[5]) (by kernel_rfl) (by simp) ?_;have x1:=hx.out.c1;have x9:=hx.out.lt;refine AllReadyH.cons (o:=_) rfl (fun K hK=>?_) ?_
  · go_simp;clear x1 x9;refine hK.out _ _ (⟨hb.out.c0,hb.out.c1,hb.out.c2⟩) (fun _=>?_);clear hK K
    try simp only[List.setIfInBounds_toArray,List.set_cons_zero,List.set_cons_succ]
    rw[←hF.out];exact Lx5x7x12x14 l7 l14 W hk hx hb oa ob ap c7 c14
  clear x1 x9;exact AllReadyH.nil
 have Lx7x12:∀(l7:Nat) (W:World),Hid (Kp (xb::((Value.slice Aa i ca).ownBlock.toList++(Value.slice Ab i cb).ownBlock.toList)) w W)→Hid (Bk W xb 75 [uv,.slice Aa i ca,.slice Ab i cb])→Hid (Bk W gb 40 [.bool x.1,.string x.2.1,.string x.2.2])→Hid (W.ownsRow B1 27 1 (Value.slice Aa i ca) i hds)→Hid (W.ownsRow B1 40 3 (Value.slice Ab i cb) i cbs)→Hid (∀b,(Value.slice Aa i ca).ownBlock=some b→(Value.slice Ab i cb).ownBlock≠some b)→Hid (W.cell? ⟨l7,0,none⟩=some (.slice (some ⟨rb,0,none⟩) m m)∧w.heap.size≤l7∧l7<W.heap.size)→F 10 #[true,true,true,true,true,false,true,true,false,true,true,true,true,true,false,false,false,false,false,false,false,false] ⟨#[.pointer (some ⟨xb,0,none⟩),c1,c2,c3,c4,c5,c6,c7,c8,.slice (some ⟨rb,0,none⟩) m m,c10,.pointer (some ⟨gb,0,none⟩),c12,c13,c14,c15,c16,c17,c18,c19,c20,c21,c22,c23,c24,c25,c26,c27,c28,c29,c30,c31,c32,c33,c34,c35,c36,c37,c38,c39,c40,c41,c42,c43,c44,c45,c46,c47,c48,c49,c50,c51,c52,c53,c54,c55,c56,c57,c58,c59,c60,c61,c62,c63,c64,c65,c66,c67,c68,c69,c70,c71,c72,c73,c74,c75,c76,c77,c78,c79,c80,c81,c82,c83,c84,c85,c86,.pointer (some ⟨xb,0,none⟩),.pointer (some ⟨xb,0,none⟩),.pointer (some ⟨xb,0,none⟩),.pointer (some ⟨xb,0,none⟩),.pointer (some ⟨xb,1,none⟩),a92,.slice (some ⟨rb,0,none⟩) m m,.slice (some ⟨l7,0,none⟩) 1 1,a95,.pointer (some ⟨xb,0,none⟩),.pointer (some ⟨xb,0,none⟩),.pointer (some ⟨xb,2,none⟩),.slice Ab i cb,.agg #[.bool x.1,.string x.2.1,.string x.2.2],a101,a102,a103,a104,a105,a106,c107],[]⟩ W:=by
  intro l7 W hk hx hb oa ob ap c7;rw[hF.out];refine wpAnyH_ready (rs:=[5,14]) (by kernel_rfl) (by simp) ?_;have x1:=hx.out.c1;have x9:=hx.out.lt;refine AllReadyH.cons (o:=_) rfl (fun K hK=>?_) ?_
  · go_simp;clear x1 x9;refine hK.out _ _ (⟨hb.out.c0,hb.out.c1,hb.out.c2⟩) (fun _=>?_);clear hK K
    try simp only[List.setIfInBounds_toArray,List.set_cons_zero,List.set_cons_succ]
    rw[←hF.out];exact Lx5x7x12 l7 W hk hx hb oa ob ap c7
  clear x1 x9;refine AllReadyH.cons (o:=_) rfl (fun K hK=>?_) ?_
  · go_simp;refine hK.out _ _ (⟨(hb.out.alloc (.cells #[.bool x.1,.string x.2.1,.string x.2.2] 40)).c0,(hb.out.alloc (.cells #[.bool x.1,.string x.2.1,.string x.2.2] 40)).c1,(hb.out.alloc (.cells #[.bool x.1,.string x.2.1,.string x.2.2] 40)).c2⟩) (fun _=>?_);clear hK K
    try simp only[List.setIfInBounds_toArray,List.set_cons_zero,List.set_cons_succ]
    rw[←hF.out];exact Lx7x12x14 l7 W.heap.size _ (zh ((hk.out.alloc (.cells #[.bool x.1,.string x.2.1,.string x.2.2] 40)))) (zh ((hx.out.alloc (.cells #[.bool x.1,.string x.2.1,.string x.2.2] 40)))) (zh ((hb.out.alloc (.cells #[.bool x.1,.string x.2.1,.string x.2.2] 40)))) (zh ((oa.out.alloc (.cells #[.bool x.1,.string x.2.1,.string x.2.2] 40)))) (zh ((ob.out.alloc (.cells #[.bool x.1,.string x.2.1,.string x.2.2] 40)))) (zh (ap.out)) (zh (⟨(World.cell?_alloc_lt _ _ _ c7.out.2.2).trans c7.out.1,c7.out.2.1,by rw[World.size_alloc];exact Nat.lt_succ_of_lt c7.out.2.2⟩)) (zh (⟨⟨(Bk.new W 40 [.bool x.1,.string x.2.1,.string x.2.2]).c0,(Bk.new W 40 [.bool x.1,.string x.2.1,.string x.2.2]).c1,(Bk.new W 40 [.bool x.1,.string x.2.1,.string x.2.2]).c2⟩,hk.out.size,by rw[World.size_alloc];exact Nat.lt_succ_self _⟩))
  exact AllReadyH.nil
 have Lx7x14:∀(l7:Nat) (l14:Nat) (W:World),Hid (Kp (xb::((Value.slice Aa i ca).ownBlock.toList++(Value.slice Ab i cb).ownBlock.toList)) w W)→Hid (Bk W xb 75 [uv,.slice Aa i ca,.slice Ab i cb])→Hid (Bk W gb 40 [.bool x.1,.string x.2.1,.string x.2.2])→Hid (W.ownsRow B1 27 1 (Value.slice Aa i ca) i hds)→Hid (W.ownsRow B1 40 3 (Value.slice Ab i cb) i cbs)→Hid (∀b,(Value.slice Aa i ca).ownBlock=some b→(Value.slice Ab i cb).ownBlock≠some b)→Hid (W.cell? ⟨l7,0,none⟩=some (.slice (some ⟨rb,0,none⟩) m m)∧w.heap.size≤l7∧l7<W.heap.size)→Hid ((W.cell? ⟨l14,0,none⟩=some (.bool x.1)∧W.cell? ⟨l14,1,none⟩=some (.string x.2.1)∧W.cell? ⟨l14,2,none⟩=some (.string x.2.2))∧w.heap.size≤l14∧l14<W.heap.size)→F 10 #[true,true,true,true,true,false,true,true,false,true,true,true,false,true,true,false,false,false,false,false,false,false] ⟨#[.pointer (some ⟨xb,0,none⟩),c1,c2,c3,c4,c5,c6,c7,c8,.slice (some ⟨rb,0,none⟩) m m,c10,.pointer (some ⟨gb,0,none⟩),c12,c13,c14,c15,c16,c17,c18,c19,c20,c21,c22,c23,c24,c25,c26,c27,c28,c29,c30,c31,c32,c33,c34,c35,c36,c37,c38,c39,c40,c41,c42,c43,c44,c45,c46,c47,c48,c49,c50,c51,c52,c53,c54,c55,c56,c57,c58,c59,c60,c61,c62,c63,c64,c65,c66,c67,c68,c69,c70,c71,c72,c73,c74,c75,c76,c77,c78,c79,c80,c81,c82,c83,c84,c85,c86,.pointer (some ⟨xb,0,none⟩),.pointer (some ⟨xb,0,none⟩),.pointer (some ⟨xb,0,none⟩),.pointer (some ⟨xb,0,none⟩),.pointer (some ⟨xb,1,none⟩),a92,.slice (some ⟨rb,0,none⟩) m m,.slice (some ⟨l7,0,none⟩) 1 1,a95,.pointer (some ⟨xb,0,none⟩),.pointer (some ⟨xb,0,none⟩),.pointer (some ⟨xb,2,none⟩),a99,.agg #[.bool x.1,.string x.2.1,.string x.2.2],.slice (some ⟨l14,0,none⟩) 1 1,a102,a103,a104,a105,a106,c107],[]⟩ W:=by
  intro l7 l14 W hk hx hb oa ob ap c7 c14;rw[hF.out];refine wpAnyH_ready (rs:=[5,12]) (by kernel_rfl) (by simp) ?_;have x1:=hx.out.c1;have x9:=hx.out.lt;refine AllReadyH.cons (o:=_) rfl (fun K hK=>?_) ?_
  · go_simp;clear x1 x9;refine hK.out _ _ (⟨hb.out.c0,hb.out.c1,hb.out.c2⟩) (fun _=>?_);clear hK K
    try simp only[List.setIfInBounds_toArray,List.set_cons_zero,List.set_cons_succ]
    rw[←hF.out];exact Lx5x7x14 l7 l14 W hk hx hb oa ob ap c7 c14
  clear x1 x9;have x1:=hx.out.c2;have x9:=hx.out.lt;refine AllReadyH.cons (o:=_) rfl (fun K hK=>?_) ?_
  · go_simp;clear x1 x9;refine hK.out _ _ (⟨hb.out.c0,hb.out.c1,hb.out.c2⟩) (fun _=>?_);clear hK K
    try simp only[List.setIfInBounds_toArray,List.set_cons_zero,List.set_cons_succ]
    rw[←hF.out];exact Lx7x12x14 l7 l14 W hk hx hb oa ob ap c7 c14
  clear x1 x9;exact AllReadyH.nil
 have Lx7:∀(l7:Nat) (W:World),Hid (Kp (xb::((Value.slice Aa i ca).ownBlock.toList++(Value.slice Ab i cb).ownBlock.toList)) w W)→Hid (Bk W xb 75 [uv,.slice Aa i ca,.slice Ab i cb])→Hid (Bk W gb 40 [.bool x.1,.string x.2.1,.string x.2.2])→Hid (W.ownsRow B1 27 1 (Value.slice Aa i ca) i hds)→Hid (W.ownsRow B1 40 3 (Value.slice Ab i cb) i cbs)→Hid (∀b,(Value.slice Aa i ca).ownBlock=some b→(Value.slice Ab i cb).ownBlock≠some b)→Hid (W.cell? ⟨l7,0,none⟩=some (.slice (some ⟨rb,0,none⟩) m m)∧w.heap.size≤l7∧l7<W.heap.size)→F 11 #[true,true,true,true,true,false,true,true,false,true,true,true,false,true,false,false,false,false,false,false,false,false] ⟨#[.pointer (some ⟨xb,0,none⟩),c1,c2,c3,c4,c5,c6,c7,c8,.slice (some ⟨rb,0,none⟩) m m,c10,.pointer (some ⟨gb,0,none⟩),c12,c13,c14,c15,c16,c17,c18,c19,c20,c21,c22,c23,c24,c25,c26,c27,c28,c29,c30,c31,c32,c33,c34,c35,c36,c37,c38,c39,c40,c41,c42,c43,c44,c45,c46,c47,c48,c49,c50,c51,c52,c53,c54,c55,c56,c57,c58,c59,c60,c61,c62,c63,c64,c65,c66,c67,c68,c69,c70,c71,c72,c73,c74,c75,c76,c77,c78,c79,c80,c81,c82,c83,c84,c85,c86,.pointer (some ⟨xb,0,none⟩),.pointer (some ⟨xb,0,none⟩),.pointer (some ⟨xb,0,none⟩),.pointer (some ⟨xb,0,none⟩),.pointer (some ⟨xb,1,none⟩),a92,.slice (some ⟨rb,0,none⟩) m m,.slice (some ⟨l7,0,none⟩) 1 1,a95,.pointer (some ⟨xb,0,none⟩),.pointer (some ⟨xb,0,none⟩),.pointer (some ⟨xb,2,none⟩),a99,.agg #[.bool x.1,.string x.2.1,.string x.2.2],a101,a102,a103,a104,a105,a106,c107],[]⟩ W:=by
  intro l7 W hk hx hb oa ob ap c7;rw[hF.out];refine wpAnyH_ready (rs:=[5,12,14]) (by kernel_rfl) (by simp) ?_;have x1:=hx.out.c1;have x9:=hx.out.lt;refine AllReadyH.cons (o:=_) rfl (fun K hK=>?_) ?_
  · go_simp;clear x1 x9;refine hK.out _ _ (⟨hb.out.c0,hb.out.c1,hb.out.c2⟩) (fun _=>?_);clear hK K
    try simp only[List.setIfInBounds_toArray,List.set_cons_zero,List.set_cons_succ]
    rw[←hF.out];exact Lx5x7 l7 W hk hx hb oa ob ap c7
  clear x1 x9;have x1:=hx.out.c2;have x9:=hx.out.lt;refine AllReadyH.cons (o:=_) rfl (fun K hK=>?_) ?_
  · go_simp;clear x1 x9;refine hK.out _ _ (⟨hb.out.c0,hb.out.c1,hb.out.c2⟩) (fun _=>?_);clear hK K
    try simp only[List.setIfInBounds_toArray,List.set_cons_zero,List.set_cons_succ]
    rw[←hF.out];exact Lx7x12 l7 W hk hx hb oa ob ap c7
  clear x1 x9;refine AllReadyH.cons (o:=_) rfl (fun K hK=>?_) ?_
  · go_simp;refine hK.out _ _ (⟨(hb.out.alloc (.cells #[.bool x.1,.string x.2.1,.string x.2.2] 40)).c0,(hb.out.alloc (.cells #[.bool x.1,.string x.2.1,.string x.2.2] 40)).c1,(hb.out.alloc (.cells #[.bool x.1,.string x.2.1,.string x.2.2] 40)).c2⟩) (fun _=>?_);clear hK K
    try simp only[List.setIfInBounds_toArray,List.set_cons_zero,List.set_cons_succ]
    rw[←hF.out];exact Lx7x14 l7 W.heap.size _ (zh ((hk.out.alloc (.cells #[.bool x.1,.string x.2.1,.string x.2.2] 40)))) (zh ((hx.out.alloc (.cells #[.bool x.1,.string x.2.1,.string x.2.2] 40)))) (zh ((hb.out.alloc (.cells #[.bool x.1,.string x.2.1,.string x.2.2] 40)))) (zh ((oa.out.alloc (.cells #[.bool x.1,.string x.2.1,.string x.2.2] 40)))) (zh ((ob.out.alloc (.cells #[.bool x.1,.string x.2.1,.string x.2.2] 40)))) (zh (ap.out)) (zh (⟨(World.cell?_alloc_lt _ _ _ c7.out.2.2).trans c7.out.1,c7.out.2.1,by rw[World.size_alloc];exact Nat.lt_succ_of_lt c7.out.2.2⟩)) (zh (⟨⟨(Bk.new W 40 [.bool x.1,.string x.2.1,.string x.2.2]).c0,(Bk.new W 40 [.bool x.1,.string x.2.1,.string x.2.2]).c1,(Bk.new W 40 [.bool x.1,.string x.2.1,.string x.2.2]).c2⟩,hk.out.size,by rw[World.size_alloc];exact Nat.lt_succ_self _⟩))
  exact AllReadyH.nil
 have Lx12x14:∀(l14:Nat) (W:World),Hid (Kp (xb::((Value.slice Aa i ca).ownBlock.toList++(Value.slice Ab i cb).ownBlock.toList)) w W)→Hid (Bk W xb 75 [uv,.slice Aa i ca,.slice Ab i cb])→Hid (Bk W gb 40 [.bool x.1,.string x.2.1,.string x.2.2])→Hid (W.ownsRow B1 27 1 (Value.slice Aa i ca) i hds)→Hid (W.ownsRow B1 40 3 (Value.slice Ab i cb) i cbs)→Hid (∀b,(Value.slice Aa i ca).ownBlock=some b→(Value.slice Ab i cb).ownBlock≠some b)→Hid ((W.cell? ⟨l14,0,none⟩=some (.bool x.1)∧W.cell? ⟨l14,1,none⟩=some (.string x.2.1)∧W.cell? ⟨l14,2,none⟩=some (.string x.2.2))∧w.heap.size≤l14∧l14<W.heap.size)→F 10 #[true,true,true,true,true,false,true,false,false,true,true,true,true,true,true,false,false,false,false,false,false,false] ⟨#[.pointer (some ⟨xb,0,none⟩),c1,c2,c3,c4,c5,c6,c7,c8,.slice (some ⟨rb,0,none⟩) m m,c10,.pointer (some ⟨gb,0,none⟩),c12,c13,c14,c15,c16,c17,c18,c19,c20,c21,c22,c23,c24,c25,c26,c27,c28,c29,c30,c31,c32,c33,c34,c35,c36,c37,c38,c39,c40,c41,c42,c43,c44,c45,c46,c47,c48,c49,c50,c51,c52,c53,c54,c55,c56,c57,c58,c59,c60,c61,c62,c63,c64,c65,c66,c67,c68,c69,c70,c71,c72,c73,c74,c75,c76,c77,c78,c79,c80,c81,c82,c83,c84,c85,c86,.pointer (some ⟨xb,0,none⟩),.pointer (some ⟨xb,0,none⟩),.pointer (some ⟨xb,0,none⟩),.pointer (some ⟨xb,0,none⟩),.pointer (some ⟨xb,1,none⟩),a92,.slice (some ⟨rb,0,none⟩) m m,a94,a95,.pointer (some ⟨xb,0,none⟩),.pointer (some ⟨xb,0,none⟩),.pointer (some ⟨xb,2,none⟩),.slice Ab i cb,.agg #[.bool x.1,.string x.2.1,.string x.2.2],.slice (some ⟨l14,0,none⟩) 1 1,a102,a103,a104,a105,a106,c107],[]⟩ W:=by
  intro l14 W hk hx hb oa ob ap c14;rw[hF.out];refine wpAnyH_ready (rs:=[5,7]) (by kernel_rfl) (by simp) ?_;have x1:=hx.out.c1;have x9:=hx.out.lt;refine AllReadyH.cons (o:=_) rfl (fun K hK=>?_) ?_
  · go_simp;clear x1 x9;refine hK.out _ _ (⟨hb.out.c0,hb.out.c1,hb.out.c2⟩) (fun _=>?_);clear hK K
    try simp only[List.setIfInBounds_toArray,List.set_cons_zero,List.set_cons_succ]
    rw[←hF.out];exact Lx5x12x14 l14 W hk hx hb oa ob ap c14
  clear x1 x9;refine AllReadyH.cons (o:=_) rfl (fun K hK=>?_) ?_
  · go_simp;refine hK.out _ _ (⟨(hb.out.alloc (.cells #[.slice (some ⟨rb,0,none⟩) m m] 27)).c0,(hb.out.alloc (.cells #[.slice (some ⟨rb,0,none⟩) m m] 27)).c1,(hb.out.alloc (.cells #[.slice (some ⟨rb,0,none⟩) m m] 27)).c2⟩) (fun _=>?_);clear hK K
    try simp only[List.setIfInBounds_toArray,List.set_cons_zero,List.set_cons_succ]
    rw[←hF.out];exact Lx7x12x14 W.heap.size l14 _ (zh ((hk.out.alloc (.cells #[.slice (some ⟨rb,0,none⟩) m m] 27)))) (zh ((hx.out.alloc (.cells #[.slice (some ⟨rb,0,none⟩) m m] 27)))) (zh ((hb.out.alloc (.cells #[.slice (some ⟨rb,0,none⟩) m m] 27)))) (zh ((oa.out.alloc (.cells #[.slice (some ⟨rb,0,none⟩) m m] 27)))) (zh ((ob.out.alloc (.cells #[.slice (some ⟨rb,0,none⟩) m m] 27)))) (zh (ap.out)) (zh (⟨(Bk.new W 27 [.slice (some ⟨rb,0,none⟩) m m]).c0,hk.out.size,by rw[World.size_alloc];exact Nat.lt_succ_self _⟩)) (zh (⟨⟨(World.cell?_alloc_lt _ _ _ c14.out.2.2).trans c14.out.1.1,(World.cell?_alloc_lt _ _ _ c14.out.2.2).trans c14.out.1.2.1,(World.cell?_alloc_lt _ _ _ c14.out.2.2).trans c14.out.1.2.2⟩,c14.out.2.1,by rw[World.size_alloc];exact Nat.lt_succ_of_lt c14.out.2.2⟩))
  exact AllReadyH.nil
 have Lx12:∀(W:World),Hid (Kp (xb::((Value.slice Aa i ca).ownBlock.toList++(Value.slice Ab i cb).ownBlock.toList)) w W)→Hid (Bk W xb 75 [uv,.slice Aa i ca,.slice Ab i cb])→Hid (Bk W gb 40 [.bool x.1,.string x.2.1,.string x.2.2])→Hid (W.ownsRow B1 27 1 (Value.slice Aa i ca) i hds)→Hid (W.ownsRow B1 40 3 (Value.slice Ab i cb) i cbs)→Hid (∀b,(Value.slice Aa i ca).ownBlock=some b→(Value.slice Ab i cb).ownBlock≠some b)→F 11 #[true,true,true,true,true,false,true,false,false,true,true,true,true,true,false,false,false,false,false,false,false,false] ⟨#[.pointer (some ⟨xb,0,none⟩),c1,c2,c3,c4,c5,c6,c7,c8,.slice (some ⟨rb,0,none⟩) m m,c10,.pointer (some ⟨gb,0,none⟩),c12,c13,c14,c15,c16,c17,c18,c19,c20,c21,c22,c23,c24,c25,c26,c27,c28,c29,c30,c31,c32,c33,c34,c35,c36,c37,c38,c39,c40,c41,c42,c43,c44,c45,c46,c47,c48,c49,c50,c51,c52,c53,c54,c55,c56,c57,c58,c59,c60,c61,c62,c63,c64,c65,c66,c67,c68,c69,c70,c71,c72,c73,c74,c75,c76,c77,c78,c79,c80,c81,c82,c83,c84,c85,c86,.pointer (some ⟨xb,0,none⟩),.pointer (some ⟨xb,0,none⟩),.pointer (some ⟨xb,0,none⟩),.pointer (some ⟨xb,0,none⟩),.pointer (some ⟨xb,1,none⟩),a92,.slice (some ⟨rb,0,none⟩) m m,a94,a95,.pointer (some ⟨xb,0,none⟩),.pointer (some ⟨xb,0,none⟩),.pointer (some ⟨xb,2,none⟩),.slice Ab i cb,.agg #[.bool x.1,.string x.2.1,.string x.2.2],a101,a102,a103,a104,a105,a106,c107],[]⟩ W:=by
  intro  W hk hx hb oa ob ap;rw[hF.out];refine wpAnyH_ready (rs:=[5,7,14]) (by kernel_rfl) (by simp) ?_;have x1:=hx.out.c1;have x9:=hx.out.lt;refine AllReadyH.cons (o:=_) rfl (fun K hK=>?_) ?_
  · go_simp;clear x1 x9;refine hK.out _ _ (⟨hb.out.c0,hb.out.c1,hb.out.c2⟩) (fun _=>?_);clear hK K
    try simp only[List.setIfInBounds_toArray,List.set_cons_zero,List.set_cons_succ]
    rw[←hF.out];exact Lx5x12  W hk hx hb oa ob ap
  clear x1 x9;refine AllReadyH.cons (o:=_) rfl (fun K hK=>?_) ?_
  · go_simp;refine hK.out _ _ (⟨(hb.out.alloc (.cells #[.slice (some ⟨rb,0,none⟩) m m] 27)).c0,(hb.out.alloc (.cells #[.slice (some ⟨rb,0,none⟩) m m] 27)).c1,(hb.out.alloc (.cells #[.slice (some ⟨rb,0,none⟩) m m] 27)).c2⟩) (fun _=>?_);clear hK K
    try simp only[List.setIfInBounds_toArray,List.set_cons_zero,List.set_cons_succ]
    rw[←hF.out];exact Lx7x12 W.heap.size _ (zh ((hk.out.alloc (.cells #[.slice (some ⟨rb,0,none⟩) m m] 27)))) (zh ((hx.out.alloc (.cells #[.slice (some ⟨rb,0,none⟩) m m] 27)))) (zh ((hb.out.alloc (.cells #[.slice (some ⟨rb,0,none⟩) m m] 27)))) (zh ((oa.out.alloc (.cells #[.slice (some ⟨rb,0,none⟩) m m] 27)))) (zh ((ob.out.alloc (.cells #[.slice (some ⟨rb,0,none⟩) m m] 27)))) (zh (ap.out)) (zh (⟨(Bk.new W 27 [.slice (some ⟨rb,0,none⟩) m m]).c0,hk.out.size,by rw[World.size_alloc];exact Nat.lt_succ_self _⟩))
  refine AllReadyH.cons (o:=_) rfl (fun K hK=>?_) ?_
  · go_simp;refine hK.out _ _ (⟨(hb.out.alloc (.cells #[.bool x.1,.string x.2.1,.string x.2.2] 40)).c0,(hb.out.alloc (.cells #[.bool x.1,.string x.2.1,.string x.2.2] 40)).c1,(hb.out.alloc (.cells #[.bool x.1,.string x.2.1,.string x.2.2] 40)).c2⟩) (fun _=>?_);clear hK K
    try simp only[List.setIfInBounds_toArray,List.set_cons_zero,List.set_cons_succ]
    rw[←hF.out];exact Lx12x14 W.heap.size _ (zh ((hk.out.alloc (.cells #[.bool x.1,.string x.2.1,.string x.2.2] 40)))) (zh ((hx.out.alloc (.cells #[.bool x.1,.string x.2.1,.string x.2.2] 40)))) (zh ((hb.out.alloc (.cells #[.bool x.1,.string x.2.1,.string x.2.2] 40)))) (zh ((oa.out.alloc (.cells #[.bool x.1,.string x.2.1,.string x.2.2] 40)))) (zh ((ob.out.alloc (.cells #[.bool x.1,.string x.2.1,.string x.2.2] 40)))) (zh (ap.out)) (zh (⟨⟨(Bk.new W 40 [.bool x.1,.string x.2.1,.string x.2.2]).c0,(Bk.new W 40 [.bool x.1,.string x.2.1,.string x.2.2]).c1,(Bk.new W 40 [.bool x.1,.string x.2.1,.string x.2.2]).c2⟩,hk.out.size,by rw[World.size_alloc];exact Nat.lt_succ_self _⟩))
  exact AllReadyH.nil
 have Lx14:∀(l14:Nat) (W:World),Hid (Kp (xb::((Value.slice Aa i ca).ownBlock.toList++(Value.slice Ab i cb).ownBlock.toList)) w W)→Hid (Bk W xb 75 [uv,.slice Aa i ca,.slice Ab i cb])→Hid (Bk W gb 40 [.bool x.1,.string x.2.1,.string x.2.2])→Hid (W.ownsRow B1 27 1 (Value.slice Aa i ca) i hds)→Hid (W.ownsRow B1 40 3 (Value.slice Ab i cb) i cbs)→Hid (∀b,(Value.slice Aa i ca).ownBlock=some b→(Value.slice Ab i cb).ownBlock≠some b)→Hid ((W.cell? ⟨l14,0,none⟩=some (.bool x.1)∧W.cell? ⟨l14,1,none⟩=some (.string x.2.1)∧W.cell? ⟨l14,2,none⟩=some (.string x.2.2))∧w.heap.size≤l14∧l14<W.heap.size)→F 11 #[true,true,true,true,true,false,true,false,false,true,true,true,false,true,true,false,false,false,false,false,false,false] ⟨#[.pointer (some ⟨xb,0,none⟩),c1,c2,c3,c4,c5,c6,c7,c8,.slice (some ⟨rb,0,none⟩) m m,c10,.pointer (some ⟨gb,0,none⟩),c12,c13,c14,c15,c16,c17,c18,c19,c20,c21,c22,c23,c24,c25,c26,c27,c28,c29,c30,c31,c32,c33,c34,c35,c36,c37,c38,c39,c40,c41,c42,c43,c44,c45,c46,c47,c48,c49,c50,c51,c52,c53,c54,c55,c56,c57,c58,c59,c60,c61,c62,c63,c64,c65,c66,c67,c68,c69,c70,c71,c72,c73,c74,c75,c76,c77,c78,c79,c80,c81,c82,c83,c84,c85,c86,.pointer (some ⟨xb,0,none⟩),.pointer (some ⟨xb,0,none⟩),.pointer (some ⟨xb,0,none⟩),.pointer (some ⟨xb,0,none⟩),.pointer (some ⟨xb,1,none⟩),a92,.slice (some ⟨rb,0,none⟩) m m,a94,a95,.pointer (some ⟨xb,0,none⟩),.pointer (some ⟨xb,0,none⟩),.pointer (some ⟨xb,2,none⟩),a99,.agg #[.bool x.1,.string x.2.1,.string x.2.2],.slice (some ⟨l14,0,none⟩) 1 1,a102,a103,a104,a105,a106,c107],[]⟩ W:=by
  intro l14 W hk hx hb oa ob ap c14;rw[hF.out];refine wpAnyH_ready (rs:=[5,7,12]) (by kernel_rfl) (by simp) ?_;have x1:=hx.out.c1;have x9:=hx.out.lt;refine AllReadyH.cons (o:=_) rfl (fun K hK=>?_) ?_
  · go_simp;clear x1 x9;refine hK.out _ _ (⟨hb.out.c0,hb.out.c1,hb.out.c2⟩) (fun _=>?_);clear hK K
    try simp only[List.setIfInBounds_toArray,List.set_cons_zero,List.set_cons_succ]
    rw[←hF.out];exact Lx5x14 l14 W hk hx hb oa ob ap c14
  clear x1 x9;refine AllReadyH.cons (o:=_) rfl (fun K hK=>?_) ?_
  · go_simp;refine hK.out _ _ (⟨(hb.out.alloc (.cells #[.slice (some ⟨rb,0,none⟩) m m] 27)).c0,(hb.out.alloc (.cells #[.slice (some ⟨rb,0,none⟩) m m] 27)).c1,(hb.out.alloc (.cells #[.slice (some ⟨rb,0,none⟩) m m] 27)).c2⟩) (fun _=>?_);clear hK K
    try simp only[List.setIfInBounds_toArray,List.set_cons_zero,List.set_cons_succ]
    rw[←hF.out];exact Lx7x14 W.heap.size l14 _ (zh ((hk.out.alloc (.cells #[.slice (some ⟨rb,0,none⟩) m m] 27)))) (zh ((hx.out.alloc (.cells #[.slice (some ⟨rb,0,none⟩) m m] 27)))) (zh ((hb.out.alloc (.cells #[.slice (some ⟨rb,0,none⟩) m m] 27)))) (zh ((oa.out.alloc (.cells #[.slice (some ⟨rb,0,none⟩) m m] 27)))) (zh ((ob.out.alloc (.cells #[.slice (some ⟨rb,0,none⟩) m m] 27)))) (zh (ap.out)) (zh (⟨(Bk.new W 27 [.slice (some ⟨rb,0,none⟩) m m]).c0,hk.out.size,by rw[World.size_alloc];exact Nat.lt_succ_self _⟩)) (zh (⟨⟨(World.cell?_alloc_lt _ _ _ c14.out.2.2).trans c14.out.1.1,(World.cell?_alloc_lt _ _ _ c14.out.2.2).trans c14.out.1.2.1,(World.cell?_alloc_lt _ _ _ c14.out.2.2).trans c14.out.1.2.2⟩,c14.out.2.1,by rw[World.size_alloc];exact Nat.lt_succ_of_lt c14.out.2.2⟩))
  have x1:=hx.out.c2;have x9:=hx.out.lt;refine AllReadyH.cons (o:=_) rfl (fun K hK=>?_) ?_
  · go_simp;clear x1 x9;refine hK.out _ _ (⟨hb.out.c0,hb.out.c1,hb.out.c2⟩) (fun _=>?_);clear hK K
    try simp only[List.setIfInBounds_toArray,List.set_cons_zero,List.set_cons_succ]
    rw[←hF.out];exact Lx12x14 l14 W hk hx hb oa ob ap c14
  clear x1 x9;exact AllReadyH.nil
 have L:∀(W:World),Hid (Kp (xb::((Value.slice Aa i ca).ownBlock.toList++(Value.slice Ab i cb).ownBlock.toList)) w W)→Hid (Bk W xb 75 [uv,.slice Aa i ca,.slice Ab i cb])→Hid (Bk W gb 40 [.bool x.1,.string x.2.1,.string x.2.2])→Hid (W.ownsRow B1 27 1 (Value.slice Aa i ca) i hds)→Hid (W.ownsRow B1 40 3 (Value.slice Ab i cb) i cbs)→Hid (∀b,(Value.slice Aa i ca).ownBlock=some b→(Value.slice Ab i cb).ownBlock≠some b)→F 12 #[true,true,true,true,true,false,true,false,false,true,true,true,false,true,false,false,false,false,false,false,false,false] ⟨#[.pointer (some ⟨xb,0,none⟩),c1,c2,c3,c4,c5,c6,c7,c8,.slice (some ⟨rb,0,none⟩) m m,c10,.pointer (some ⟨gb,0,none⟩),c12,c13,c14,c15,c16,c17,c18,c19,c20,c21,c22,c23,c24,c25,c26,c27,c28,c29,c30,c31,c32,c33,c34,c35,c36,c37,c38,c39,c40,c41,c42,c43,c44,c45,c46,c47,c48,c49,c50,c51,c52,c53,c54,c55,c56,c57,c58,c59,c60,c61,c62,c63,c64,c65,c66,c67,c68,c69,c70,c71,c72,c73,c74,c75,c76,c77,c78,c79,c80,c81,c82,c83,c84,c85,c86,.pointer (some ⟨xb,0,none⟩),.pointer (some ⟨xb,0,none⟩),.pointer (some ⟨xb,0,none⟩),.pointer (some ⟨xb,0,none⟩),.pointer (some ⟨xb,1,none⟩),a92,.slice (some ⟨rb,0,none⟩) m m,a94,a95,.pointer (some ⟨xb,0,none⟩),.pointer (some ⟨xb,0,none⟩),.pointer (some ⟨xb,2,none⟩),a99,.agg #[.bool x.1,.string x.2.1,.string x.2.2],a101,a102,a103,a104,a105,a106,c107],[]⟩ W:=by
  intro  W hk hx hb oa ob ap;rw[hF.out];refine wpAnyH_ready (rs:=[5,7,12,14]) (by kernel_rfl) (by simp) ?_;have x1:=hx.out.c1;have x9:=hx.out.lt;refine AllReadyH.cons (o:=_) rfl (fun K hK=>?_) ?_
  · go_simp;clear x1 x9;refine hK.out _ _ (⟨hb.out.c0,hb.out.c1,hb.out.c2⟩) (fun _=>?_);clear hK K
    try simp only[List.setIfInBounds_toArray,List.set_cons_zero,List.set_cons_succ]
    rw[←hF.out];exact Lx5  W hk hx hb oa ob ap
  clear x1 x9;refine AllReadyH.cons (o:=_) rfl (fun K hK=>?_) ?_
  · go_simp;refine hK.out _ _ (⟨(hb.out.alloc (.cells #[.slice (some ⟨rb,0,none⟩) m m] 27)).c0,(hb.out.alloc (.cells #[.slice (some ⟨rb,0,none⟩) m m] 27)).c1,(hb.out.alloc (.cells #[.slice (some ⟨rb,0,none⟩) m m] 27)).c2⟩) (fun _=>?_);clear hK K
    try simp only[List.setIfInBounds_toArray,List.set_cons_zero,List.set_cons_succ]
    rw[←hF.out];exact Lx7 W.heap.size _ (zh ((hk.out.alloc (.cells #[.slice (some ⟨rb,0,none⟩) m m] 27)))) (zh ((hx.out.alloc (.cells #[.slice (some ⟨rb,0,none⟩) m m] 27)))) (zh ((hb.out.alloc (.cells #[.slice (some ⟨rb,0,none⟩) m m] 27)))) (zh ((oa.out.alloc (.cells #[.slice (some ⟨rb,0,none⟩) m m] 27)))) (zh ((ob.out.alloc (.cells #[.slice (some ⟨rb,0,none⟩) m m] 27)))) (zh (ap.out)) (zh (⟨(Bk.new W 27 [.slice (some ⟨rb,0,none⟩) m m]).c0,hk.out.size,by rw[World.size_alloc];exact Nat.lt_succ_self _⟩))
  have x1:=hx.out.c2;have x9:=hx.out.lt;refine AllReadyH.cons (o:=_) rfl (fun K hK=>?_) ?_
  · go_simp;clear x1 x9;refine hK.out _ _ (⟨hb.out.c0,hb.out.c1,hb.out.c2⟩) (fun _=>?_);clear hK K
    try simp only[List.setIfInBounds_toArray,List.set_cons_zero,List.set_cons_succ]
    rw[←hF.out];exact Lx12  W hk hx hb oa ob ap
  clear x1 x9;refine AllReadyH.cons (o:=_) rfl (fun K hK=>?_) ?_
  · go_simp;refine hK.out _ _ (⟨(hb.out.alloc (.cells #[.bool x.1,.string x.2.1,.string x.2.2] 40)).c0,(hb.out.alloc (.cells #[.bool x.1,.string x.2.1,.string x.2.2] 40)).c1,(hb.out.alloc (.cells #[.bool x.1,.string x.2.1,.string x.2.2] 40)).c2⟩) (fun _=>?_);clear hK K
    try simp only[List.setIfInBounds_toArray,List.set_cons_zero,List.set_cons_succ]
    rw[←hF.out];exact Lx14 W.heap.size _ (zh ((hk.out.alloc (.cells #[.bool x.1,.string x.2.1,.string x.2.2] 40)))) (zh ((hx.out.alloc (.cells #[.bool x.1,.string x.2.1,.string x.2.2] 40)))) (zh ((hb.out.alloc (.cells #[.bool x.1,.string x.2.1,.string x.2.2] 40)))) (zh ((oa.out.alloc (.cells #[.bool x.1,.string x.2.1,.string x.2.2] 40)))) (zh ((ob.out.alloc (.cells #[.bool x.1,.string x.2.1,.string x.2.2] 40)))) (zh (ap.out)) (zh (⟨⟨(Bk.new W 40 [.bool x.1,.string x.2.1,.string x.2.2]).c0,(Bk.new W 40 [.bool x.1,.string x.2.1,.string x.2.2]).c1,(Bk.new W 40 [.bool x.1,.string x.2.1,.string x.2.2]).c2⟩,hk.out.size,by rw[World.size_alloc];exact Nat.lt_succ_self _⟩))
  exact AllReadyH.nil
 exact TX (by kernel_rfl) (by kernel_rfl) (by kernel_rfl) (L w.drew hk0 hx0 hb0 oa0 ob0 ap)
end Sh
end
section
namespace Sh
open Nt Ci
theorem GD (p:Nat) (f:Nat→Rat) (l m:List Lp):Aj p f (l++m)=Aj p f l+Aj p f m:=by
 induction l with
 | nil=>show Aj p f m=0+Aj p f m;grind
 | cons x l ih =>
   rw[List.cons_append]
   show (if x.1=p then x.2.2*f x.2.1 else 0)+Aj p f (l++m)=(if x.1=p then x.2.2*f x.2.1 else 0)+Aj p f l+Aj p f m
   rw[ih,Rat.add_assoc]
theorem Cy {p:Nat} {f:Nat→Rat} {l:List Lp} {k:Nat} (h:k<l.length):Aj p f (l.take (k+1))=Aj p f (l.take k)+if l[k].1=p then l[k].2.2*f l[k].2.1 else 0:=by
 rw[List.take_succ_eq_append_getElem h,GD]
 congr 1
 show (if l[k].1=p then l[k].2.2*f l[k].2.1 else 0)+0=_
 exact Rat.add_zero _
theorem J8 {p:Nat} {f:Nat→Rat} {l:List Lp} (hp:∀x,x∈l→0<x.2.2) (hf:∀x,x∈l→0≤f x.2.1) (k:Nat):Aj p f (l.take k)≤Aj p f l:=by
 have h:=GD p f (l.take k) (l.drop k);rw[List.take_append_drop]at h;have h2:=BI (p:=p) (f:=f) (L:=l.drop k) (fun x hx=>hp x (List.mem_of_mem_drop hx)) fun x hx _=>hf x (List.mem_of_mem_drop hx);grind
theorem Caps.take {n:Nat} {L:List Lp} (h:Caps n L) (k:Nat):Caps n (L.take k):=by
 refine⟨fun x hx=>h.lt x (List.mem_of_mem_take hx),fun x hx=>h.whole x (List.mem_of_mem_take hx),fun x hx=>h.pos x (List.mem_of_mem_take hx),fun p=>?_⟩;have h1:=J8 (p:=p) (f:=fun _=>1) h.pos (fun _ _=>by decide) k;have h2:=h.le1 p;grind
theorem SO {n:Nat} {L:List Lp} (h:Caps n L) (p q:Nat) (b:Bool):Fit 6000 ((if b=true then 1 else 0)-Aj p (fun h=>if h=q then 1 else 0) L):=by
 have h0:=BI (p:=p) (f:=fun h=>if h=q then 1 else 0) h.pos fun x _ _=>by split<;>decide
 have h1:Aj p (fun h=>if h=q then 1 else 0) L≤1:=h.le_of (by decide) fun x _ _=>by split<;>decide
 have h2:=h.int_sum (p:=p) (f:=fun h=>if h=q then 1 else 0) (D:=1) fun x _ _=>by
  split
  · exact IsI.one.mul IsI.one
  · exact IsI.one.mul IsI.zero
 refine⟨?_,?_,6000,by omega,Nat.le_refl _,?_⟩
 · split<;>grind
 · split<;>grind
 · have e:((6000:Nat):Rat)*((if b=true then 1 else 0)-Aj p (fun h=>if h=q then 1 else 0) L)=(if b=true then 1 else 0)*6000+-(6000*1*Aj p (fun h=>if h=q then 1 else 0) L):=by
    rw[show ((6000:Nat):Rat)=6000 from rfl];grind
   rw[e];refine IsI.add ?_ h2.neg
   split
   · exact IsI.one.mul (IsI.nat 6000)
   · exact IsI.zero.mul (IsI.nat 6000)
theorem O9 {n D:Nat} {L:List Lp} (h:Caps n L) (p:Nat) {f:Nat→Rat} (hD:0<D) (hf:∀q,0≤f q∧f q≤1) (hi:∀q,IsI ((D:Rat)*f q)):Fit (6000*D) (Aj p f L):=by
 have h0:=BI (p:=p) (f:=f) h.pos fun x _ _=>(hf x.2.1).1;have h1:Aj p f L≤1:=h.le_of (by decide) fun x _ _=>(hf x.2.1).2;have h2:=h.int_sum (p:=p) (f:=f) (D:=(D:Rat)) fun x _ _=>hi x.2.1;refine⟨by grind,h1,6000*D,Nat.mul_pos (by omega) hD,Nat.le_refl _,?_⟩;rw[Rat.natCast_mul];exact h2
end Sh
end
section
namespace Sh
open Nt Ci
theorem Sys.congr {n c D:Nat} {A B:Mx} {v:Nat→Rat} (h:Sys n c D A v) (e:∀i j,i<n→j≤n→B i j=A i j):Sys n c D B v:=by
 obtain⟨⟨a1,a2,a3,a4,a5,a6⟩,h2,h3,h4,h5⟩:=h;refine⟨⟨fun i hi=>?_,fun i j hi hj hn=>?_,fun i hi=>?_,fun i hi=>?_,fun i hi=>?_,a6⟩,h2,h3,fun i j hi hj=>?_,fun i hi=>?_⟩
 · rw[e i i hi (by omega)];exact a1 i hi
 · rw[e i j hi (by omega)];exact a2 i j hi hj hn
 · rw[e i n hi (Nat.le_refl _)];exact a3 i hi
 · rw[e i n hi (Nat.le_refl _),Ao (f:=B i) (g:=A i) fun j hj=>e i j hi (by omega)];exact a4 i hi
 · rw[Ao (g:=fun j=>A i j*v j) fun j hj=>by rw[e i j hi (by omega)]];exact a5 i hi
 · rw[e i j hi (by omega)];exact h4 i j hi hj
 · rw[e i n hi (Nat.le_refl _)];exact h5 i hi
def CL (L:List Lp) (u:List Nat) (val:Nat→Rat):List (List Raw):=(List.range u.length).map fun i=>AG u.length (AV L u val i)
def EW (L:List Lp) (u:List Nat) (val:Nat→Rat):List Raw:=AG u.length fun i=>AV L u val i u.length
theorem IP {n:Nat} {f:Nat→Rat} {i:Nat} (h:i<n) (d:Raw):(AG n f).getD i d=rq (f i):=by
 rw[Ej (by rw[Ah];exact h),B7]
theorem Mn {L:List Lp} {u:List Nat} {val:Nat→Rat} {i:Nat} (h:i<u.length):(CL L u val).getD i []=AG u.length (AV L u val i):=by
 unfold CL;rw[Ej (by simpa using h)];simp
theorem TY {x:Rat} {B:Nat} (h:Fit B x) (hB:B<L1):OkQ x:=(Cb h hB).ok
theorem T4:6000^17<L1:=Nat.lt_of_le_of_lt (Nat.pow_le_pow_right (by omega) (by omega)) KD
theorem KI {n D:Nat} {L:List Lp} {F done u:List Nat} {val:Nat→Rat} (hL:Caps n L) (hi:Inv L F done val D) (hx:Nxt L F done u) (hlen:done.length+u.length≤16) (h8:u.length≤8) :
 DF (CL L u val) (EW L u val)=.ok (AG u.length fun i=>Ck SQ L u val (u.getD i 0)):=by
 have hs:=hx.sys hL hi
 have hfit:∀i j,i<u.length→j≤u.length→OkQ (AV L u val i j):=fun i j h1 h2=>by
  have:=hs.fit (Mad.start u.length _) hs.shs (Nat.zero_le _) h1 h2;refine TY (this.mono ?_) T4
  calc 6000^(u.length+1)*D≤6000^(u.length+1)*6000^done.length:=Nat.mul_le_mul_left _ hi.dle
   _=6000^(u.length+1+done.length):=(Nat.pow_add _ _ _).symm
   _≤6000^17:=Nat.pow_le_pow_right (by omega) (by omega)
 have hbl:(EW L u val).length=u.length:=Ah _ _;have hal:(CL L u val).length=u.length:=by unfold CL;simp
 have hb:allV (EW L u val)=true:=E8.2 fun i h=>by
  have e:(EW L u val)[i]=rq (AV L u val i u.length):=B7 u.length (fun i=>AV L u val i u.length) i h;rw[e];exact Jy (hfit i _ (by rwa [hbl]at h) (Nat.le_refl _))
 have ha:Ov (EW L u val).length (CL L u val)=true:=Kx.2 fun i h=>by
  rw[hal]at h;have e:(CL L u val)[i]'(by rw[hal];exact h)=AG u.length (AV L u val i):=by unfold CL;simp
  rw[e,hbl];refine⟨Ah _ _,E8.2 fun j hj=>?_⟩;rw[B7];rw[Ah]at hj;exact Jy (hfit i j h (Nat.le_of_lt hj))
 have hM:∀i j,i<u.length→j≤u.length→GJ (CL L u val) (EW L u val) i j=AV L u val i j:=fun i j h1 h2=>by
  unfold GJ;rw[hbl]
  by_cases e:j=u.length
  · rw[if_pos e,e];unfold EW;rw[IP h1,G2]
  · rw[if_neg e,Mn h1,IP (by omega),G2]
 have hS:∀x,Fit ((6000^(u.length+1)*D)*(6000^(u.length+1)*D)) x→SQ x=true:=fun x h=>J6 x (h.mono (IK hi.dle hlen));obtain⟨M,m1,m2,_⟩:=(hs.congr hM).result (S:=SQ) hS;obtain⟨N,n1,n2,_⟩:=hs.result (S:=SQ) hS;have hv:Ck SQ L u val=fun p=>if p∈u then N (u.idxOf p) u.length else val p:=by unfold Ck;rw[n1]
 have hMN:∀i,i<u.length→M i u.length=N i u.length:=by
  have h1:Sol u.length (GJ (CL L u val) (EW L u val)) (fun i=>N i u.length) (fun i=>GJ (CL L u val) (EW L u val) i u.length):=fun i hi2=>by
   have h2:(Am u.length fun j=>AV L u val i j*N j u.length)=AV L u val i u.length:=(n2 (fun i=>N i u.length)).2 (fun _ _=>rfl) i hi2
   show (Am u.length fun j=>GJ (CL L u val) (EW L u val) i j*N j u.length)=GJ (CL L u val) (EW L u val) i u.length
   rw[hM i _ hi2 (Nat.le_refl _),←h2];exact Ao fun j hj=>by rw[hM i j hi2 (Nat.le_of_lt hj)]
  exact fun i hi2=>((m2 _).1 h1 i hi2).symm
 unfold DF;rw[if_pos ⟨hal.trans hbl.symm,hb,ha⟩,if_pos (by rw[hbl];exact h8),hbl,m1]
 show Except.ok (AG u.length fun i=>M i u.length)=_
 congr 1
 apply LY;intro i hi2;rw[hMN i hi2,hv];dsimp only;rw[if_pos (EB hi2),FG hx.nodup hi2]
theorem Ready.nodup {L:List Lp} {F:List Nat}:∀{us:List (List Nat)} {done:List Nat},Ready L F done us→done.Nodup→(done++us.flatten).Nodup:=by
 intro us
 induction us with
 | nil=>intro done _ h;simpa using h
 | cons u us ih =>
   intro done h hd;rw[List.flatten_cons,←List.append_assoc];refine ih h.2 (List.nodup_append.2 ⟨hd,h.1.nodup,fun a ha b hb e=>?_⟩);subst e;exact h.1.new a hb ha
theorem Ready.lt {n:Nat} {F:List Nat} {E:List (Nat×Nat)}:∀p,p∈(BJ n E F).flatten→p<n:=by
 intro p hp;obtain⟨u,hu,hp⟩:=List.mem_flatten.1 hp;unfold BJ at hu;obtain⟨c,hc,rfl⟩:=List.mem_map.1 hu;have h1:=(Em.1 hp).1;unfold An at hc;obtain⟨q,_,rfl⟩:=List.mem_map.1 hc;exact(C6.1 h1).1
theorem H8 {n:Nat} {L:List Lp} {F:List Nat} (hL:Caps n L):(BJ n (Ae L) F).flatten.length≤n:=by
 have h:=(Gj (F:=F) hL.inN).nodup List.nodup_nil;rw[List.nil_append]at h;exact CR n _ h Ready.lt
noncomputable def tooMany (n:Nat) (E:List (Nat×Nat)) (F:List Nat):Bool:=(BJ n E F).any (fun u=>decide (8<u.length))||decide (16<(BJ n E F).flatten.length)
theorem QP {n:Nat} {L:List Lp} {F:List Nat} (hL:Caps n L) (hn:n≤8):tooMany n (Ae L) F=false:=by
 have h:=H8 (F:=F) hL;unfold tooMany;rw[Bool.or_eq_false_iff,List.any_eq_false];refine⟨fun u hu=>?_,decide_eq_false (by omega)⟩;have:u.length≤(BJ n (Ae L) F).flatten.length:=(List.sublist_flatten_of_mem hu).length_le;simp only[decide_eq_true_eq];omega
theorem H9 {n:Nat} {E:List (Nat×Nat)} {F:List Nat} (h:tooMany n E F=false):(∀u,u∈BJ n E F→u.length≤8)∧(BJ n E F).flatten.length≤16:=by
 unfold tooMany at h;rw[Bool.or_eq_false_iff,List.any_eq_false]at h;refine⟨fun u hu=>?_,by have:=of_decide_eq_false h.2;omega⟩;have:=h.1 u hu;simp only[decide_eq_true_eq]at this;omega
end Sh
end
section
namespace Sh
open Nt Ci
section
variable {n:Nat} {L:List Lp} {u:List Nat} {val:Nat→Rat} {i k j:Nat}
def BS (L:List Lp) (u:List Nat) (i k j:Nat):Rat:=(if i=j then 1 else 0)-Aj (u.getD i 0) (fun h=>if h=u.getD j 0 then 1 else 0) (L.take k)
def By (L:List Lp) (u:List Nat) (val:Nat→Rat) (i k:Nat):Rat:=Aj (u.getD i 0) (fun h=>if h∈u then 0 else val h) (L.take k)
theorem OA:BS L u i 0 j=if i=j then 1 else 0:=by
 unfold BS
 show _-(0:Rat)=_
 grind
theorem OB:By L u val i 0=0:=rfl
theorem KJ (hj:j<u.length):BS L u i L.length j=AV L u val i j:=by
 unfold BS AV;dsimp only;rw[List.take_length];have e:¬j=u.length:=by omega
 rw[if_neg e]
theorem KK:By L u val i L.length=AV L u val i u.length:=by
 unfold By AV;dsimp only;rw[List.take_length,if_pos rfl]
theorem QQ (hk:k<L.length) (h:L[k].1≠u.getD i 0):(∀j,BS L u i (k+1) j=BS L u i k j)∧By L u val i (k+1)=By L u val i k:=by
 refine⟨fun j=>?_,?_⟩
 · unfold BS;rw[Cy hk,if_neg h,Rat.add_zero]
 · unfold By;rw[Cy hk,if_neg h,Rat.add_zero]
theorem TZ (hu:u.Nodup) (hk:k<L.length) (h:L[k].1=u.getD i 0) {c:Nat} (hc:c<u.length) (hh:L[k].2.1=u.getD c 0) :
 (∀j,j<u.length→BS L u i (k+1) j=if j=c then BS L u i k c+-1*L[k].2.2 else BS L u i k j)∧By L u val i (k+1)=By L u val i k:=by
 refine⟨fun j hj=>?_,?_⟩
 · unfold BS;rw[Cy hk,if_pos h,hh]
   by_cases e:j=c
   · subst e;have e1:(if u.getD j 0=u.getD j 0 then (1:Rat) else 0)=1:=if_pos rfl;rw[e1,if_pos (rfl:j=j)];grind
   · have e1:(if u.getD c 0=u.getD j 0 then (1:Rat) else 0)=0:=if_neg fun e2=>by
      have:=FG hu hj;rw[←e2,FG hu hc]at this;exact e this.symm
     rw[e1,if_neg e];grind
 · unfold By;rw[Cy hk,if_pos h,if_pos (by rw[hh];exact EB hc)];grind
theorem GU (hk:k<L.length) (h:L[k].1=u.getD i 0) (hh:L[k].2.1∉u) :
 (∀j,j<u.length→BS L u i (k+1) j=BS L u i k j)∧By L u val i (k+1)=By L u val i k+L[k].2.2*val L[k].2.1:=by
 refine⟨fun j hj=>?_,?_⟩
 · unfold BS;have e1:(if L[k].2.1=u.getD j 0 then (1:Rat) else 0)=0:=if_neg fun e=>hh (by rw[e];exact EB hj);rw[Cy hk,if_pos h,e1];grind
 · unfold By;rw[Cy hk,if_pos h,if_neg hh]
theorem HH (hL:Caps n L):ShortQ (BS L u i k j):=by
 have:=SO (hL.take k) (u.getD i 0) (u.getD j 0) (decide (i=j));unfold BS;simp only[decide_eq_true_eq]at this;exact Cb this (Nat.lt_of_le_of_lt (by have:6000^1≤6000^34:=Nat.pow_le_pow_right (by omega) (by omega);omega) KD)
theorem QR {D:Nat} (h:D≤6000^16):6000*D<L1:=by
 refine Nat.lt_of_le_of_lt ?_ T4
 calc 6000*D≤6000*6000^16:=Nat.mul_le_mul_left _ h
  _=6000^17:=by rw[Nat.pow_succ 6000 16,Nat.mul_comm]
structure Vals (val:Nat→Rat) (D:Nat):Prop where
 rng:∀p,0≤val p∧val p≤1
 dp:0<D
 dle:D≤6000^16
 whole:∀p,IsI ((D:Rat)*val p)
theorem Vals.fit {D:Nat} (h:Vals val D) (p:Nat):Fit D (val p):=⟨by have:=(h.rng p).1;grind,(h.rng p).2,D,h.dp,Nat.le_refl _,h.whole p⟩
theorem Vals.short {D:Nat} (h:Vals val D) (p:Nat):ShortQ (val p):=Cb (h.fit p) (Nat.lt_of_le_of_lt h.dle (Nat.lt_of_le_of_lt (Nat.pow_le_pow_right (by omega) (by omega)) KD))
theorem HI {D:Nat} (hL:Caps n L) (h:Vals val D):ShortQ (By L u val i k):=by
 have:=O9 (hL.take k) (u.getD i 0) (f:=fun q=>if q∈u then 0 else val q) h.dp (fun q=>by
  split
  · constructor<;>decide
  · exact h.rng q) fun q=>by
  split
  · rw[Rat.mul_zero];exact IsI.zero
  · exact h.whole q
 exact Cb this (QR h.dle)
theorem FK (hL:Caps n L) (hk:k<L.length):Fit 6000 L[k].2.2:=by
 have h1:=hL.pos _ (List.getElem_mem hk);have h2:=hL.whole _ (List.getElem_mem hk);have h3:=hL.le1 L[k].1;have h4:=FF (p:=L[k].1) (f:=fun _=>0) (g:=fun _=>1) hL.pos (fun _ _ _=>by decide) (List.getElem_mem hk) rfl;rw[DT fun _ _ _=>rfl]at h4;exact⟨by grind,by grind,6000,by omega,Nat.le_refl _,h2⟩
theorem OC:6000<L1:=Nat.lt_of_le_of_lt (by have:6000^1≤6000^34:=Nat.pow_le_pow_right (by omega) (by omega);omega) KD
theorem HJ (hL:Caps n L) (hk:k<L.length):ShortQ L[k].2.2:=Cb (FK hL hk) OC
theorem QS (hL:Caps n L) (hk:k<L.length):ShortQ (-1*L[k].2.2):=by
 obtain⟨a,b,d,d1,d2,d3⟩:=FK hL hk
 have:Fit 6000 (-1*L[k].2.2):=⟨by grind,by grind,d,d1,d2,by
  have e:(d:Rat)*(-1*L[k].2.2)=-((d:Rat)*L[k].2.2):=by grind
  rw[e];exact d3.neg⟩
 exact Cb this OC
theorem QT {D:Nat} (hL:Caps n L) (h:Vals val D) (hk:k<L.length) (q:Nat):ShortQ (L[k].2.2*val q):=by
 have h1:=FK hL hk;have h0:=hL.pos _ (List.getElem_mem hk);have h2:=h.rng q;have h3:=(hL.whole _ (List.getElem_mem hk)).mul (h.whole q)
 have e:6000*L[k].2.2*((D:Rat)*val q)=((6000*D:Nat):Rat)*(L[k].2.2*val q):=by
  rw[Rat.natCast_mul,show ((6000:Nat):Rat)=6000 from rfl];grind
 rw[e]at h3;have h4:=Rat.mul_nonneg (Rat.le_of_lt h0) h2.1;have h5:=Rat.mul_le_mul_of_nonneg_left h2.2 (Rat.le_of_lt h0);have h6:=h1.2.1;have:Fit (6000*D) (L[k].2.2*val q):=⟨by grind,by grind,6000*D,Nat.mul_pos (by omega) h.dp,Nat.le_refl _,h3⟩;exact Cb this (QR h.dle)
theorem UJ (hu:u.Nodup) {h c:Nat} (hc:c<u.length) (e:h=u.getD c 0):FJ (u.map fun(q:Nat)=>(q:Int)) (h:Int)=(c:Int):=by
 have hc2:c<(u.map fun(q:Nat)=>(q:Int)).length:=by simpa using hc
 refine T0 hc2 (fun j hj hjc=>?_) ?_
 · rw[List.getElem_map];intro e2;have e3:u[j]'(by simpa using hj)=h:=by omega
   rw[e,Dl hc]at e3;have hp:=List.pairwise_iff_getElem.1 hu j c (by simpa using hj) hc hjc;exact hp e3
 · rw[List.getElem_map,e,Dl hc]
theorem Ua {h:Nat} (e:h∉u):FJ (u.map fun(q:Nat)=>(q:Int)) (h:Int)=-1:=by
 refine T1 fun j hj=>?_;rw[List.getElem_map];intro e2
 exact e (by have e3:u[j]'(by simpa using hj)=h:=by omega
             rw[←e3];exact List.getElem_mem _)
end
theorem kp_trans {xs ys:List Nat} {w w' w'':World} (h:Kp xs w w') (h2:Kp ys w' w'') (hy:∀y,y∈ys→y∈xs∨w.heap.size≤y):Kp xs w w'' :=
 ⟨h2.os.trans h.os,h2.tape.trans h.tape,h2.output.trans h.output,Nat.le_trans h.size h2.size,fun k hk hx=>(h2.block k (Nat.lt_of_lt_of_le hk h.size) (fun hm=>(hy k hm).elim hx (fun c=>by omega))).trans (h.block k hk hx)⟩
theorem Ni {xs:List Nat} {base size m:Nat} {e:TypeId} {u:Value} {l:List Value} {w w':World} (h:w.ownsRow base e size u m l) (hk:Kp xs w w') (hb:∀b,u.ownBlock=some b→b∉xs):w'.ownsRow base e size u m l:=by
 obtain⟨h1,h2⟩:=h;refine⟨h1,?_⟩
 rcases h2 with h2 | ⟨g,cap,cur,hv,hg,hh,rest⟩
 · exact .inl h2
 · exact .inr ⟨g,cap,cur,hv,hg,(hk.block g (Array.getElem?_eq_some_iff.1 hh).1 (hb g (by rw[hv];rfl))).trans hh,rest⟩
theorem J9 {xs:List Nat} {w w':World} {b m:Nat} {r:Nat→Raw} (h:RowB w b m r) (hk:Kp xs w w') (hb:b∉xs):RowB w' b m r:=(hk.block b h.lt hb).trans h
end Sh
end
section
open Go.RowKit Go.Shelf
namespace Sh
open Nt Ci
def BdI (w W:World) (xb m i:Nat) (uv:Value) (M:Mx):Prop :=
 ∃ (Aa Ab:Option Addr) (ca cb:Nat) (bl:Nat→Nat),Kp [xb] w W∧Bk W xb 75 [uv,.slice Aa i ca,.slice Ab i cb] ∧
  W.ownsRow w.heap.size 27 1 (.slice Aa i ca) i ((List.range i).map fun k=>.slice (some ⟨bl k,0,none⟩) m m) ∧
  W.ownsRow w.heap.size 40 3 (.slice Ab i cb) i (AF i fun k=>rq (M k m)) ∧
  (∀b,(Value.slice Aa i ca).ownBlock=some b→(Value.slice Ab i cb).ownBlock≠some b) ∧
  ∀k,k<i→RowB W (bl k) m (fun j=>rq (M k j))∧(Value.slice Aa i ca).ownBlock≠some (bl k)∧(Value.slice Ab i cb).ownBlock≠some (bl k)∧bl k≠xb
theorem BdI.start {w:World} {xb m:Nat} {uv:Value} {M:Mx} (h:Bk w xb 75 [uv,.slice none 0 0,.slice none 0 0]):BdI w w xb m 0 uv M :=
 ⟨none,none,0,0,fun _=>0,Kp.refl _ _,h,World.ownsRow_nil _ _ _ _,World.ownsRow_nil _ _ _ _,(fun b e=>by cases e),fun k h=>absurd h (Nat.not_lt_zero _)⟩
theorem BdI.step {w wy wz W:World} {xb m i rb:Nat} {uv:Value} {M:Mx} {Aa Ab Aa2 Ab2:Option Addr} {ca cb ca2 cb2:Nat} {bl:Nat→Nat}
 (hK:Kp [xb] w wy) (hoa:wy.ownsRow w.heap.size 27 1 (.slice Aa i ca) i ((List.range i).map fun k=>.slice (some ⟨bl k,0,none⟩) m m))
 (hob:wy.ownsRow w.heap.size 40 3 (.slice Ab i cb) i (AF i fun k=>rq (M k m)))
 (hrows:∀k,k<i→RowB wy (bl k) m (fun j=>rq (M k j))∧(Value.slice Aa i ca).ownBlock≠some (bl k)∧(Value.slice Ab i cb).ownBlock≠some (bl k)∧bl k≠xb)
 (hB:Below wy.heap.size wy wz) (hrb:rb=wy.heap.size) (hxl:xb<wy.heap.size) (hrow:RowB wz rb m fun j=>rq (M i j))
 (k1:Kp (xb::((Value.slice Aa i ca).ownBlock.toList++(Value.slice Ab i cb).ownBlock.toList)) wz W)
 (k2:Bk W xb 75 [uv,.slice Aa2 (i+1) ca2,.slice Ab2 (i+1) cb2])
 (k3:W.ownsRow w.heap.size 27 1 (.slice Aa2 (i+1) ca2) (i+1) (((List.range i).map fun k=>.slice (some ⟨bl k,0,none⟩) m m)++[.slice (some ⟨rb,0,none⟩) m m]))
 (k4:W.ownsRow w.heap.size 40 3 (.slice Ab2 (i+1) cb2) (i+1) ((AF i fun k=>rq (M k m))++[.bool (rq (M i m)).1,.string (rq (M i m)).2.1,.string (rq (M i m)).2.2]))
 (k5:∀b,(Value.slice Aa2 (i+1) ca2).ownBlock=some b→(Value.slice Ab2 (i+1) cb2).ownBlock≠some b)
 (k6:(Value.slice Aa2 (i+1) ca2).ownBlock=(Value.slice Aa i ca).ownBlock∨∃b,(Value.slice Aa2 (i+1) ca2).ownBlock=some b∧wz.heap.size≤b)
 (k7:(Value.slice Ab2 (i+1) cb2).ownBlock=(Value.slice Ab i cb).ownBlock∨∃b,(Value.slice Ab2 (i+1) cb2).ownBlock=some b∧wz.heap.size≤b):BdI w W xb m (i+1) uv M:=by
 have hzs:=hB.size;have hrl:=hrow.lt;have la:∀b,(Value.slice Aa i ca).ownBlock=some b→w.heap.size≤b∧b<wy.heap.size:=fun b e=>hoa.lt b e;have lb:∀b,(Value.slice Ab i cb).ownBlock=some b→w.heap.size≤b∧b<wy.heap.size:=fun b e=>hob.lt b e
 have hin:∀{b:Nat},b≠xb→(Value.slice Aa i ca).ownBlock≠some b→(Value.slice Ab i cb).ownBlock≠some b→b∉(xb::((Value.slice Aa i ca).ownBlock.toList++(Value.slice Ab i cb).ownBlock.toList)):=fun {b} h1 h2 h3 hm=>by
  rcases List.mem_cons.1 hm with c | c
  · exact h1 c
  · rcases List.mem_append.1 c with c | c
    · exact h2 (by simpa using c)
    · exact h3 (by simpa using c)
 refine⟨Aa2,Ab2,ca2,cb2,fun k=>if k=i then rb else bl k,?_,k2,?_,?_,k5,?_⟩
 · refine kp_trans (hK.below hB) k1 fun y hy=>?_
   rcases List.mem_cons.1 hy with c | c
   · exact .inl (by simp[c])
   · rcases List.mem_append.1 c with c | c
     · exact .inr (la y (by simpa using c)).1
     · exact .inr (lb y (by simpa using c)).1
 · have e:(List.range (i+1)).map (fun k=>Value.slice (some ⟨if k=i then rb else bl k,0,none⟩) m m)=((List.range i).map fun k=>.slice (some ⟨bl k,0,none⟩) m m)++[.slice (some ⟨rb,0,none⟩) m m]:=by
    rw[List.range_succ,List.map_append,List.map_singleton,if_pos rfl]
    congr 1
    refine List.map_congr_left fun k hk=>?_;rw[if_neg (by have:=List.mem_range.1 hk;omega)]
   rw[e];exact k3
 · rw[BR];exact k4
 · intro k hk;dsimp only
   by_cases e:k=i
   · subst e;rw[if_pos rfl];have n1:(Value.slice Aa k ca).ownBlock≠some rb:=fun e=>by have:=(la _ e).2;omega
     have n2:(Value.slice Ab k cb).ownBlock≠some rb:=fun e=>by have:=(lb _ e).2;omega
     refine⟨J9 hrow k1 (hin (by omega) n1 n2),fun e=>?_,fun e=>?_,by omega⟩
     · rcases k6 with c | ⟨b,c,d⟩
       · exact n1 (c▸e)
       · rw[c]at e;cases e;omega
     · rcases k7 with c | ⟨b,c,d⟩
       · exact n2 (c▸e)
       · rw[c]at e;cases e;omega
   · rw [if_neg e];obtain⟨r1,r2,r3,r4⟩:=hrows k (by omega);have hbl:=r1.lt;refine⟨J9 (r1.below hB hbl) k1 (hin r4 r2 r3),fun e=>?_,fun e=>?_,r4⟩
     · rcases k6 with c | ⟨b,c,d⟩
       · exact r2 (c▸e)
       · rw[c]at e;cases e;omega
     · rcases k7 with c | ⟨b,c,d⟩
       · exact r3 (c▸e)
       · rw[c]at e;cases e;omega
theorem IQ {s:SR} (h:soundB s=true):s.ps.length≤60:=by
 unfold soundB at h;simp only[Bool.and_eq_true,decide_eq_true_eq]at h;exact h.2.1
theorem FL (k:Int) (q:Rat) (hq:(k:Rat)=q) (hk:-10≤k∧k≤10) (w:World) (hE:Env w) :
 Calls Tryz.prog 53 #[.int .i64 k] w fun e w'=>e=.returned (.agg #[.bool (rq (q)).1,.string (rq (q)).2.1,.string (rq (q)).2.2])∧Below w.heap.size w w':=by
 rw[←hq];exact II k hk w hE
theorem CX {s:SR} (hsd:soundB s=true) {k:Nat} (hk:k<s.cap.length):∃(co ho:Nat) (Ag:Rat),s.cap[k]=((co:Int),(ho:Int),rq Ag)∧(Ad s.cap)[k]'(by unfold Ad;simpa using hk)=(co,ho,Ag)∧co<s.ps.length∧ho<s.ps.length:=by
 obtain⟨⟨h1,h2⟩,⟨h3,h4⟩,h5⟩:=EP hsd (List.getElem_mem hk);have hv:=(GB h5).1;have hr:=(Fu (x:=lkP s.cap[k]) hv).1;refine⟨s.cap[k].1.toNat,s.cap[k].2.1.toNat,vq (lkP s.cap[k]),?_,by unfold Ad;rw[List.getElem_map],by omega,by omega⟩;rw[hr];have e1:((s.cap[k].1.toNat:Nat):Int)=s.cap[k].1:=by omega
 have e2:((s.cap[k].2.1.toNat:Nat):Int)=s.cap[k].2.1:=by omega
 rw[e1,e2];rfl
theorem OD {D:Nat} (s:SR) (Ap Ac Av U:Option Addr) (cp cc cv cu:Nat) (u:List Nat) (val:Nat→Rat) (xb vb mb:Nat) (w:World)
 (hsd:soundB s=true) (hc3:s.cap.length≤300) (hm:u.length≤8) (hu:u.Nodup) (hun:∀p,p∈u→p<s.ps.length) (hv:Vals val D)
 (hx:Bk w xb 75 [.slice U u.length cu,.slice none 0 0,.slice none 0 0])
 (hEW:∀W,Kp [xb] w W→Env W) (hsW:∀W,Kp [xb] w W→InLk W Ac s.cap) (hUW:∀W,Kp [xb] w W→InInt W U (u.map fun(q:Nat)=>(q:Int))) (hVW:∀W,Kp [xb] w W→VM W vb mb s.ps.length val) :
 Calls Tryz.prog 55 #[.pointer (some ⟨xb,0,none⟩),.agg #[.slice Ap s.ps.length cp,.slice Ac s.cap.length cc,.slice Av s.vot.length cv],.func (.func 54) #[] #[.pointer (some ⟨vb,0,none⟩)]] w fun e w'=>e=.returned (.tuple #[])∧∃w3,Kp [xb] w w3∧BdI w3 w' xb u.length u.length (.slice U u.length cu) (AV (Ad s.cap) u val):=by
 have hn60:=IQ hsd;have hL:=AQ hsd;have hxl:=hx.lt;have hK0:Hid (Kp [xb] w (w.alloc (.cells #[.slice Ap s.ps.length cp,.slice Ac s.cap.length cc,.slice Av s.vot.length cv] 25))):=(Kp.refl [xb] w).alloc _;have hs0:Hid (Bk (w.alloc (.cells #[.slice Ap s.ps.length cp,.slice Ac s.cap.length cc,.slice Av s.vot.length cv] 25)) w.heap.size 25 (SC s Ap Ac Av cp cc cv)):=Bk.new w _ _;have hx0:Hid (Bk (w.alloc (.cells #[.slice Ap s.ps.length cp,.slice Ac s.cap.length cc,.slice Av s.vot.length cv] 25)) xb 75 [.slice U u.length cu,.slice none 0 0,.slice none 0 0]):=hx.alloc _;have kn1:=zh (fun W hW=>FL (-1) (-1) (by decide +kernel) (by omega) W hW);have kn0:=zh (fun W hW=>FL 0 0 (by decide +kernel) (by omega) W hW);have kn2:=zh (fun W hW=>FL 1 1 (by decide +kernel) (by omega) W hW);have kix:Hid (∀W x,Kp [xb] w W→Calls Tryz.prog 89 #[.slice U u.length cu,.int .i64 x] W fun e w'=>e=.returned (.int .i64 (FJ (u.map fun(q:Nat)=>(q:Int)) x))∧w'=W):=fun W x h=>by have:=IN U cu _ x W (hUW W h) (by rw[List.length_map];omega);rwa [List.length_map]at this
 have kva:Hid (∀W (p:Nat),p<s.ps.length→Kp [xb] w W→Calls Tryz.prog 54 #[.int .i64 (p:Int),.pointer (some ⟨vb,0,none⟩)] W fun e w'=>e=.returned (.agg #[.bool (rq (val p)).1,.string (rq (val p)).2.1,.string (rq (val p)).2.2])∧Below W.heap.size W w'):=fun W p hp h=>IM s.ps.length val vb mb p hp (by omega) W (hEW W h) (hVW W h);have hlk:=zh (fun k h=>CX hsd (k:=k) h);have hcl:(Ad s.cap).length=s.cap.length:=by unfold Ad;rw[List.length_map]
 have hug:Hid (∀i (h:i<u.length),u[i]<s.ps.length∧u.getD i 0=u[i]):=fun i h=>⟨hun _ (List.getElem_mem h),Dl h⟩;have hul:(u.map fun(q:Nat)=>(q:Int)).length=u.length:=List.length_map ..;replace hEW:=zh hEW;replace hsW:=zh hsW;replace hUW:=zh hUW;replace hVW:=zh hVW;replace hL:=zh hL;replace hv:=zh hv;replace hu:=zh hu;replace hsd:=zh hsd;replace hx:=zh hx;replace hcl:=zh hcl;replace hul:=zh hul;clear hun;obtain⟨m,hme⟩:∃m,m=u.length:=⟨_,rfl⟩;have k1:=zh (kn1.out (w.alloc (.cells #[.slice Ap s.ps.length cp,.slice Ac s.cap.length cc,.slice Av s.vot.length cv] 25)) (hEW.out _ hK0.out));rw[←hme]at hx hx0 hm kix ⊢;replace hme:=zh hme;have x0:=hx0.out.c0;have x9:=hx0.out.lt;go_enter Tryz.func55,Tryz.ntmps55
 go_wp2_with fail
 refine k1.out.mono ?_;rintro e w2 ⟨rfl,hb⟩;have hK2:=zh (hK0.out.below hb);have hs2:=zh (hs0.out.below hb);have hx2:=zh (hx0.out.below hb);clear hb k1 kn1 x0 x9 hK0 hs0 hx0;obtain⟨w3,hw3⟩:∃W,W=(w2.alloc (.cells #[.bool (rq (-1)).1,.string (rq (-1)).2.1,.string (rq (-1)).2.2] 40)):=⟨_,rfl⟩;obtain⟨mnb,hmnb⟩:∃x,x=w2.heap.size:=⟨_,rfl⟩;have hK3:Hid (Kp [xb] w w3):=by rw[hw3];exact hK2.out.alloc _
 have hs3:Hid (Bk w3 w.heap.size 25 (SC s Ap Ac Av cp cc cv)):=by rw[hw3];exact hs2.out.alloc _
 have hx3:Hid (Bk w3 xb 75 [.slice U m cu,.slice none 0 0,.slice none 0 0]):=by rw[hw3];exact hx2.out.alloc _
 have hmn3:Hid (Bk w3 mnb 40 [.bool (rq (-1)).1,.string (rq (-1)).2.1,.string (rq (-1)).2.2]):=by rw[hw3,hmnb];exact Bk.new _ _ _
 have hsz3:Hid (w2.heap.size<w3.heap.size∧w.heap.size<w2.heap.size):=⟨by rw[hw3];simp,hs2.out.lt⟩;have x0:=hx2.out.c0;have x9:=hx2.out.lt
 go_wp2_with fail
 (try rw[←hw3])
 (try rw[←hmnb])
 replace hw3:=zh hw3;clear x0 x9 hK2 hs2 hx2;have hI0:Hid (BdI w3 w3 xb m 0 (.slice U m cu) (AV (Ad s.cap) u val)):=BdI.start hx3.out;have hlt3:Hid (xb<w3.heap.size∧w.heap.size<w3.heap.size∧mnb<w3.heap.size∧mnb≠xb∧w.heap.size≠xb):=⟨hx3.out.lt,hs3.out.lt,hmn3.out.lt,by have:=hsz3.out;omega,by omega⟩;replace hmnb:=zh hmnb
 go_loopw [21] (fun ix wr=>∃(i:Nat),i≤m∧ix=.int .i64 (i:Int)∧Hid (BdI w3 wr xb m i (.slice U m cu) (AV (Ad s.cap) u val))) (fun ix _=>m-(intOf ix).toNat)
 case atStart=>exact⟨0,Nat.zero_le _,rfl,hI0⟩
 case round =>
  clear hI0;obtain⟨i,hi,rfl,hI⟩:=hrel;obtain⟨wy,rfl⟩:∃z,z=wr:=⟨_,rfl⟩
  by_cases him:i<m
  rotate_left
  · obtain rfl:i=m:=by omega
    go_wp2
    (try simp only[Exit.inBlock,Exit.then])
    go_end0;exact⟨rfl,w3,hK3.out,hI.out⟩
  · obtain ⟨Aa,Ab,ca,cb,bl,hKy,hxy,hoa,hob,hap,hrows⟩:=hI.out;replace hKy:=zh hKy;replace hxy:=zh hxy;replace hoa:=zh hoa;replace hob:=zh hob;replace hap:=zh hap;replace hrows:=zh hrows;clear hI;have hil:i<u.length:=by rw[←hme.out];exact him
    have hKw:Hid (Kp [xb] w wy):=kp_trans hK3.out hKy.out (fun y hy=>.inl hy);have hBw:=zh (fun W (h:Below wy.heap.size wy W)=>hKw.out.below h);obtain⟨ub,uo,hUe,hub,huc⟩:=(hUW.out wy hKw.out) (by rw[hul.out];omega);subst hUe;have e1:=huc i (by rw[hul.out];omega);rw[List.getElem_map]at e1;obtain⟨hpn,hpd⟩:=hug.out i hil;obtain⟨p,hp⟩:∃p,p=u[i]'hil:=⟨_,rfl⟩;rw[←hp]at e1 hpn hpd;replace hp:=zh hp;clear huc;have j0:(0:Int)≤(i:Int):=by omega
    have j1:(i:Int)<(m:Int):=by omega
    have x0:=hxy.out.c0;have x9:=hxy.out.lt;have hmk:=Ft 27 Tryz.underlying27 m (by omega);obtain⟨rb,hrb⟩:∃x,x=wy.heap.size:=⟨_,rfl⟩;obtain⟨w5,hw5⟩:∃W,W=(wy.alloc (.cells (AF m fun _=>zraw).toArray 40)):=⟨_,rfl⟩;have hB5:Hid (Below wy.heap.size wy w5):=by rw[hw5];exact(Below.refl _ wy).alloc (Nat.le_refl _) _
    have hR5:Hid (RowB w5 rb m fun j=>if j<0 then rq 0 else zraw):=by rw[hw5,hrb];refine RowB.congr (r:=fun _=>zraw) (heap_alloc_new wy _) fun j _=>?_;rw[if_neg (Nat.not_lt_zero _)]
    go_wp2_with fail
    (try rw[←hw5])
    (try rw[←hrb])
    replace hw5:=zh hw5;replace hrb:=zh hrb;clear hmk x0 x9 e1
    go_loopw [34] (fun kx wr=>∃(k:Nat),k≤m∧kx=.int .i64 (k:Int)∧Hid (Below wy.heap.size wy wr)∧Hid (RowB wr rb m fun j=>if j<k then rq 0 else zraw)) (fun kx _=>m-(intOf kx).toNat)
    case atStart=>exact⟨0,Nat.zero_le _,rfl,hB5,hR5⟩
    case round =>
     clear hB5 hR5;obtain⟨k,hk,rfl,hBz,hRz⟩:=hrel;obtain⟨wz,rfl⟩:∃z,z=wr:=⟨_,rfl⟩
     by_cases hkm:k<m
     · have k0:=zh (kn0.out wz (hEW.out _ (hBw.out _ hBz.out)));have q0:(0:Int)≤(k:Int):=by omega
       have q1:(k:Int)<(m:Int):=by omega
       go_wp2_with fail
       refine k0.out.mono ?_;rintro e w6 ⟨rfl,hb⟩;have hB6:Hid (Below wy.heap.size wy w6):=hBz.out.trans (hb.mono hBz.out.size);have hR6:Hid (RowB w6 rb m fun j=>if j<k then rq 0 else zraw):=hRz.out.below hb hRz.out.lt;clear hb k0 hBz hRz;obtain⟨r1,r2,r3⟩:=hR6.out.cell hkm;have f1:=hR6.out.frozen (k*3);have f2:=hR6.out.frozen (k*3+1);have f3:=hR6.out.frozen (k*3+2);have r9:=hR6.out.lt;have hrw:Hid (wy.heap.size≤rb):=Nat.le_of_eq hrb.out.symm;have hB7:Hid (Below wy.heap.size wy (((w6.setCell ⟨rb,k*3,none⟩ (.bool (rq (0)).1)).setCell ⟨rb,k*3+1,none⟩ (.string (rq (0)).2.1)).setCell ⟨rb,k*3+2,none⟩ (.string (rq (0)).2.2))):=((hB6.out.setCell (p:=⟨rb,k*3,none⟩) hrw.out _).setCell (p:=⟨rb,k*3+1,none⟩) hrw.out _).setCell (p:=⟨rb,k*3+2,none⟩) hrw.out _;have hR7:Hid (RowB (((w6.setCell ⟨rb,k*3,none⟩ (.bool (rq (0)).1)).setCell ⟨rb,k*3+1,none⟩ (.string (rq (0)).2.1)).setCell ⟨rb,k*3+2,none⟩ (.string (rq (0)).2.2)) rb m fun j=>if j<k+1 then rq 0 else zraw):=(hR6.out.set hkm (rq 0)).congr fun j _=>by by_cases c:j=k;(· rw[if_pos c,if_pos (by omega)]);(· rw[if_neg c];by_cases d:j<k;(· rw[if_pos d,if_pos (by omega)]);(· rw[if_neg d,if_neg (by omega)]))
       generalize (if k<k then rq 0 else zraw)=rz at r1 r2 r3;go_wp2;exact⟨⟨k+1,by omega,by go_num,hB7,hR7⟩,by simp only[intOf];omega⟩
     · obtain rfl:k=m:=by omega
       have hR8:Hid (RowB wz rb k fun _=>rq 0):=hRz.out.congr fun j hj=>by rw[if_pos hj]
       clear hRz;have k2:=zh (kn2.out wz (hEW.out _ (hBw.out _ hBz.out)))
       go_wp2_with fail
       refine k2.out.mono ?_;rintro e w6 ⟨rfl,hb⟩;have hB6:Hid (Below wy.heap.size wy w6):=hBz.out.trans (hb.mono hBz.out.size);have hR6:Hid (RowB w6 rb k fun _=>rq 0):=hR8.out.below hb hR8.out.lt;clear hb k2 kn2 hBz hR8;obtain⟨r1,r2,r3⟩:=hR6.out.cell him;have f1:=hR6.out.frozen (i*3);have f2:=hR6.out.frozen (i*3+1);have f3:=hR6.out.frozen (i*3+2);have r9:=hR6.out.lt;have hrw:Hid (wy.heap.size≤rb):=Nat.le_of_eq hrb.out.symm;obtain⟨w7,hw7⟩:∃W,W=(((w6.setCell ⟨rb,i*3,none⟩ (.bool (rq (1)).1)).setCell ⟨rb,i*3+1,none⟩ (.string (rq (1)).2.1)).setCell ⟨rb,i*3+2,none⟩ (.string (rq (1)).2.2)):=⟨_,rfl⟩;have hB7:Hid (Below wy.heap.size wy w7):=by rw[hw7];exact((hB6.out.setCell (p:=⟨rb,i*3,none⟩) hrw.out _).setCell (p:=⟨rb,i*3+1,none⟩) hrw.out _).setCell (p:=⟨rb,i*3+2,none⟩) hrw.out _
       have hR7:Hid (RowB w7 rb k fun j=>rq (BS (Ad s.cap) u i 0 j)):=by rw[hw7];exact(hR6.out.set him (rq 1)).congr fun j _=>by rw[OA];by_cases c:j=i;(· rw[if_pos c,if_pos c.symm]);(· rw[if_neg c,if_neg (fun e=>c e.symm)])
       have k3:=zh (kn0.out w7 (hEW.out _ (hBw.out _ hB7.out)))
       go_wp2_with fail
       (try rw[←hw7])
       replace hw7:=zh hw7;refine k3.out.mono ?_;rintro e w8 ⟨rfl,hb⟩;have hB8:Hid (Below wy.heap.size wy w8):=hB7.out.trans (hb.mono hB7.out.size);have hR8:Hid (RowB w8 rb k fun j=>rq (BS (Ad s.cap) u i 0 j)):=hR7.out.below hb hR7.out.lt;clear hb k3 hB6 hR6 hB7 hR7 r1 r2 r3 f1 f2 f3 r9 kn0;obtain⟨gb,hgb⟩:∃x,x=w8.heap.size:=⟨_,rfl⟩;obtain⟨w9,hw9⟩:∃W,W=(w8.alloc (.cells #[.bool (rq (0)).1,.string (rq (0)).2.1,.string (rq (0)).2.2] 40)):=⟨_,rfl⟩;have hB9:Hid (Below wy.heap.size wy w9):=by rw[hw9];exact hB8.out.alloc hB8.out.size _
       have hR9:Hid (RowB w9 rb k fun j=>rq (BS (Ad s.cap) u i 0 j)):=by rw[hw9];exact hR8.out.alloc _
       have hG9:Hid (Bk w9 gb 40 [.bool (rq (By (Ad s.cap) u val i 0)).1,.string (rq (By (Ad s.cap) u val i 0)).2.1,.string (rq (By (Ad s.cap) u val i 0)).2.2]):=by rw[hw9,hgb,OB];exact Bk.new _ _ _
       have hrg:Hid (rb<gb∧wy.heap.size≤gb):=⟨by rw[hgb];exact hR8.out.lt,by rw[hgb];exact hB8.out.size⟩;have hs9:=zh ((hs3.out.kp hKy.out (by have:=hlt3.out;simp;omega)).below hB9.out);have u1:=hs9.out.c1;have u9:=hs9.out.lt;rw[hw9]at u1 u9
       go_wp2_with fail
       (try rw[←hw9])
       (try rw[←hgb])
       replace hw9:=zh hw9;replace hgb:=zh hgb;clear u1 u9 hB8 hR8 hs9
       go_loopw [50] (fun kx wr=>∃(c:Nat),c≤s.cap.length∧kx=.int .i64 (c:Int)∧Hid (Below wy.heap.size wy wr)∧Hid (RowB wr rb k fun j=>rq (BS (Ad s.cap) u i c j))∧Hid (Bk wr gb 40 [.bool (rq (By (Ad s.cap) u val i c)).1,.string (rq (By (Ad s.cap) u val i c)).2.1,.string (rq (By (Ad s.cap) u val i c)).2.2])) (fun kx _=>s.cap.length-(intOf kx).toNat)
       case atStart=>exact⟨0,Nat.zero_le _,rfl,hB9,hR9,hG9⟩
       case round =>
        clear hB9 hR9 hG9;obtain⟨c,hc,rfl,hBz,hRz,hGz⟩:=hrel;obtain⟨wz,rfl⟩:∃z,z=wr:=⟨_,rfl⟩
        by_cases hcl2:c<s.cap.length
        · obtain ⟨vb2,off,hAe,hbl,hcc⟩:=(hsW.out wz (hBw.out _ hBz.out)) (by omega);subst hAe;obtain⟨e1,e2,e3,e4,e5⟩:=hcc c hcl2;obtain⟨co,ho,Ag,hlk1,hlk2,hco,hho⟩:=hlk.out c hcl2;rw[hlk1]at e1 e2 e3 e4 e5;replace e1:wz.cell? ⟨vb2,off+c*5,none⟩=some (.int .i64 (co:Int)):=e1;replace e2:wz.cell? ⟨vb2,off+c*5+1,none⟩=some (.int .i64 (ho:Int)):=e2;replace e3:wz.cell? ⟨vb2,off+c*5+2,none⟩=some (.bool (rq Ag).1):=e3;replace e4:wz.cell? ⟨vb2,off+c*5+3,none⟩=some (.string (rq Ag).2.1):=e4;replace e5:wz.cell? ⟨vb2,off+c*5+4,none⟩=some (.string (rq Ag).2.2):=e5;have hclc:c<(Ad s.cap).length:=by rw[hcl.out];exact hcl2
          have hpt:(Ad s.cap)[c].2.2=Ag:=by rw[hlk2]
          have hp1:=HJ hL.out hclc;have hp2:=QS hL.out hclc;have hp3:=zh (fun q=>QT hL.out hv.out hclc q);rw[hpt]at hp1 hp2;replace hp1:=zh hp1;replace hp2:=zh hp2;have hsk:Hid (co≠p→(∀j,BS (Ad s.cap) u i (c+1) j=BS (Ad s.cap) u i c j)∧By (Ad s.cap) u val i (c+1)=By (Ad s.cap) u val i c):=fun hne=>QQ hclc (by rw[hlk2,hpd];exact hne);have hin:Hid (co=p→∀t (ht:t<u.length),ho=u.getD t 0→(∀j,j<u.length→BS (Ad s.cap) u i (c+1) j=if j=t then BS (Ad s.cap) u i c t+-1*Ag else BS (Ad s.cap) u i c j)∧By (Ad s.cap) u val i (c+1)=By (Ad s.cap) u val i c):=fun he t ht hh=>by have h:=TZ (val:=val) (i:=i) hu.out hclc (by rw[hlk2,hpd];exact he) ht (by rw[hlk2];exact hh);rwa [hpt]at h
          have hout:Hid (co=p→ho∉u→(∀j,j<u.length→BS (Ad s.cap) u i (c+1) j=BS (Ad s.cap) u i c j)∧By (Ad s.cap) u val i (c+1)=By (Ad s.cap) u val i c+Ag*val ho):=fun he hh=>by have h:=GU (val:=val) (i:=i) hclc (by rw[hlk2,hpd];exact he) (by rw[hlk2];exact hh);rwa [hlk2]at h
          replace hlk1:=zh hlk1;replace hlk2:=zh hlk2;replace hpt:=zh hpt;replace hclc:=zh hclc;clear hcc;have c0:(0:Int)≤(c:Int):=by omega
          have c1:(c:Int)<(s.cap.length:Int):=by omega
          obtain⟨lb,hlb⟩:∃x,x=wz.heap.size:=⟨_,rfl⟩;obtain⟨wa,hwa⟩:∃W,W=(wz.alloc (.cells #[.int .i64 (co:Int),.int .i64 (ho:Int),.bool (rq Ag).1,.string (rq Ag).2.1,.string (rq Ag).2.2] 59)):=⟨_,rfl⟩;have hBa:Hid (Below wy.heap.size wy wa):=by rw[hwa];exact hBz.out.alloc hBz.out.size _
          have hRa:Hid (RowB wa rb k fun j=>rq (BS (Ad s.cap) u i c j)):=by rw[hwa];exact hRz.out.alloc _
          have hGa:Hid (Bk wa gb 40 [.bool (rq (By (Ad s.cap) u val i c)).1,.string (rq (By (Ad s.cap) u val i c)).2.1,.string (rq (By (Ad s.cap) u val i c)).2.2]):=by rw[hwa];exact hGz.out.alloc _
          have hLa:Hid (Bk wa lb 59 [.int .i64 (co:Int),.int .i64 (ho:Int),.bool (rq Ag).1,.string (rq Ag).2.1,.string (rq Ag).2.2]):=by rw[hwa,hlb];exact Bk.new _ _ _
          have hnl:Hid (rb≠lb∧gb≠lb):=⟨by rw[hlb];exact Nat.ne_of_lt hRz.out.lt,by rw[hlb];exact Nat.ne_of_lt hGz.out.lt⟩;have y0:=hLa.out.c0;have y1:=hLa.out.c1;have y9:=hLa.out.lt;rw[hwa,hlb]at y0 y1 y9
          by_cases hcp:co=p
          rotate_left
          · have t1:((co:Int) != (p:Int))=true:=by rw[bne_iff_ne];omega
            have hnx:=hsk.out hcp;have hRb:Hid (RowB wa rb k fun j=>rq (BS (Ad s.cap) u i (c+1) j)):=hRa.out.congr fun j _=>by rw[hnx.1 j]
            have hGb:Hid (Bk wa gb 40 [.bool (rq (By (Ad s.cap) u val i (c+1))).1,.string (rq (By (Ad s.cap) u val i (c+1))).2.1,.string (rq (By (Ad s.cap) u val i (c+1))).2.2]):=by rw[hnx.2];exact hGa.out
            replace hcp:=zh hcp;rw[hwa]at hBa hRb hGb;clear hnx hsk hin hout hRa hGa hLa;go_wp2;exact⟨⟨c+1,by omega,by go_num,hBa,hRb,hGb⟩,by simp only[intOf];omega⟩
          · have t1:((co:Int) != (p:Int))=false:=by rw[bne_eq_false_iff_eq];omega
            have hcp2:=zh hcp;clear hcp;have hxa:=zh (hxy.out.below hBa.out);clear hsk y0 y1 y9;have y0:=hLa.out.c0;have y9:=hLa.out.lt;rw[hwa,hlb]at y0 y9
            go_wp2_with fail
            subst hwa;subst hlb;clear y0 y9;have hkw:=zh (fun W (h:Below wy.heap.size wy W)=>hBw.out W h);have hBd:Hid (Below wy.heap.size wy (wz.alloc (.cells #[.int .i64 (co:Int),.int .i64 (ho:Int),.bool (rq Ag).1,.string (rq Ag).2.1,.string (rq Ag).2.2] 59)).drew):=hBa.out.drew;have hSd:Hid ((wz.alloc (.cells #[.int .i64 (co:Int),.int .i64 (ho:Int),.bool (rq Ag).1,.string (rq Ag).2.1,.string (rq Ag).2.2] 59)).drew.cell? ⟨xb,0,none⟩=some (.slice (some ⟨ub,uo,none⟩) k cu)∧(wz.alloc (.cells #[.int .i64 (co:Int),.int .i64 (ho:Int),.bool (rq Ag).1,.string (rq Ag).2.1,.string (rq Ag).2.2] 59)).drew.cell? ⟨wz.heap.size,1,none⟩=some (.int .i64 (ho:Int))):=⟨hxa.out.c0,hLa.out.c1⟩;have x0:=hxa.out.c0;have x9:=hxa.out.lt;have y1:=hLa.out.c1;have y9:=hLa.out.lt
            go_region_held3 (fun W=>W.cell? ⟨xb,0,none⟩=some (.slice (some ⟨ub,uo,none⟩) k cu)∧W.cell? ⟨wz.heap.size,1,none⟩=some (.int .i64 (ho:Int))) (first | (with_reducible exact hSd.out) | (with_reducible exact⟨hxa.out.c0,hLa.out.c1⟩) | go_keep) (first | (go_at_call 89;refine(kix.out _ _ (hkw.out _ hBd.out)).mono ?_;rintro e w7b ⟨rfl,hq⟩;obtain rfl:=hq.symm))
            clear x0 x9 y1 y9 hSd;have hRd:Hid (RowB (wz.alloc (.cells #[.int .i64 (co:Int),.int .i64 (ho:Int),.bool (rq Ag).1,.string (rq Ag).2.1,.string (rq Ag).2.2] 59)).drew rb k fun j=>rq (BS (Ad s.cap) u i c j)):=hRa.out;have hGd:Hid (Bk (wz.alloc (.cells #[.int .i64 (co:Int),.int .i64 (ho:Int),.bool (rq Ag).1,.string (rq Ag).2.1,.string (rq Ag).2.2] 59)).drew gb 40 [.bool (rq (By (Ad s.cap) u val i c)).1,.string (rq (By (Ad s.cap) u val i c)).2.1,.string (rq (By (Ad s.cap) u val i c)).2.2]):=hGa.out;have hLd:Hid (Bk (wz.alloc (.cells #[.int .i64 (co:Int),.int .i64 (ho:Int),.bool (rq Ag).1,.string (rq Ag).2.1,.string (rq Ag).2.2] 59)).drew wz.heap.size 59 [.int .i64 (co:Int),.int .i64 (ho:Int),.bool (rq Ag).1,.string (rq Ag).2.1,.string (rq Ag).2.2]):=hLa.out;obtain⟨wd,hwd⟩:∃W,W=(wz.alloc (.cells #[.int .i64 (co:Int),.int .i64 (ho:Int),.bool (rq Ag).1,.string (rq Ag).2.1,.string (rq Ag).2.2] 59)).drew:=⟨_,rfl⟩;rw[←hwd]at hBd hRd hGd hLd
            (try rw[←hwd])
            replace hwd:=zh hwd;clear hBa hRa hGa hLa hxa;have hmnd:Hid (Bk wd mnb 40 [.bool (rq (-1)).1,.string (rq (-1)).2.1,.string (rq (-1)).2.2]):=(hmn3.out.kp hKy.out (by have:=hlt3.out;simp;omega)).below hBd.out;have hmrb:Hid (rb≠mnb):=fun e=>by have h1:=hlt3.out;have h2:=hKy.out.size;have h3:=hrb.out;omega
            by_cases hu1:ho∈u
            · obtain⟨t,ht,hte⟩:∃t,t<u.length∧ho=u.getD t 0:=⟨u.idxOf ho,List.idxOf_lt_length_iff.2 hu1,(FH hu1).symm⟩;have hix:FJ (u.map fun(q:Nat)=>(q:Int)) (ho:Int)=(t:Int):=UJ hu.out ht hte;have hnx:=hin.out hcp2.out t ht hte;rw[hix];rw[←hme.out]at ht hnx;replace hnx:=zh hnx;replace hix:=zh hix;replace hu1:=zh hu1;replace hte:=zh hte;have t2:decide ((0:Int)≤(t:Int))=true:=decide_eq_true (by omega)
              go_wp2_with fail
              refine UZ mnb rb wz.heap.size k t _ (BS (Ad s.cap) u i c t) Ag _ _ wd (hEW.out _ (hBw.out _ hBd.out)) ht (by omega) hRd.out rfl hmnd.out hLd.out hmrb.out hnl.out.1 (HH hL.out) hp1.out hp2.out ?_;intro _ _ _ _ _ _ _ _ _ _ _ we hRe hKe;have hBe:Hid (Below wy.heap.size wy we):=hKe.out.to_below hBd.out (fun x hx=>by have:=hrb.out;simp at hx;omega);have hRf:Hid (RowB we rb k fun j=>rq (BS (Ad s.cap) u i (c+1) j)):=hRe.out.congr fun j hj=>by rw[hnx.out.1 j hj];split<;>rfl
              have hGf:Hid (Bk we gb 40 [.bool (rq (By (Ad s.cap) u val i (c+1))).1,.string (rq (By (Ad s.cap) u val i (c+1))).2.1,.string (rq (By (Ad s.cap) u val i (c+1))).2.2]):=by rw[hnx.out.2];exact hGd.out.kp hKe.out (by have:=hrg.out;simp;omega)
              clear hRe hKe hRd hGd hLd hBd hmnd;go_wp2;exact⟨⟨c+1,by omega,by go_num,hBe,hRf,hGf⟩,by simp only[intOf];omega⟩
            · have hix:FJ (u.map fun(q:Nat)=>(q:Int)) (ho:Int)=-1:=Ua hu1;have hnx:=hout.out hcp2.out hu1;rw[hix];rw[←hme.out]at hnx;replace hnx:=zh hnx;replace hix:=zh hix;replace hu1:=zh hu1;have hp4:=zh (hp3.out ho);rw[hpt.out]at hp4
              go_wp2_with fail
              refine Vc gb wz.heap.size vb (ho:Int) (By (Ad s.cap) u val i c) Ag (val ho) _ wd (hEW.out _ (hBw.out _ hBd.out)) hGd.out hLd.out hnl.out.2 (HI hL.out hv.out) hp1.out (hv.out.short ho) hp4.out (fun W hW=>kva.out W ho hho (hBw.out _ (hBd.out.trans (hW.mono hBd.out.size)))) ?_;intro _ _ _ _ _ _ _ _ we hGe hKe;have hBe:Hid (Below wy.heap.size wy we):=hKe.out.to_below hBd.out (fun x hx=>by have:=hrg.out;simp at hx;omega);have hRf:Hid (RowB we rb k fun j=>rq (BS (Ad s.cap) u i (c+1) j)):=(J9 hRd.out hKe.out (by have:=hrg.out;simp;omega)).congr fun j hj=>by rw[hnx.out.1 j hj]
              have hGf:Hid (Bk we gb 40 [.bool (rq (By (Ad s.cap) u val i (c+1))).1,.string (rq (By (Ad s.cap) u val i (c+1))).2.1,.string (rq (By (Ad s.cap) u val i (c+1))).2.2]):=by rw[hnx.out.2];exact hGe.out
              clear hGe hKe hRd hGd hLd hBd hmnd;go_wp2;exact⟨⟨c+1,by omega,by go_num,hBe,hRf,hGf⟩,by simp only[intOf];omega⟩
        · obtain rfl:c=s.cap.length:=by omega
          have hRf:Hid (RowB wz rb k fun j=>rq (AV (Ad s.cap) u val i j)):=hRz.out.congr fun j hj=>by rw[←hcl.out,KJ (val:=val) (by rw[←hme.out];exact hj)]
          have hGf:Hid (Bk wz gb 40 [.bool (rq (AV (Ad s.cap) u val i k)).1,.string (rq (AV (Ad s.cap) u val i k)).2.1,.string (rq (AV (Ad s.cap) u val i k)).2.2]):=by have h:=hGz.out;rw[←hcl.out,KK,←hme.out]at h;exact h
          have hxz:=zh (hxy.out.below hBz.out);have hoz:=zh (AX hoa.out hBz.out);have hpz:=zh (AX hob.out hBz.out);clear hRz hGz hlk kix kva
          go_wp2_with fail
          refine Vd xb gb rb k i ca cb w3.heap.size Aa Ab _ _ _ (rq (AV (Ad s.cap) u val i k)) wz (by omega) hxz.out hGf.out (by have h1:=hlt3.out;have h2:=hKy.out.size;have h3:=hrg.out;omega) (Nat.le_trans hKy.out.size hBz.out.size) hlt3.out.1 hoz.out hpz.out hap.out (fun e=>by have h1:=(hoa.out.lt _ e).2;have h3:=hrg.out;omega) (fun e=>by have h1:=(hob.out.lt _ e).2;have h3:=hrg.out;omega) ?_;intro _ _ _ _ _ _ _ _ _ _ _ _ _ _ _ _ _ _ _ _ Aa2 Ab2 ca2 cb2 we k1 k2 k3 k4 k5 k6 k7;have hI2:Hid (BdI w3 we xb k (i+1) (.slice (some ⟨ub,uo,none⟩) k cu) (AV (Ad s.cap) u val)):=BdI.step hKy.out hoa.out hob.out hrows.out hBz.out hrb.out (by have h1:=hlt3.out;have h2:=hKy.out.size;omega) hRf.out k1.out k2.out k3.out k4.out k5.out k6.out k7.out;clear k1 k2 k3 k4 k5 k6 k7 hxz hoz hpz hRf hGf hBz;go_wp2;exact⟨⟨i+1,by omega,by go_num,hI2⟩,by simp only[intOf];omega⟩
end Sh
end
section
open Go.RowKit Go.Shelf
namespace Sh
open Nt Ci
theorem HU {n D:Nat} {L:List Lp} {u:List Nat} {val:Nat→Rat} (hL:Caps n L) (hv:Vals val D) {i j:Nat} (hj:j≤u.length):ShortQ (AV L u val i j):=by
 by_cases e:j=u.length
 · rw[e,←KK];exact HI hL hv
 · rw[←KJ (val:=val) (by omega:j<u.length)];exact HH hL
theorem Dm {W:World} {b n:Nat} {f:Nat→Rat} (h:RowB W b n fun j=>rq (f j)):InRow W (some ⟨b,0,none⟩) (AG n f):=fun _=>⟨b,0,rfl,h.lt,fun j hj=>by
 have hj':j<n:=by rwa [Ah]at hj
 obtain⟨c1,c2,c3⟩:=h.cell hj';rw[B7];rw[Nat.zero_add];exact⟨c1,c2,c3⟩⟩
theorem BdI.slv {n D:Nat} {w W:World} {xb:Nat} {uv:Value} {L:List Lp} {u:List Nat} {val:Nat→Rat} (h:BdI w W xb u.length u.length uv (AV L u val)) (hL:Caps n L) (hv:Vals val D) (h8:u.length≤8) :
 ∃(Aa Ab:Option Addr) (ca cb:Nat) (la:List RowH),Kp [xb] w W∧Bk W xb 75 [uv,.slice Aa u.length ca,.slice Ab u.length cb]∧la.length=u.length∧SysIn W Aa Ab la (EW L u val)∧Bw la=CL L u val:=by
 obtain⟨Aa,Ab,ca,cb,bl,hK,hx,hoa,hob,hap,hrows⟩:=h
 let la:List RowH:=(List.range u.length).map fun k=>((some ⟨bl k,0,none⟩:Option Addr),u.length,AG u.length (AV L u val k))
 have hll:la.length=u.length:=by simp[la]
 have hla:∀x∈la,∃k,k<u.length∧x=((some ⟨bl k,0,none⟩:Option Addr),u.length,AG u.length (AV L u val k)):=fun x hx=>by
  obtain⟨k,hk,rfl⟩:=List.mem_map.1 hx;exact⟨k,List.mem_range.1 hk,rfl⟩
 have hmap:(List.range u.length).map (fun k=>Value.slice (some ⟨bl k,0,none⟩) u.length u.length)=la.map hdr:=by
  simp only[la,List.map_map];refine List.map_congr_left fun k _=>?_;simp[hdr,Ah]
 obtain ⟨A1,c1,e1,hM⟩:=inMat_of_own (L:=la) (v:=.slice Aa u.length ca) (by rw[←hmap,hll];exact hoa) (fun x hx=>by
  obtain⟨k,hk,rfl⟩:=hla x hx;exact Dm (hrows k hk).1)
 obtain⟨A2,c2,e2,hR⟩:=FC hob;rw[hll]at e1;injection e1 with q1 _ _;injection e2 with q2 _ _;subst q1;subst q2;refine⟨Aa,Ab,ca,cb,la,hK,hx,hll,⟨hM,hR,by omega,by rw[show (EW L u val).length=u.length from Ah _ _];omega,fun x hx=>?_,fun x hx=>?_⟩,?_⟩
 · obtain⟨k,hk,rfl⟩:=hla x hx;refine⟨by show (AG _ _).length≤_;rw[Ah];omega,fun y hy=>?_⟩;obtain⟨j,hj,rfl⟩:=List.mem_map.1 (show y∈AG u.length (AV L u val k) from hy);exact Ky (HU hL hv (Nat.le_of_lt (List.mem_range.1 hj))).ok
 · obtain⟨j,hj,rfl⟩:=List.mem_map.1 (show x∈AG u.length (fun i=>AV L u val i u.length) from hx);exact Ky (HU hL hv (Nat.le_refl _)).ok
 · simp[Bw,la,CL,List.map_map]
theorem SP {n D:Nat} {L:List Lp} {F done u:List Nat} {val:Nat→Rat} (hL:Caps n L) (hi:Inv L F done val D) (hx:Nxt L F done u) (hlen:done.length+u.length≤16) (h8:u.length≤8)
 {W:World} {Aa Ab:Option Addr} {ca cb:Nat} {la:List RowH} (hE:Env W) (hl:la.length=u.length) (hs:SysIn W Aa Ab la (EW L u val)) (hr:Bw la=CL L u val) :
 Calls Tryz.prog 56 #[.slice Aa u.length ca,.slice Ab u.length cb] W fun e w'=>(∃p c,e=.returned (.tuple #[.slice p u.length c,.int .i64 0])∧InRow w' p (AG u.length fun i=>Ck SQ L u val (u.getD i 0)))∧Below W.heap.size W w':=by
 have h:=SE Aa Ab ca cb la (EW L u val) W hE hs;have hb:(EW L u val).length=u.length:=Ah _ _;rw[hr,KI hL hi hx hlen h8,hl,hb]at h;refine h.mono fun e w' ⟨⟨p,c,e1,e2⟩,hB⟩=>⟨⟨p,c,?_,e2⟩,hB⟩;rw[e1]
 show Ending.returned (.tuple #[.slice p (AG u.length _).length c,.int .i64 0])=_
 rw[Ah]
end Sh
end
end Go.Proofs.YtilodknkildkbaaGreatDoor

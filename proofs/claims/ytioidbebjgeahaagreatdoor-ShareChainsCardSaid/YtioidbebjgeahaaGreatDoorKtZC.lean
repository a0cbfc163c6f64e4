/- Texts that the proof needs: ShaCReg. -/
import Derived.Test.YtioidbebjgeahaaGreatDoorKtA
import Derived.Test.YtioidbebjgeahaaGreatDoorKtB
import Derived.Test.YtioidbebjgeahaaGreatDoorKtC
import Derived.Test.YtioidbebjgeahaaGreatDoorKtD
import Derived.Test.YtioidbebjgeahaaGreatDoorKtE
import Derived.Test.YtioidbebjgeahaaGreatDoorKtF
import Derived.Test.YtioidbebjgeahaaGreatDoorKtG
import Derived.Test.YtioidbebjgeahaaGreatDoorKtH
import Derived.Test.YtioidbebjgeahaaGreatDoorKtI
import Derived.Test.YtioidbebjgeahaaGreatDoorKtU
import Derived.Test.YtioidbebjgeahaaGreatDoorKtZB
set_option maxHeartbeats 16000000
set_option maxRecDepth 1000000
namespace Go.Proofs.YtioidbebjgeahaaGreatDoor
open Go.RowKit Go.Shelf
namespace Sh
open Nt Ci
noncomputable def scR (j:Nat):Code:=((Tryz.f4.body.map Ci.regsOf).bind fun l=>l.find? (isRegS j)).getD .skip
theorem sc23 {c1 c2 c3 c4 c6 c7 c8 c9 c10 c12 c13 c14 c15 c16 c17 c18 c19 c20 c21 c22 c23 c24 c25 c26 c27 c28 c29 c30 c31 c32 c33 c34 c35 c36 c37 c38 c39 c40 c41 c42 c43 c44 c45 c46 c47 c48 c49 c50 c51 c52 c53 c54 c55 c56 c57 c58 c59 c60 c61 c62 c63 c64 c65 c66 c67 c68 c69 c70 c71 c72 c73 c74 c75 c76 c77 c95 c96 c97 c98 c99 c100 c101 c102 c103 c104 c105 c106 c107 c108 c109 c110 c111 a78 a79 a80 a81 a82 a83 a84 a85 a86 a87 a88 a89 a90 a91 a92 a93 a94:Value} {Q:Exit→Act→World→Prop} (ab ao n cc xb i cu B b:Nat) (A2:Option Addr) (s0 s2:Value) (L0:List Lk) (w:World) (hE:Env w) (hX:Bk w xb 25 [s0,.slice A2 i cu,s2]) (ho:w.ownsRow B 42 5 (.slice A2 i cu) i (lksL L0)) (ha:w.cell? ⟨ab,ao+i,none⟩=some (.int .u8 (b:Int))) (hal:ab<w.heap.size) (hi:i<n) (hn:n≤10) (hb:b<256) (hB:B≤w.heap.size) (hxB:xb<B) (haB:ab<B) (hax:ab≠xb)
 (h:∀(u78 u79 u80 u81 u82 u83 u84 u85 u86 u87 u88 u89 u90 u91 u92 u93 u94:Value) (W:World) (Az:Option Addr) (cz:Nat) (_:Hid (Bk W xb 25 [s0,.slice Az (i+1) cz,s2])) (_:Hid (W.ownsRow B 42 5 (.slice Az (i+1) cz) (i+1) (lksL (L0++[((i:Int),((i+1:Nat):Int),rq (prt b))])))) (_:Hid (∀k,k<B→k≠xb→W.heap[k]? = w.heap[k]?)) (_:Hid (W.os=w.os∧W.tape=w.tape∧W.output=w.output∧w.heap.size≤W.heap.size)),Q .normal ⟨#[.slice (some ⟨ab,ao,none⟩) n cc,c1,c2,c3,c4,.pointer (some ⟨xb,0,none⟩),c6,c7,c8,c9,c10,.int .i64 (i:Int),c12,c13,c14,c15,c16,c17,c18,c19,c20,c21,c22,c23,c24,c25,c26,c27,c28,c29,c30,c31,c32,c33,c34,c35,c36,c37,c38,c39,c40,c41,c42,c43,c44,c45,c46,c47,c48,c49,c50,c51,c52,c53,c54,c55,c56,c57,c58,c59,c60,c61,c62,c63,c64,c65,c66,c67,c68,c69,c70,c71,c72,c73,c74,c75,c76,c77,u78,u79,u80,u81,u82,u83,u84,u85,u86,u87,u88,u89,u90,u91,u92,u93,u94,c95,c96,c97,c98,c99,c100,c101,c102,c103,c104,c105,c106,c107,c108,c109,c110,c111],[]⟩ W) :
 Code.wp Tryz.prog (scR 23) Q ⟨#[.slice (some ⟨ab,ao,none⟩) n cc,c1,c2,c3,c4,.pointer (some ⟨xb,0,none⟩),c6,c7,c8,c9,c10,.int .i64 (i:Int),c12,c13,c14,c15,c16,c17,c18,c19,c20,c21,c22,c23,c24,c25,c26,c27,c28,c29,c30,c31,c32,c33,c34,c35,c36,c37,c38,c39,c40,c41,c42,c43,c44,c45,c46,c47,c48,c49,c50,c51,c52,c53,c54,c55,c56,c57,c58,c59,c60,c61,c62,c63,c64,c65,c66,c67,c68,c69,c70,c71,c72,c73,c74,c75,c76,c77,a78,a79,a80,a81,a82,a83,a84,a85,a86,a87,a88,a89,a90,a91,a92,a93,a94,c95,c96,c97,c98,c99,c100,c101,c102,c103,c104,c105,c106,c107,c108,c109,c110,c111],[]⟩ w:=by
 conv=>arg 2;whnf
 conv=>arg 4;zeta
 replace h:=Lib.hid h;have HS:Hid (∀W,Below w.heap.size w W→W.cell? ⟨ab,ao+i,none⟩=some (.int .u8 (b:Int))):=fun W h=>(h.cell (p:=⟨ab,ao+i,none⟩) hal).trans ha;obtain⟨i0,hi0,hzz⟩:=Option.map_eq_some_iff.1 infoL;simp only[Prod.mk.injEq]at hzz;obtain⟨hz0,hz1,hz2⟩:=hzz;replace hi0:=Lib.hid hi0;replace hz0:=Lib.hid hz0;replace hz1:=Lib.hid hz1;replace hz2:=Lib.hid hz2;obtain⟨m,hm⟩:∃m,m=b%100:=⟨_,rfl⟩;have hr1:(b:Int).tmod 100=(m:Int):=by rw[Int.tmod_eq_emod_of_nonneg (by omega)];omega
 have hr2:(b:Int)%100=(m:Int):=by omega
 have hr3:m<100:=by omega
 have hpr:prt b=ofQ (1+(m:Int)) 100:=by rw[hm];rfl
 replace hm:=Lib.hid hm;have kp:Hid (∀W,Env W→Calls Tryz.prog 20 #[.int .i64 (1+(m:Int)),.int .i64 100] W fun e w'=>e=.returned (.agg #[.bool (rq (prt b)).1,.string (rq (prt b)).2.1,.string (rq (prt b)).2.2])∧Below W.heap.size W w'):=fun W hW=>by rw[hpr];exact of20_any _ 100 W hW (by omega) (by omega) (by omega) (by omega) (by omega)
 have hD:Hid (Below w.heap.size w w.drew):=(Below.refl _ w).drew;have j0:(0:Int)≤(i:Int):=by omega
 have j1:(i:Int)<(n:Int):=by omega
 have j2:IntKind.i64.wrap ((i:Int)+1)=(i:Int)+1:=IntWalk.i64_in _ (by omega);have j3:IntKind.i64.wrap (b:Int)=(b:Int):=IntWalk.i64_in _ (by omega);have j4:IntKind.i64.wrap (1+(m:Int))=1+(m:Int):=IntWalk.i64_in _ (by omega);replace hE:=Lib.hid hE;replace hX:=Lib.hid hX;replace ho:=Lib.hid ho;replace hpr:=Lib.hid hpr;refine wp_region_noPanic ?_;refine wp_region_held_drew (S:=fun W=>W.cell? ⟨ab,ao+i,none⟩=some (.int .u8 (b:Int))) (by kernel_rfl) (HS.out _ hD.out) (fun hS0=>?_);replace hS0:=Lib.hid hS0;refine wpAnyH_take (i:=0) (oi:=_) (v:=?_) rfl (by kernel_rfl) (by kernel_rfl) (by kernel_rfl) (fun _ _ _ h=>h) (Or.inl ⟨by rfl,?_⟩) (hS0.out) ?_;rotate_left
 · (intro w hSw;obtain q1:=hSw;go_simp<;>with_reducible rfl)
 try simp only[Act.put,List.setIfInBounds_toArray]
 refine wpAnyH_take (i:=2) (oi:=_) (v:=?_) rfl (by kernel_rfl) (by kernel_rfl) (by kernel_rfl) (fun _ _ _ h=>h) (Or.inl ⟨by rfl,?_⟩) (hS0.out) ?_;rotate_left
 · (intro w hSw;obtain q1:=hSw;go_simp<;>with_reducible rfl)
 try simp only[Act.put]
 refine wpAnyH_take (i:=3) (oi:=_) (v:=?_) rfl (by kernel_rfl) (by kernel_rfl) (by kernel_rfl) (fun _ _ _ h=>h) (Or.inl ⟨by rfl,?_⟩) (hS0.out) ?_;rotate_left
 · (intro w hSw;obtain q1:=hSw;go_simp<;>with_reducible rfl)
 try simp only[Act.put]
 refine wpAnyH_take (i:=4) (oi:=_) (v:=?_) rfl (by kernel_rfl) (by kernel_rfl) (by kernel_rfl) (fun _ _ _ h=>h) (Or.inl ⟨by rfl,?_⟩) (hS0.out) ?_;rotate_left
 · (intro w hSw;obtain q1:=hSw;go_simp<;>with_reducible rfl)
 try simp only[Act.put]
 refine wpAnyH_take (i:=5) (oi:=_) (v:=?_) rfl (by kernel_rfl) (by kernel_rfl) (by kernel_rfl) (fun _ _ _ h=>h) (Or.inl ⟨by rfl,?_⟩) (hS0.out) ?_;rotate_left
 · (intro w hSw;obtain q1:=hSw;go_simp<;>with_reducible rfl)
 try simp only[Act.put]
 refine wpAnyH_take (i:=6) (oi:=_) (v:=?_) rfl (by kernel_rfl) (by kernel_rfl) (by kernel_rfl) (fun _ _ _ h=>h) (Or.inl ⟨by rfl,?_⟩) (hS0.out) ?_;rotate_left
 · (intro w hSw;obtain q1:=hSw;go_simp<;>with_reducible rfl)
 try simp only[Act.put]
 refine wpAnyH_take (i:=7) (oi:=_) (v:=?_) rfl (by kernel_rfl) (by kernel_rfl) (by kernel_rfl) (fun _ _ _ h=>h) (Or.inl ⟨by rfl,?_⟩) (hS0.out) ?_;rotate_left
 · (intro w hSw;obtain q1:=hSw;go_simp<;>with_reducible rfl)
 try simp only[Act.put]
 refine wpAnyH_take (i:=8) (oi:=_) (v:=?_) rfl (by kernel_rfl) (by kernel_rfl) (by kernel_rfl) (fun _ _ _ h=>h) (Or.inl ⟨by rfl,?_⟩) (hS0.out) ?_;rotate_left
 · (intro w hSw;obtain q1:=hSw;go_simp<;>with_reducible rfl)
 try simp only[Act.put]
 refine wpAnyH_take (i:=9) (oi:=_) (v:=?_) rfl (by kernel_rfl) (by kernel_rfl) (by kernel_rfl) (fun _ _ _ h=>h) (Or.inl ⟨by rfl,?_⟩) (hS0.out) ?_;rotate_left
 · (intro w hSw;obtain q1:=hSw;go_simp<;>with_reducible rfl)
 try simp only[Act.put]
 refine wpAnyH_take (i:=10) (oi:=_) (v:=?_) rfl (by kernel_rfl) (by kernel_rfl) (by kernel_rfl) (fun _ _ _ h=>h) (Or.inl ⟨by rfl,?_⟩) (hS0.out) ?_;rotate_left
 · (intro w hSw;obtain q1:=hSw;go_simp<;>with_reducible rfl)
 try simp only[Act.put]
 refine wpAnyH_take (i:=11) (oi:=_) (v:=?_) rfl (by kernel_rfl) (by kernel_rfl) (by kernel_rfl) (fun _ _ _ h=>h) (Or.inl ⟨by rfl,?_⟩) (hS0.out) ?_;rotate_left
 · (intro w hSw;obtain q1:=hSw;go_simp<;>with_reducible rfl)
 try simp only[Act.put]
 refine wpAnyH_ready (rs:=[1,12]) (by kernel_rfl) (by simp) ?_;refine AllReadyH.cons (o:=_) rfl (fun K hK=>?_) ?_
 · have x1:=(hX.out.below hD.out).cell (j:=1) rfl;have x9:=(hX.out.below hD.out).lt;go_simp;refine hK.out _ _ (HS.out _ hD.out) (fun _=>?_);clear hK K
   try simp only[Act.put,List.setIfInBounds_toArray,List.set_cons_zero,List.set_cons_succ]
   clear x1 x9;refine wpAnyH_ready (rs:=[12]) (by kernel_rfl) (by simp) ?_;refine AllReadyH.cons (o:=_) rfl (fun K hK=>?_) ?_
   · go_simp;refine(kp.out _ (hE.out.below hD.out)).mono ?_;rintro e w1 ⟨rfl,hb1⟩;have hB1:=Lib.hid (hD.out.trans (hb1.mono hD.out.size));clear hb1;refine hK.out _ _ (HS.out _ hB1.out) (fun _=>?_);clear hK K
     try simp only[Act.put,List.setIfInBounds_toArray,List.set_cons_zero,List.set_cons_succ]
     refine wpAnyH_take (i:=13) (oi:=_) (v:=?_) rfl (by kernel_rfl) (by kernel_rfl) (by kernel_rfl) (fun _ _ _ h=>h) (Or.inl ⟨by rfl,?_⟩) (HS.out _ hB1.out) ?_;rotate_left
     · (intro w hSw;obtain q1:=hSw;go_simp<;>with_reducible rfl)
     try simp only[Act.put,List.setIfInBounds_toArray]
     refine wpAnyH_ready (rs:=[14]) (by kernel_rfl) (by simp) ?_;refine AllReadyH.cons (o:=_) rfl (fun K hK=>?_) ?_
     · go_simp;have hB2:Hid (Below w.heap.size w (w1.alloc (.cells #[.int .i64 (i:Int),.int .i64 ((i:Int)+1),.bool (rq (prt b)).1,.string (rq (prt b)).2.1,.string (rq (prt b)).2.2] 42))):=hB1.out.alloc hB1.out.size _;have had:Hid (∀j u,(lkL ((i:Int),(i:Int)+1,rq (prt b)))[j]? = some u→(w1.alloc (.cells #[.int .i64 (i:Int),.int .i64 ((i:Int)+1),.bool (rq (prt b)).1,.string (rq (prt b)).2.1,.string (rq (prt b)).2.2] 42)).cell? (Addr.add ⟨w1.heap.size,0,none⟩ j)=some u):=head_lk w1 ((i:Int),(i:Int)+1,rq (prt b)) 42;have ho2:Hid ((w1.alloc (.cells #[.int .i64 (i:Int),.int .i64 ((i:Int)+1),.bool (rq (prt b)).1,.string (rq (prt b)).2.1,.string (rq (prt b)).2.2] 42)).ownsRow B 42 5 (.slice A2 i cu) i (lksL L0)):=own_below' ho.out hB2.out;refine hK.out _ _ (HS.out _ hB2.out) (fun _=>?_);clear hK K
       try simp only[Act.put,List.setIfInBounds_toArray,List.set_cons_zero,List.set_cons_succ]
       refine wpAnyH_ready (rs:=[15]) (by kernel_rfl) (by simp) ?_;refine AllReadyH.cons (o:=_) rfl (fun K hK=>?_) ?_
       · rw [if_pos (by rfl)];refine wp_append_own _ _ _ 23 rfl B 42 i0 zeroL 5 56 Tryz.underlying23 hi0.out hz0.out hz1.out hz2.out rfl (by decide) (.slice A2 i cu) i (lksL L0) rfl ho2.out ⟨w1.heap.size,0,none⟩ 1 1 (lkL ((i:Int),(i:Int)+1,rq (prt b))) rfl rfl had.out (one_lk _) (by unfold maxLen;omega) (by omega) (Nat.le_trans hB hB2.out.size) ?_;intro vb wb hob hgb _;have hcast:((i+1:Nat):Int)=(i:Int)+1:=by omega
         rw[←hcast,←lksL_snoc]at hob;obtain⟨Az,cz,rfl⟩:=own_form5 hob;have hXb:Hid (Bk wb xb 25 [s0,.slice A2 i cu,s2]):=(hX.out.below hB2.out).grown hgb (fun e=>by have:=(ho2.out.lt xb e.symm).1;omega);have hkp:Hid (∀k,k<B→wb.heap[k]? = w.heap[k]?):=fun k hk=>(hgb.block k (Nat.lt_of_lt_of_le hk (Nat.le_trans hB hB2.out.size)) (fun e=>by have:=(ho2.out.lt k e.symm).1;omega)).trans (hB2.out.block k (Nat.lt_of_lt_of_le hk hB));have hos:Hid (wb.os=w.os∧wb.tape=w.tape∧wb.output=w.output∧w.heap.size≤wb.heap.size):=⟨hgb.os.trans hB2.out.os,hgb.tape.trans hB2.out.tape,hgb.output.trans hB2.out.output,Nat.le_trans hB2.out.size hgb.size⟩;have hcb:Hid (wb.cell? ⟨ab,ao+i,none⟩=some (.int .u8 (b:Int))):=(World.cell?_of_block (a:=⟨ab,ao+i,none⟩) (hkp.out ab haB)).trans ha;replace hob:=Lib.hid hob;clear hgb hcast;refine hK.out _ _ (hcb.out) (fun _=>?_);clear hK K
         try simp only[Act.put,List.setIfInBounds_toArray]
         refine wpAnyH_take (i:=16) (oi:=_) (v:=?_) rfl (by kernel_rfl) (by kernel_rfl) (by kernel_rfl) (fun _ _ _ h=>h) (Or.inl ⟨by rfl,?_⟩) (hcb.out) ?_;rotate_left
         · (intro w hSw;obtain q1:=hSw;go_simp<;>with_reducible rfl)
         try simp only[Act.put]
         have x1:=hXb.out.cell (j:=1) rfl;have x9:=hXb.out.lt;have xf:=hXb.out.frozen 1;have hXf:Hid (Bk (wb.setCell ⟨xb,1,none⟩ (.slice Az (i+1) cz)) xb 25 [s0,.slice Az (i+1) cz,s2]):=hXb.out.set 1 _;have hof:Hid ((wb.setCell ⟨xb,1,none⟩ (.slice Az (i+1) cz)).ownsRow B 42 5 (.slice Az (i+1) cz) (i+1) (lksL (L0++[((i:Int),((i+1:Nat):Int),rq (prt b))]))):=Nt.own_far hob.out (fun e=>by have:=(hob.out.lt xb e).1;omega);have hkf:Hid (∀k,k<B→k≠xb→(wb.setCell ⟨xb,1,none⟩ (.slice Az (i+1) cz)).heap[k]? = w.heap[k]?):=fun k hk hx=>(Below.heap_setCell _ _ _ _ hx).trans (hkp.out k hk);have hsf:Hid ((wb.setCell ⟨xb,1,none⟩ (.slice Az (i+1) cz)).os=w.os∧(wb.setCell ⟨xb,1,none⟩ (.slice Az (i+1) cz)).tape=w.tape∧(wb.setCell ⟨xb,1,none⟩ (.slice Az (i+1) cz)).output=w.output∧w.heap.size≤(wb.setCell ⟨xb,1,none⟩ (.slice Az (i+1) cz)).heap.size):=⟨hos.out.1,hos.out.2.1,hos.out.2.2.1,by simpa using hos.out.2.2.2⟩;refine wpAnyH_ready (rs:=[17]) (by kernel_rfl) (by simp) ?_;refine AllReadyH.cons (o:=_) rfl (fun K hK=>?_) ?_
         · go_simp;refine hK.out _ _ ((World.cell?_of_block (a:=⟨ab,ao+i,none⟩) (hkf.out ab haB hax)).trans ha) (fun _=>?_);clear hK K
           try simp only[Act.put,List.setIfInBounds_toArray,List.set_cons_zero,List.set_cons_succ]
           refine wpAnyH_done (by kernel_rfl) ?_ _;refine NoPanic.normal ?_;exact h.out _ _ _ _ _ _ _ _ _ _ _ _ _ _ _ _ _ _ _ _ hXf hof hkf hsf
         exact AllReadyH.nil
       exact AllReadyH.nil
     exact AllReadyH.nil
   exact AllReadyH.nil
 refine AllReadyH.cons (o:=_) rfl (fun K hK=>?_) ?_
 · go_simp;refine(kp.out _ (hE.out.below hD.out)).mono ?_;rintro e w1 ⟨rfl,hb1⟩;have hB1:=Lib.hid (hD.out.trans (hb1.mono hD.out.size));clear hb1;refine hK.out _ _ (HS.out _ hB1.out) (fun _=>?_);clear hK K
   try simp only[Act.put,List.setIfInBounds_toArray,List.set_cons_zero,List.set_cons_succ]
   refine wpAnyH_take (i:=13) (oi:=_) (v:=?_) rfl (by kernel_rfl) (by kernel_rfl) (by kernel_rfl) (fun _ _ _ h=>h) (Or.inl ⟨by rfl,?_⟩) (HS.out _ hB1.out) ?_;rotate_left
   · (intro w hSw;obtain q1:=hSw;go_simp<;>with_reducible rfl)
   try simp only[Act.put,List.setIfInBounds_toArray]
   refine wpAnyH_ready (rs:=[1,14]) (by kernel_rfl) (by simp) ?_;refine AllReadyH.cons (o:=_) rfl (fun K hK=>?_) ?_
   · have x1:=(hX.out.below hB1.out).cell (j:=1) rfl;have x9:=(hX.out.below hB1.out).lt;go_simp;refine hK.out _ _ (HS.out _ hB1.out) (fun _=>?_);clear hK K
     try simp only[Act.put,List.setIfInBounds_toArray,List.set_cons_zero,List.set_cons_succ]
     clear x1 x9;refine wpAnyH_ready (rs:=[14]) (by kernel_rfl) (by simp) ?_;refine AllReadyH.cons (o:=_) rfl (fun K hK=>?_) ?_
     · go_simp;have hB2:Hid (Below w.heap.size w (w1.alloc (.cells #[.int .i64 (i:Int),.int .i64 ((i:Int)+1),.bool (rq (prt b)).1,.string (rq (prt b)).2.1,.string (rq (prt b)).2.2] 42))):=hB1.out.alloc hB1.out.size _;have had:Hid (∀j u,(lkL ((i:Int),(i:Int)+1,rq (prt b)))[j]? = some u→(w1.alloc (.cells #[.int .i64 (i:Int),.int .i64 ((i:Int)+1),.bool (rq (prt b)).1,.string (rq (prt b)).2.1,.string (rq (prt b)).2.2] 42)).cell? (Addr.add ⟨w1.heap.size,0,none⟩ j)=some u):=head_lk w1 ((i:Int),(i:Int)+1,rq (prt b)) 42;have ho2:Hid ((w1.alloc (.cells #[.int .i64 (i:Int),.int .i64 ((i:Int)+1),.bool (rq (prt b)).1,.string (rq (prt b)).2.1,.string (rq (prt b)).2.2] 42)).ownsRow B 42 5 (.slice A2 i cu) i (lksL L0)):=own_below' ho.out hB2.out;refine hK.out _ _ (HS.out _ hB2.out) (fun _=>?_);clear hK K
       try simp only[Act.put,List.setIfInBounds_toArray,List.set_cons_zero,List.set_cons_succ]
       refine wpAnyH_ready (rs:=[15]) (by kernel_rfl) (by simp) ?_;refine AllReadyH.cons (o:=_) rfl (fun K hK=>?_) ?_
       · rw [if_pos (by rfl)];refine wp_append_own _ _ _ 23 rfl B 42 i0 zeroL 5 56 Tryz.underlying23 hi0.out hz0.out hz1.out hz2.out rfl (by decide) (.slice A2 i cu) i (lksL L0) rfl ho2.out ⟨w1.heap.size,0,none⟩ 1 1 (lkL ((i:Int),(i:Int)+1,rq (prt b))) rfl rfl had.out (one_lk _) (by unfold maxLen;omega) (by omega) (Nat.le_trans hB hB2.out.size) ?_;intro vb wb hob hgb _;have hcast:((i+1:Nat):Int)=(i:Int)+1:=by omega
         rw[←hcast,←lksL_snoc]at hob;obtain⟨Az,cz,rfl⟩:=own_form5 hob;have hXb:Hid (Bk wb xb 25 [s0,.slice A2 i cu,s2]):=(hX.out.below hB2.out).grown hgb (fun e=>by have:=(ho2.out.lt xb e.symm).1;omega);have hkp:Hid (∀k,k<B→wb.heap[k]? = w.heap[k]?):=fun k hk=>(hgb.block k (Nat.lt_of_lt_of_le hk (Nat.le_trans hB hB2.out.size)) (fun e=>by have:=(ho2.out.lt k e.symm).1;omega)).trans (hB2.out.block k (Nat.lt_of_lt_of_le hk hB));have hos:Hid (wb.os=w.os∧wb.tape=w.tape∧wb.output=w.output∧w.heap.size≤wb.heap.size):=⟨hgb.os.trans hB2.out.os,hgb.tape.trans hB2.out.tape,hgb.output.trans hB2.out.output,Nat.le_trans hB2.out.size hgb.size⟩;have hcb:Hid (wb.cell? ⟨ab,ao+i,none⟩=some (.int .u8 (b:Int))):=(World.cell?_of_block (a:=⟨ab,ao+i,none⟩) (hkp.out ab haB)).trans ha;replace hob:=Lib.hid hob;clear hgb hcast;refine hK.out _ _ (hcb.out) (fun _=>?_);clear hK K
         try simp only[Act.put,List.setIfInBounds_toArray]
         refine wpAnyH_take (i:=16) (oi:=_) (v:=?_) rfl (by kernel_rfl) (by kernel_rfl) (by kernel_rfl) (fun _ _ _ h=>h) (Or.inl ⟨by rfl,?_⟩) (hcb.out) ?_;rotate_left
         · (intro w hSw;obtain q1:=hSw;go_simp<;>with_reducible rfl)
         try simp only[Act.put]
         have x1:=hXb.out.cell (j:=1) rfl;have x9:=hXb.out.lt;have xf:=hXb.out.frozen 1;have hXf:Hid (Bk (wb.setCell ⟨xb,1,none⟩ (.slice Az (i+1) cz)) xb 25 [s0,.slice Az (i+1) cz,s2]):=hXb.out.set 1 _;have hof:Hid ((wb.setCell ⟨xb,1,none⟩ (.slice Az (i+1) cz)).ownsRow B 42 5 (.slice Az (i+1) cz) (i+1) (lksL (L0++[((i:Int),((i+1:Nat):Int),rq (prt b))]))):=Nt.own_far hob.out (fun e=>by have:=(hob.out.lt xb e).1;omega);have hkf:Hid (∀k,k<B→k≠xb→(wb.setCell ⟨xb,1,none⟩ (.slice Az (i+1) cz)).heap[k]? = w.heap[k]?):=fun k hk hx=>(Below.heap_setCell _ _ _ _ hx).trans (hkp.out k hk);have hsf:Hid ((wb.setCell ⟨xb,1,none⟩ (.slice Az (i+1) cz)).os=w.os∧(wb.setCell ⟨xb,1,none⟩ (.slice Az (i+1) cz)).tape=w.tape∧(wb.setCell ⟨xb,1,none⟩ (.slice Az (i+1) cz)).output=w.output∧w.heap.size≤(wb.setCell ⟨xb,1,none⟩ (.slice Az (i+1) cz)).heap.size):=⟨hos.out.1,hos.out.2.1,hos.out.2.2.1,by simpa using hos.out.2.2.2⟩;refine wpAnyH_ready (rs:=[17]) (by kernel_rfl) (by simp) ?_;refine AllReadyH.cons (o:=_) rfl (fun K hK=>?_) ?_
         · go_simp;refine hK.out _ _ ((World.cell?_of_block (a:=⟨ab,ao+i,none⟩) (hkf.out ab haB hax)).trans ha) (fun _=>?_);clear hK K
           try simp only[Act.put,List.setIfInBounds_toArray,List.set_cons_zero,List.set_cons_succ]
           refine wpAnyH_done (by kernel_rfl) ?_ _;refine NoPanic.normal ?_;exact h.out _ _ _ _ _ _ _ _ _ _ _ _ _ _ _ _ _ _ _ _ hXf hof hkf hsf
         exact AllReadyH.nil
       exact AllReadyH.nil
     exact AllReadyH.nil
   refine AllReadyH.cons (o:=_) rfl (fun K hK=>?_) ?_
   · go_simp;have hB2:Hid (Below w.heap.size w (w1.alloc (.cells #[.int .i64 (i:Int),.int .i64 ((i:Int)+1),.bool (rq (prt b)).1,.string (rq (prt b)).2.1,.string (rq (prt b)).2.2] 42))):=hB1.out.alloc hB1.out.size _;have had:Hid (∀j u,(lkL ((i:Int),(i:Int)+1,rq (prt b)))[j]? = some u→(w1.alloc (.cells #[.int .i64 (i:Int),.int .i64 ((i:Int)+1),.bool (rq (prt b)).1,.string (rq (prt b)).2.1,.string (rq (prt b)).2.2] 42)).cell? (Addr.add ⟨w1.heap.size,0,none⟩ j)=some u):=head_lk w1 ((i:Int),(i:Int)+1,rq (prt b)) 42;have ho2:Hid ((w1.alloc (.cells #[.int .i64 (i:Int),.int .i64 ((i:Int)+1),.bool (rq (prt b)).1,.string (rq (prt b)).2.1,.string (rq (prt b)).2.2] 42)).ownsRow B 42 5 (.slice A2 i cu) i (lksL L0)):=own_below' ho.out hB2.out;refine hK.out _ _ (HS.out _ hB2.out) (fun _=>?_);clear hK K
     try simp only[Act.put,List.setIfInBounds_toArray,List.set_cons_zero,List.set_cons_succ]
     refine wpAnyH_ready (rs:=[1]) (by kernel_rfl) (by simp) ?_;refine AllReadyH.cons (o:=_) rfl (fun K hK=>?_) ?_
     · have x1:=(hX.out.below hB2.out).cell (j:=1) rfl;have x9:=(hX.out.below hB2.out).lt;go_simp;refine hK.out _ _ (HS.out _ hB2.out) (fun _=>?_);clear hK K
       try simp only[Act.put,List.setIfInBounds_toArray,List.set_cons_zero,List.set_cons_succ]
       clear x1 x9;refine wpAnyH_ready (rs:=[15]) (by kernel_rfl) (by simp) ?_;refine AllReadyH.cons (o:=_) rfl (fun K hK=>?_) ?_
       · rw [if_pos (by rfl)];refine wp_append_own _ _ _ 23 rfl B 42 i0 zeroL 5 56 Tryz.underlying23 hi0.out hz0.out hz1.out hz2.out rfl (by decide) (.slice A2 i cu) i (lksL L0) rfl ho2.out ⟨w1.heap.size,0,none⟩ 1 1 (lkL ((i:Int),(i:Int)+1,rq (prt b))) rfl rfl had.out (one_lk _) (by unfold maxLen;omega) (by omega) (Nat.le_trans hB hB2.out.size) ?_;intro vb wb hob hgb _;have hcast:((i+1:Nat):Int)=(i:Int)+1:=by omega
         rw[←hcast,←lksL_snoc]at hob;obtain⟨Az,cz,rfl⟩:=own_form5 hob;have hXb:Hid (Bk wb xb 25 [s0,.slice A2 i cu,s2]):=(hX.out.below hB2.out).grown hgb (fun e=>by have:=(ho2.out.lt xb e.symm).1;omega);have hkp:Hid (∀k,k<B→wb.heap[k]? = w.heap[k]?):=fun k hk=>(hgb.block k (Nat.lt_of_lt_of_le hk (Nat.le_trans hB hB2.out.size)) (fun e=>by have:=(ho2.out.lt k e.symm).1;omega)).trans (hB2.out.block k (Nat.lt_of_lt_of_le hk hB));have hos:Hid (wb.os=w.os∧wb.tape=w.tape∧wb.output=w.output∧w.heap.size≤wb.heap.size):=⟨hgb.os.trans hB2.out.os,hgb.tape.trans hB2.out.tape,hgb.output.trans hB2.out.output,Nat.le_trans hB2.out.size hgb.size⟩;have hcb:Hid (wb.cell? ⟨ab,ao+i,none⟩=some (.int .u8 (b:Int))):=(World.cell?_of_block (a:=⟨ab,ao+i,none⟩) (hkp.out ab haB)).trans ha;replace hob:=Lib.hid hob;clear hgb hcast;refine hK.out _ _ (hcb.out) (fun _=>?_);clear hK K
         try simp only[Act.put,List.setIfInBounds_toArray]
         refine wpAnyH_take (i:=16) (oi:=_) (v:=?_) rfl (by kernel_rfl) (by kernel_rfl) (by kernel_rfl) (fun _ _ _ h=>h) (Or.inl ⟨by rfl,?_⟩) (hcb.out) ?_;rotate_left
         · (intro w hSw;obtain q1:=hSw;go_simp<;>with_reducible rfl)
         try simp only[Act.put]
         have x1:=hXb.out.cell (j:=1) rfl;have x9:=hXb.out.lt;have xf:=hXb.out.frozen 1;have hXf:Hid (Bk (wb.setCell ⟨xb,1,none⟩ (.slice Az (i+1) cz)) xb 25 [s0,.slice Az (i+1) cz,s2]):=hXb.out.set 1 _;have hof:Hid ((wb.setCell ⟨xb,1,none⟩ (.slice Az (i+1) cz)).ownsRow B 42 5 (.slice Az (i+1) cz) (i+1) (lksL (L0++[((i:Int),((i+1:Nat):Int),rq (prt b))]))):=Nt.own_far hob.out (fun e=>by have:=(hob.out.lt xb e).1;omega);have hkf:Hid (∀k,k<B→k≠xb→(wb.setCell ⟨xb,1,none⟩ (.slice Az (i+1) cz)).heap[k]? = w.heap[k]?):=fun k hk hx=>(Below.heap_setCell _ _ _ _ hx).trans (hkp.out k hk);have hsf:Hid ((wb.setCell ⟨xb,1,none⟩ (.slice Az (i+1) cz)).os=w.os∧(wb.setCell ⟨xb,1,none⟩ (.slice Az (i+1) cz)).tape=w.tape∧(wb.setCell ⟨xb,1,none⟩ (.slice Az (i+1) cz)).output=w.output∧w.heap.size≤(wb.setCell ⟨xb,1,none⟩ (.slice Az (i+1) cz)).heap.size):=⟨hos.out.1,hos.out.2.1,hos.out.2.2.1,by simpa using hos.out.2.2.2⟩;refine wpAnyH_ready (rs:=[17]) (by kernel_rfl) (by simp) ?_;refine AllReadyH.cons (o:=_) rfl (fun K hK=>?_) ?_
         · go_simp;refine hK.out _ _ ((World.cell?_of_block (a:=⟨ab,ao+i,none⟩) (hkf.out ab haB hax)).trans ha) (fun _=>?_);clear hK K
           try simp only[Act.put,List.setIfInBounds_toArray,List.set_cons_zero,List.set_cons_succ]
           refine wpAnyH_done (by kernel_rfl) ?_ _;refine NoPanic.normal ?_;exact h.out _ _ _ _ _ _ _ _ _ _ _ _ _ _ _ _ _ _ _ _ hXf hof hkf hsf
         exact AllReadyH.nil
       exact AllReadyH.nil
     exact AllReadyH.nil
   exact AllReadyH.nil
 exact AllReadyH.nil
end Sh
end Go.Proofs.YtioidbebjgeahaaGreatDoor

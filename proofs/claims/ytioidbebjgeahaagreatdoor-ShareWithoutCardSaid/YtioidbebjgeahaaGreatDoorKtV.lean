/- Texts that the proof needs: ShaWReg. -/
import Derived.Test.YtioidbebjgeahaaGreatDoorKtA
import Derived.Test.YtioidbebjgeahaaGreatDoorKtB
import Derived.Test.YtioidbebjgeahaaGreatDoorKtC
import Derived.Test.YtioidbebjgeahaaGreatDoorKtD
import Derived.Test.YtioidbebjgeahaaGreatDoorKtE
import Derived.Test.YtioidbebjgeahaaGreatDoorKtF
import Derived.Test.YtioidbebjgeahaaGreatDoorKtG
import Derived.Test.YtioidbebjgeahaaGreatDoorKtH
import Derived.Test.YtioidbebjgeahaaGreatDoorKtI
import Derived.Test.YtioidbebjgeahaaGreatDoorKtU
set_option maxHeartbeats 16000000
set_option maxRecDepth 1000000
namespace Go.Proofs.YtioidbebjgeahaaGreatDoor
open Go.RowKit Go.Shelf
namespace Sh
open Nt Ci
theorem addr_add (b o j:Nat):((⟨b,o,none⟩:Addr).add j)=⟨b,o+j,none⟩:=by unfold Addr.add;split<;>simp_all
theorem lks_cells {W:World} {lb lo:Nat} {l:List Lk} (h:InLk W (some ⟨lb,lo,none⟩) l) (i m u:Nat) (v:Value) (hv:(lksL ((l.drop i).take m))[u]? = some v):W.cell? ((⟨lb,lo+i*5,none⟩:Addr).add u)=some v:=by
 have hu:u<(lksL ((l.drop i).take m)).length:=(List.getElem?_eq_some_iff.1 hv).1;rw[lksL_length]at hu;have hq:u/5<((l.drop i).take m).length:=by omega
 have h1:=lksL_get _ (u/5) (u%5) hq (by omega);rw[show u/5*5+u%5=u by omega,hv]at h1;have hq2:=hq;rw[List.length_take,List.length_drop]at hq2;have hi:i+u/5<l.length:=by omega
 obtain⟨b,o,e,_,hc⟩:=h (by omega);simp only[Option.some.injEq,Addr.mk.injEq,and_true]at e;obtain⟨rfl,rfl⟩:=e;rw[List.getElem_take,List.getElem_drop]at h1;obtain⟨c0,c1,c2,c3,c4⟩:=hc (i+u/5) hi;rw[addr_add];have h5:u%5=0∨u%5=1∨u%5=2∨u%5=3∨u%5=4:=by omega
 rcases h5 with e | e | e | e | e
 · rw[e]at h1;rw[show lo+i*5+u=lo+(i+u/5)*5 by omega,c0];exact h1.symm
 · rw[e]at h1;rw[show lo+i*5+u=lo+(i+u/5)*5+1 by omega,c1];exact h1.symm
 · rw[e]at h1;rw[show lo+i*5+u=lo+(i+u/5)*5+2 by omega,c2];exact h1.symm
 · rw[e]at h1;rw[show lo+i*5+u=lo+(i+u/5)*5+3 by omega,c3];exact h1.symm
 · rw[e]at h1;rw[show lo+i*5+u=lo+(i+u/5)*5+4 by omega,c4];exact h1.symm
theorem lks_one (l:List Lk):∀u∈lksL l,u.oneCell'=true:=by
 intro u hu;unfold lksL at hu;obtain⟨x,hx,hux⟩:=List.mem_flatten.1 hu;obtain⟨y,_,rfl⟩:=List.mem_map.1 hx;exact one_lk y u hux
theorem inLk_set {W:World} {A:Option Addr} {l:List Lk} {mb o:Nat} {t:TypeId} {cs:List Value} {v:Value} (h:InLk W A l) (hM:Bk W mb t cs) (hc:∀x∈cs,∀z,x≠.int .i64 z):InLk (W.setCell ⟨mb,o,none⟩ v) A l:=fun h0=>by
 obtain⟨b,off,e,hl,hx⟩:=h h0
 have hb:b≠mb:=fun e2=>by
  subst e2;have h1:=(hx 0 h0).1;have h2:W.heap[b]? = some (.cells cs.toArray t (0,0)):=hM;simp only[World.cell?,h2]at h1;have h3:=List.mem_of_getElem? (by simpa using h1:cs[off+0*5]? = some _);exact hc _ h3 _ rfl
 have hbl:(W.setCell ⟨mb,o,none⟩ v).heap[b]? = W.heap[b]?:=Below.heap_setCell _ _ _ _ hb
 exact ⟨b,off,e,by simpa using hl,fun j hj=>by
  obtain⟨c0,c1,c2,c3,c4⟩:=hx j hj;exact⟨(World.cell?_of_block (a:=⟨b,_,none⟩) hbl).trans c0,(World.cell?_of_block (a:=⟨b,_,none⟩) hbl).trans c1,(World.cell?_of_block (a:=⟨b,_,none⟩) hbl).trans c2,(World.cell?_of_block (a:=⟨b,_,none⟩) hbl).trans c3,(World.cell?_of_block (a:=⟨b,_,none⟩) hbl).trans c4⟩⟩
theorem lksL_append (l m:List Lk):lksL (l++m)=lksL l++lksL m:=by unfold lksL;rw[List.map_append,List.flatten_append]
noncomputable def swR (j:Nat):Code:=((Tryz.f9.body.map Ci.regsOf).bind fun l=>l.find? (isRegS j)).getD .skip
theorem sw9 {c0 c1 c2 c4 c5 c6 c7 c8 c9 c12 c13 c14 c15 c16 c17 c18 c19 c20 c21 c22 c23 c24 c25 c26 c27 c28 c29 c30 c31 c32 c33 c34 c35 c36 c37 c38 c39 c40 c41 c42 c43 c44 c45 c46 c60 c61 c62 c63 c64 c65 c66 c67 c68 c69 c70 c71 c72 c73 c74 c75 c76 c77 c78 c79 c80 c81 c82 c83 c84 c85 c86 c87 c88 c89 c90 c91 c92 c93 c94 c95 c96 a47 a48 a49 a50 a51 a52 a53 a54 a55 a56 a57 a58 a59:Value} {Q:Exit→Act→World→Prop} (sb mb lb lo np cp cc nv cv k:Nat) (Ap Av:Option Addr) (l:List Lk) (w:World) (hS:Bk w sb 25 [.slice Ap np cp,.slice (some ⟨lb,lo,none⟩) l.length cc,.slice Av nv cv]) (hM:Bk w mb 25 [.slice Ap np cp,.slice (some ⟨lb,lo,none⟩) l.length cc,.slice Av nv cv]) (hl:InLk w (some ⟨lb,lo,none⟩) l) (hk:k<l.length) (hc:l.length≤cc) (hm:l.length≤300) (hne:sb≠mb)
 (h:∀(u47 u48 u49 u50 u51 u52 u53 u54 u55 u56 u57 u58 u59:Value) (W:World) (Az:Option Addr) (cz:Nat) (_:Hid (Kp [mb] w W)) (_:Hid (Bk W mb 25 [.slice Ap np cp,.slice Az (l.eraseIdx k).length cz,.slice Av nv cv])) (_:Hid (InLk W Az (l.eraseIdx k))),Q .normal ⟨#[c0,c1,c2,.pointer (some ⟨sb,0,none⟩),c4,c5,c6,c7,c8,c9,.int .i64 (k:Int),.pointer (some ⟨mb,0,none⟩),c12,c13,c14,c15,c16,c17,c18,c19,c20,c21,c22,c23,c24,c25,c26,c27,c28,c29,c30,c31,c32,c33,c34,c35,c36,c37,c38,c39,c40,c41,c42,c43,c44,c45,c46,u47,u48,u49,u50,u51,u52,u53,u54,u55,u56,u57,u58,u59,c60,c61,c62,c63,c64,c65,c66,c67,c68,c69,c70,c71,c72,c73,c74,c75,c76,c77,c78,c79,c80,c81,c82,c83,c84,c85,c86,c87,c88,c89,c90,c91,c92,c93,c94,c95,c96],[]⟩ W) :
 Code.wp Tryz.prog (swR 9) Q ⟨#[c0,c1,c2,.pointer (some ⟨sb,0,none⟩),c4,c5,c6,c7,c8,c9,.int .i64 (k:Int),.pointer (some ⟨mb,0,none⟩),c12,c13,c14,c15,c16,c17,c18,c19,c20,c21,c22,c23,c24,c25,c26,c27,c28,c29,c30,c31,c32,c33,c34,c35,c36,c37,c38,c39,c40,c41,c42,c43,c44,c45,c46,a47,a48,a49,a50,a51,a52,a53,a54,a55,a56,a57,a58,a59,c60,c61,c62,c63,c64,c65,c66,c67,c68,c69,c70,c71,c72,c73,c74,c75,c76,c77,c78,c79,c80,c81,c82,c83,c84,c85,c86,c87,c88,c89,c90,c91,c92,c93,c94,c95,c96],[]⟩ w:=by
 conv=>arg 2;whnf
 conv=>arg 4;zeta
 replace h:=Lib.hid h;have hml:Hid (mb<w.heap.size):=hM.lt;have hS1:Hid (∀W,Below w.heap.size w W→W.cell? ⟨sb,1,none⟩=some (.slice (some ⟨lb,lo,none⟩) l.length cc)):=fun W h=>(hS.below h).cell (j:=1) rfl;have hcell:Hid (∀W,Below w.heap.size w W→∀i j u,(lksL ((l.drop i).take j))[u]? = none∨∀v,(lksL ((l.drop i).take j))[u]? = some v→W.cell? ((⟨lb,lo+i*5,none⟩:Addr).add u)=some v):=fun W h i j u=>.inr fun v hv=>lks_cells (hl.below h) i j u v hv;obtain⟨i0,hi0,hzz⟩:=Option.map_eq_some_iff.1 infoL;simp only[Prod.mk.injEq]at hzz;obtain⟨hz0i,hz1,hz2⟩:=hzz;replace hi0:=Lib.hid hi0;replace hz0i:=Lib.hid hz0i;replace hz1:=Lib.hid hz1;replace hz2:=Lib.hid hz2;have hlt:(l.take k).length=k:=by rw[List.length_take];omega
 have hld:(l.drop (k+1)).length=l.length-(k+1):=List.length_drop ..;have her:l.eraseIdx k=l.take k++l.drop (k+1):=List.eraseIdx_eq_take_drop_succ ..;have j0:(0:Int)≤(k:Int):=by omega
 have j1:(k:Int)≤(l.length:Int):=by omega
 have j2:(k:Int)≤(cc:Int):=by omega
 have j3:(k:Int)+1≤(l.length:Int):=by omega
 have j4:(l.length:Int)≤(cc:Int):=by omega
 have j5:(0:Int)≤(k:Int)+1:=by omega
 have j6:((k:Int)+1).toNat=k+1:=by omega
 have j7:IntKind.i64.wrap ((k:Int)+1)=(k:Int)+1:=IntWalk.i64_in _ (by omega);replace hS:=Lib.hid hS;replace hl:=Lib.hid hl;replace hlt:=Lib.hid hlt;replace hld:=Lib.hid hld;replace her:=Lib.hid her;replace hc:=Lib.hid hc
 by_cases hce:cc=k+1
 · have hz0:Hid (l.length≤k+1):=by have:=hc.out;unfold Hid;omega
   have hce2:(cc=k+1)=True:=by simp[hce]
   replace hce:=Lib.hid hce;refine wp_region_noPanic ?_;refine wp_region_held_drew (S:=fun W=>W.cell? ⟨sb,1,none⟩=some (.slice (some ⟨lb,lo,none⟩) l.length cc)) (by kernel_rfl) (hS1.out _ (Below.refl _ w).drew) (fun hS0=>?_);replace hS0:=Lib.hid hS0;refine wpAnyH_take (i:=1) (oi:=_) (v:=?_) rfl (by kernel_rfl) (by kernel_rfl) (by kernel_rfl) (fun _ _ _ h=>h) (Or.inl ⟨by rfl,?_⟩) (hS0.out) ?_;rotate_left
   · (intro w hSw;obtain q1:=hSw;go_simp<;>with_reducible rfl)
   try simp only[Act.put,List.setIfInBounds_toArray]
   refine wpAnyH_take (i:=2) (oi:=_) (v:=?_) rfl (by kernel_rfl) (by kernel_rfl) (by kernel_rfl) (fun _ _ _ h=>h) (Or.inl ⟨by rfl,?_⟩) (hS0.out) ?_;rotate_left
   · (intro w hSw;obtain q1:=hSw;go_simp<;>with_reducible rfl)
   try simp only[Act.put]
   refine wpAnyH_take (i:=3) (oi:=_) (v:=?_) rfl (by kernel_rfl) (by kernel_rfl) (by kernel_rfl) (fun _ _ _ h=>h) (Or.inl ⟨by rfl,?_⟩) (hS0.out) ?_;rotate_left
   · (intro w hSw;obtain q1:=hSw;go_simp<;>with_reducible rfl)
   try simp only[Act.put]
   refine wpAnyH_take (i:=4) (oi:=_) (v:=?_) rfl (by kernel_rfl) (by kernel_rfl) (by kernel_rfl) (fun _ _ _ h=>h) (Or.inl ⟨by rfl,?_⟩) (hS0.out) ?_;rotate_left
   · (intro w hSw;obtain q1:=hSw;go_simp<;>with_reducible rfl)
   try simp only[Act.put]
   refine wpAnyH_take (i:=6) (oi:=_) (v:=?_) rfl (by kernel_rfl) (by kernel_rfl) (by kernel_rfl) (fun _ _ _ h=>h) (Or.inl ⟨by rfl,?_⟩) (hS0.out) ?_;rotate_left
   · (intro w hSw;obtain q1:=hSw;go_simp<;>with_reducible rfl)
   try simp only[Act.put]
   refine wpAnyH_take (i:=7) (oi:=_) (v:=?_) rfl (by kernel_rfl) (by kernel_rfl) (by kernel_rfl) (fun _ _ _ h=>h) (Or.inl ⟨by rfl,?_⟩) (hS0.out) ?_;rotate_left
   · (intro w hSw;obtain q1:=hSw;go_simp<;>with_reducible rfl)
   try simp only[Act.put]
   refine wpAnyH_take (i:=8) (oi:=_) (v:=?_) rfl (by kernel_rfl) (by kernel_rfl) (by kernel_rfl) (fun _ _ _ h=>h) (Or.inl ⟨by rfl,?_⟩) (hS0.out) ?_;rotate_left
   · (intro w hSw;obtain q1:=hSw;go_simp<;>with_reducible rfl)
   try simp only[Act.put]
   refine wpAnyH_take (i:=9) (oi:=_) (v:=?_) rfl (by kernel_rfl) (by kernel_rfl) (by kernel_rfl) (fun _ _ _ h=>h) (Or.inl ⟨by rfl,?_⟩) (hS0.out) ?_;rotate_left
   · (intro w hSw;obtain q1:=hSw;go_simp<;>with_reducible rfl)
   try simp only[Act.put]
   refine wpAnyH_take (i:=10) (oi:=_) (v:=?_) rfl (by kernel_rfl) (by kernel_rfl) (by kernel_rfl) (fun _ _ _ h=>h) (Or.inl ⟨by rfl,?_⟩) (hS0.out) ?_;rotate_left
   · (intro w hSw;obtain q1:=hSw;go_simp<;>with_reducible rfl)
   try simp only[Act.put]
   refine wpAnyH_ready (rs:=[0]) (by kernel_rfl) (by simp) ?_;refine AllReadyH.cons (o:=_) rfl (fun K hK=>?_) ?_
   · go_simp;have hB1:Hid (Below w.heap.size w ((w.alloc (.cells #[] 42)).drew)):=((Below.refl _ w).alloc (Nat.le_refl _) _).drew;have ho1:Hid (World.ownsRow ((w.alloc (.cells #[] 42)).drew) w.heap.size 42 5 (.slice (some ⟨w.heap.size,0,none⟩) 0 0) 0 []):=World.ownsRow_made w #[] 0 (Nat.le_refl _) (by unfold maxLen;omega) rfl;have hn1:Hid (∀j u,(lksL (l.take k))[j]? = some u→World.cell? ((w.alloc (.cells #[] 42)).drew) (Addr.add ⟨lb,lo,none⟩ j)=some u):=fun j u hj=>by have h:=lks_cells (hl.out.below hB1.out) 0 k j u (by rw[List.drop_zero];exact hj);rwa [Nat.zero_mul,Nat.add_zero]at h
     refine hK.out _ _ (hS1.out _ hB1.out) (fun _=>?_);clear hK K
     try simp only[Act.put,List.setIfInBounds_toArray,List.set_cons_zero,List.set_cons_succ]
     refine wpAnyH_ready (rs:=[5]) (by kernel_rfl) (by simp) ?_;refine AllReadyH.cons (o:=_) rfl (fun K hK=>?_) ?_
     · rw [if_pos (by rfl)];refine wp_append_own _ _ _ 23 rfl w.heap.size 42 i0 zeroL 5 56 Tryz.underlying23 hi0.out hz0i.out hz1.out hz2.out rfl (by decide) (.slice (some ⟨w.heap.size,0,none⟩) 0 0) 0 [] rfl ho1.out ⟨lb,lo,none⟩ k cc (lksL (l.take k)) rfl (by rw[lksL_length,hlt.out]) hn1.out (lks_one _) (by unfold maxLen;omega) (by omega) hB1.out.size ?_;intro va wa hoa hga _;rw[Nat.zero_add,List.nil_append]at hoa;have hBa:Hid (Below w.heap.size w wa):=hB1.out.grown hga hB1.out.size (fun b e=>by cases e;exact Nat.le_refl _);obtain⟨Aa,ca,rfl⟩:=own_form5 hoa;replace hoa:=Lib.hid hoa;clear hga ho1 hn1;have hn2:Hid (∀j u,(lksL (l.drop (k+1)))[j]? = some u→World.cell? wa (Addr.add ⟨lb,lo,none⟩ j)=some u):=fun j u hj=>by rw[List.drop_of_length_le hz0.out]at hj;cases hj
       refine hK.out _ _ (hS1.out _ hBa.out) (fun _=>?_);clear hK K
       try simp only[Act.put,List.setIfInBounds_toArray]
       refine wpAnyH_ready (rs:=[11]) (by kernel_rfl) (by simp) ?_;refine AllReadyH.cons (o:=_) rfl (fun K hK=>?_) ?_
       · rw [if_pos (by rfl)];refine wp_append_own _ _ _ 23 rfl w.heap.size 42 i0 zeroL 5 56 Tryz.underlying23 hi0.out hz0i.out hz1.out hz2.out rfl (by decide) (.slice Aa k ca) k (lksL (l.take k)) rfl hoa.out ⟨lb,lo,none⟩ (l.length-(k+1)) (cc-(k+1)) (lksL (l.drop (k+1))) rfl (by rw[lksL_length,hld.out]) hn2.out (lks_one _) (by unfold maxLen;omega) (by omega) hBa.out.size ?_;intro vb wb hob hgb _;rw[←lksL_append,←her.out]at hob;have hBb:Hid (Below w.heap.size w wb):=hBa.out.grown hgb hBa.out.size (fun b e=>(hoa.out.lt b e).1);have hlen:k+(l.length-(k+1))=(l.eraseIdx k).length:=by rw[her.out,List.length_append,hlt.out,hld.out]
         rw[hlen]at hob;obtain⟨Az,cz,rfl,hin⟩:=own_lks hob;replace hin:=Lib.hid hin;clear hob hgb hn2 hoa;refine hK.out _ _ (hS1.out _ hBb.out) (fun _=>?_);clear hK K
         try simp only[Act.put]
         refine wpAnyH_take (i:=12) (oi:=_) (v:=?_) rfl (by kernel_rfl) (by kernel_rfl) (by kernel_rfl) (fun _ _ _ h=>h) (Or.inl ⟨by rfl,?_⟩) (hS1.out _ hBb.out) ?_;rotate_left
         · (intro w hSw;obtain q1:=hSw;go_simp<;>with_reducible rfl)
         try simp only[Act.put]
         have hMb:Hid (Bk wb mb 25 [.slice Ap np cp,.slice (some ⟨lb,lo,none⟩) l.length cc,.slice Av nv cv]):=hM.below hBb.out;have f1:=hMb.out.frozen 1;have m1:=hMb.out.cell (j:=1) rfl;have m9:=hMb.out.lt;have hKf:Hid (Kp [mb] w (wb.setCell ⟨mb,1,none⟩ (.slice Az (l.eraseIdx k).length cz))):=Kp.set (a:=⟨mb,1,none⟩) ((Kp.refl [mb] w).below hBb.out) _ (.inl (by simp));have hMf:Hid (Bk (wb.setCell ⟨mb,1,none⟩ (.slice Az (l.eraseIdx k).length cz)) mb 25 [.slice Ap np cp,.slice Az (l.eraseIdx k).length cz,.slice Av nv cv]):=hMb.out.set 1 _;have hIf:Hid (InLk (wb.setCell ⟨mb,1,none⟩ (.slice Az (l.eraseIdx k).length cz)) Az (l.eraseIdx k)):=inLk_set hin.out hMb.out (by intro x hx z e;subst e;simp at hx);have hSf:Hid ((wb.setCell ⟨mb,1,none⟩ (.slice Az (l.eraseIdx k).length cz)).cell? ⟨sb,1,none⟩=some (.slice (some ⟨lb,lo,none⟩) l.length cc)):=(World.cell?_of_block (a:=⟨sb,1,none⟩) (hKf.out.block sb hS.out.lt (by simpa using hne))).trans (hS.out.cell (j:=1) rfl);refine wpAnyH_ready (rs:=[13]) (by kernel_rfl) (by simp) ?_;refine AllReadyH.cons (o:=_) rfl (fun K hK=>?_) ?_
         · go_simp;refine hK.out _ _ (hSf.out) (fun _=>?_);clear hK K
           try simp only[Act.put,List.setIfInBounds_toArray,List.set_cons_zero,List.set_cons_succ]
           refine wpAnyH_done (by kernel_rfl) ?_ _;refine NoPanic.normal ?_;exact h.out _ _ _ _ _ _ _ _ _ _ _ _ _ _ _ _ hKf hMf hIf
         exact AllReadyH.nil
       exact AllReadyH.nil
     exact AllReadyH.nil
   exact AllReadyH.nil
 · have hce2:(cc=k+1)=False:=by simp[hce]
   refine wp_region_noPanic ?_;refine wp_region_held_drew (S:=fun W=>W.cell? ⟨sb,1,none⟩=some (.slice (some ⟨lb,lo,none⟩) l.length cc)) (by kernel_rfl) (hS1.out _ (Below.refl _ w).drew) (fun hS0=>?_);replace hS0:=Lib.hid hS0;refine wpAnyH_take (i:=1) (oi:=_) (v:=?_) rfl (by kernel_rfl) (by kernel_rfl) (by kernel_rfl) (fun _ _ _ h=>h) (Or.inl ⟨by rfl,?_⟩) (hS0.out) ?_;rotate_left
   · (intro w hSw;obtain q1:=hSw;go_simp<;>with_reducible rfl)
   try simp only[Act.put,List.setIfInBounds_toArray]
   refine wpAnyH_take (i:=2) (oi:=_) (v:=?_) rfl (by kernel_rfl) (by kernel_rfl) (by kernel_rfl) (fun _ _ _ h=>h) (Or.inl ⟨by rfl,?_⟩) (hS0.out) ?_;rotate_left
   · (intro w hSw;obtain q1:=hSw;go_simp<;>with_reducible rfl)
   try simp only[Act.put]
   refine wpAnyH_take (i:=3) (oi:=_) (v:=?_) rfl (by kernel_rfl) (by kernel_rfl) (by kernel_rfl) (fun _ _ _ h=>h) (Or.inl ⟨by rfl,?_⟩) (hS0.out) ?_;rotate_left
   · (intro w hSw;obtain q1:=hSw;go_simp<;>with_reducible rfl)
   try simp only[Act.put]
   refine wpAnyH_take (i:=4) (oi:=_) (v:=?_) rfl (by kernel_rfl) (by kernel_rfl) (by kernel_rfl) (fun _ _ _ h=>h) (Or.inl ⟨by rfl,?_⟩) (hS0.out) ?_;rotate_left
   · (intro w hSw;obtain q1:=hSw;go_simp<;>with_reducible rfl)
   try simp only[Act.put]
   refine wpAnyH_take (i:=6) (oi:=_) (v:=?_) rfl (by kernel_rfl) (by kernel_rfl) (by kernel_rfl) (fun _ _ _ h=>h) (Or.inl ⟨by rfl,?_⟩) (hS0.out) ?_;rotate_left
   · (intro w hSw;obtain q1:=hSw;go_simp<;>with_reducible rfl)
   try simp only[Act.put]
   refine wpAnyH_take (i:=7) (oi:=_) (v:=?_) rfl (by kernel_rfl) (by kernel_rfl) (by kernel_rfl) (fun _ _ _ h=>h) (Or.inl ⟨by rfl,?_⟩) (hS0.out) ?_;rotate_left
   · (intro w hSw;obtain q1:=hSw;go_simp<;>with_reducible rfl)
   try simp only[Act.put]
   refine wpAnyH_take (i:=8) (oi:=_) (v:=?_) rfl (by kernel_rfl) (by kernel_rfl) (by kernel_rfl) (fun _ _ _ h=>h) (Or.inl ⟨by rfl,?_⟩) (hS0.out) ?_;rotate_left
   · (intro w hSw;obtain q1:=hSw;go_simp<;>with_reducible rfl)
   try simp only[Act.put]
   refine wpAnyH_take (i:=9) (oi:=_) (v:=?_) rfl (by kernel_rfl) (by kernel_rfl) (by kernel_rfl) (fun _ _ _ h=>h) (Or.inl ⟨by rfl,?_⟩) (hS0.out) ?_;rotate_left
   · (intro w hSw;obtain q1:=hSw;go_simp<;>with_reducible rfl)
   try simp only[Act.put]
   refine wpAnyH_take (i:=10) (oi:=_) (v:=?_) rfl (by kernel_rfl) (by kernel_rfl) (by kernel_rfl) (fun _ _ _ h=>h) (Or.inl ⟨by rfl,?_⟩) (hS0.out) ?_;rotate_left
   · (intro w hSw;obtain q1:=hSw;go_simp<;>with_reducible rfl)
   try simp only[Act.put]
   refine wpAnyH_ready (rs:=[0]) (by kernel_rfl) (by simp) ?_;refine AllReadyH.cons (o:=_) rfl (fun K hK=>?_) ?_
   · go_simp;have hB1:Hid (Below w.heap.size w ((w.alloc (.cells #[] 42)).drew)):=((Below.refl _ w).alloc (Nat.le_refl _) _).drew;have ho1:Hid (World.ownsRow ((w.alloc (.cells #[] 42)).drew) w.heap.size 42 5 (.slice (some ⟨w.heap.size,0,none⟩) 0 0) 0 []):=World.ownsRow_made w #[] 0 (Nat.le_refl _) (by unfold maxLen;omega) rfl;have hn1:Hid (∀j u,(lksL (l.take k))[j]? = some u→World.cell? ((w.alloc (.cells #[] 42)).drew) (Addr.add ⟨lb,lo,none⟩ j)=some u):=fun j u hj=>by have h:=lks_cells (hl.out.below hB1.out) 0 k j u (by rw[List.drop_zero];exact hj);rwa [Nat.zero_mul,Nat.add_zero]at h
     refine hK.out _ _ (hS1.out _ hB1.out) (fun _=>?_);clear hK K
     try simp only[Act.put,List.setIfInBounds_toArray,List.set_cons_zero,List.set_cons_succ]
     refine wpAnyH_ready (rs:=[5]) (by kernel_rfl) (by simp) ?_;refine AllReadyH.cons (o:=_) rfl (fun K hK=>?_) ?_
     · rw [if_pos (by rfl)];refine wp_append_own _ _ _ 23 rfl w.heap.size 42 i0 zeroL 5 56 Tryz.underlying23 hi0.out hz0i.out hz1.out hz2.out rfl (by decide) (.slice (some ⟨w.heap.size,0,none⟩) 0 0) 0 [] rfl ho1.out ⟨lb,lo,none⟩ k cc (lksL (l.take k)) rfl (by rw[lksL_length,hlt.out]) hn1.out (lks_one _) (by unfold maxLen;omega) (by omega) hB1.out.size ?_;intro va wa hoa hga _;rw[Nat.zero_add,List.nil_append]at hoa;have hBa:Hid (Below w.heap.size w wa):=hB1.out.grown hga hB1.out.size (fun b e=>by cases e;exact Nat.le_refl _);obtain⟨Aa,ca,rfl⟩:=own_form5 hoa;replace hoa:=Lib.hid hoa;clear hga ho1 hn1;have hn2:Hid (∀j u,(lksL (l.drop (k+1)))[j]? = some u→World.cell? wa (Addr.add ⟨lb,lo+(k+1)*5,none⟩ j)=some u):=fun j u hj=>lks_cells (hl.out.below hBa.out) (k+1) l.length j u (by rw[List.take_of_length_le (by rw[hld.out];omega)];exact hj);refine hK.out _ _ (hS1.out _ hBa.out) (fun _=>?_);clear hK K
       try simp only[Act.put,List.setIfInBounds_toArray]
       refine wpAnyH_ready (rs:=[11]) (by kernel_rfl) (by simp) ?_;refine AllReadyH.cons (o:=_) rfl (fun K hK=>?_) ?_
       · rw [if_pos (by rfl)];refine wp_append_own _ _ _ 23 rfl w.heap.size 42 i0 zeroL 5 56 Tryz.underlying23 hi0.out hz0i.out hz1.out hz2.out rfl (by decide) (.slice Aa k ca) k (lksL (l.take k)) rfl hoa.out ⟨lb,lo+(k+1)*5,none⟩ (l.length-(k+1)) (cc-(k+1)) (lksL (l.drop (k+1))) rfl (by rw[lksL_length,hld.out]) hn2.out (lks_one _) (by unfold maxLen;omega) (by omega) hBa.out.size ?_;intro vb wb hob hgb _;rw[←lksL_append,←her.out]at hob;have hBb:Hid (Below w.heap.size w wb):=hBa.out.grown hgb hBa.out.size (fun b e=>(hoa.out.lt b e).1);have hlen:k+(l.length-(k+1))=(l.eraseIdx k).length:=by rw[her.out,List.length_append,hlt.out,hld.out]
         rw[hlen]at hob;obtain⟨Az,cz,rfl,hin⟩:=own_lks hob;replace hin:=Lib.hid hin;clear hob hgb hn2 hoa;refine hK.out _ _ (hS1.out _ hBb.out) (fun _=>?_);clear hK K
         try simp only[Act.put]
         refine wpAnyH_take (i:=12) (oi:=_) (v:=?_) rfl (by kernel_rfl) (by kernel_rfl) (by kernel_rfl) (fun _ _ _ h=>h) (Or.inl ⟨by rfl,?_⟩) (hS1.out _ hBb.out) ?_;rotate_left
         · (intro w hSw;obtain q1:=hSw;go_simp<;>with_reducible rfl)
         try simp only[Act.put]
         have hMb:Hid (Bk wb mb 25 [.slice Ap np cp,.slice (some ⟨lb,lo,none⟩) l.length cc,.slice Av nv cv]):=hM.below hBb.out;have f1:=hMb.out.frozen 1;have m1:=hMb.out.cell (j:=1) rfl;have m9:=hMb.out.lt;have hKf:Hid (Kp [mb] w (wb.setCell ⟨mb,1,none⟩ (.slice Az (l.eraseIdx k).length cz))):=Kp.set (a:=⟨mb,1,none⟩) ((Kp.refl [mb] w).below hBb.out) _ (.inl (by simp));have hMf:Hid (Bk (wb.setCell ⟨mb,1,none⟩ (.slice Az (l.eraseIdx k).length cz)) mb 25 [.slice Ap np cp,.slice Az (l.eraseIdx k).length cz,.slice Av nv cv]):=hMb.out.set 1 _;have hIf:Hid (InLk (wb.setCell ⟨mb,1,none⟩ (.slice Az (l.eraseIdx k).length cz)) Az (l.eraseIdx k)):=inLk_set hin.out hMb.out (by intro x hx z e;subst e;simp at hx);have hSf:Hid ((wb.setCell ⟨mb,1,none⟩ (.slice Az (l.eraseIdx k).length cz)).cell? ⟨sb,1,none⟩=some (.slice (some ⟨lb,lo,none⟩) l.length cc)):=(World.cell?_of_block (a:=⟨sb,1,none⟩) (hKf.out.block sb hS.out.lt (by simpa using hne))).trans (hS.out.cell (j:=1) rfl);refine wpAnyH_ready (rs:=[13]) (by kernel_rfl) (by simp) ?_;refine AllReadyH.cons (o:=_) rfl (fun K hK=>?_) ?_
         · go_simp;refine hK.out _ _ (hSf.out) (fun _=>?_);clear hK K
           try simp only[Act.put,List.setIfInBounds_toArray,List.set_cons_zero,List.set_cons_succ]
           refine wpAnyH_done (by kernel_rfl) ?_ _;refine NoPanic.normal ?_;exact h.out _ _ _ _ _ _ _ _ _ _ _ _ _ _ _ _ hKf hMf hIf
         exact AllReadyH.nil
       exact AllReadyH.nil
     exact AllReadyH.nil
   exact AllReadyH.nil
end Sh
end Go.Proofs.YtioidbebjgeahaaGreatDoor

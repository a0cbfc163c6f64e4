/- Texts that the proof needs: CirLks, ShaWReg, LawSWithout, BndJoinP, BndFReg. -/
import Derived.Deep.RegionHeld3
import Derived.Deep.QuietTactic
import Derived.BigQuiet
import Derived.Test.YtilodknkildkbaaGreatDoorKbA
import Derived.Test.YtilodknkildkbaaGreatDoorKbB
import Derived.Test.YtilodknkildkbaaGreatDoorKbC
import Derived.Test.YtilodknkildkbaaGreatDoorKbD
import Derived.Test.YtilodknkildkbaaGreatDoorKbE
import Derived.Test.YtilodknkildkbaaGreatDoorKbF
import Derived.Test.YtilodknkildkbaaGreatDoorKbG
import Derived.Test.YtilodknkildkbaaGreatDoorKbH
import Derived.Test.YtilodknkildkbaaGreatDoorKbI
import Derived.Test.YtilodknkildkbaaGreatDoorKbJ
import Derived.Test.YtilodknkildkbaaGreatDoorKbK
import Derived.Test.YtilodknkildkbaaGreatDoorKbY
set_option maxHeartbeats 16000000
set_option maxRecDepth 1000000
namespace Go.Proofs.YtilodknkildkbaaGreatDoor
theorem tkZE{P:Program}{md:Region.Mode}{ops:Array Oper}{Q:Exit→Act→World→Prop}{S:World→Prop}{oi:Oper}{v:Value}{fuel:Nat}{listed:Array Bool}{a:Act}{w:World}(i:Nat)(hi:ops[i]?=some oi)(hS:S w)(hy:YieldsIf P ops S oi v a)(h:wpAnyH P md ops Q S fuel (listed.setIfInBounds i true) (a.put oi.dst v) w)(hs:Region.noSelect ops=true:=by kernel_rfl)(hf:Region.free md ops listed i=true:=by kernel_rfl)(hr:(Region.ready md ops listed).contains i=true:=by kernel_rfl)(hQ:∀c a w,Q (.panic c) (a.put oi.dst v) w→Q (.panic c) a w:=by exact fun _ _ _ h=>h):wpAnyH P md ops Q S (fuel+1) listed a w:=wpAnyH_take hi hs hf hr hQ hy hS h
section
open Go.RowKit Go.Shelf
namespace Ci
open Nt
def CI (l:List Lk):List Value:=(l.map lkL).flatten
theorem Ev (x:Lk):(lkL x).length=5:=rfl
theorem Jc (x:Lk) (l:List Lk):CI (x::l)=lkL x++CI l:=rfl
theorem CD (l:List Lk):(CI l).length=l.length*5:=by
 induction l with
 | nil=>rfl
 | cons a l ih=>rw[Jc,List.length_append,ih,Ev,List.length_cons];omega
theorem Ld:∀(l:List Lk) (j f:Nat) (hj:j<l.length),f<5→(CI l)[j*5+f]? = (lkL l[j])[f]?:=by
 intro l
 induction l with
 | nil=>intro j f hj;exact absurd hj (Nat.not_lt_zero _)
 | cons a l ih =>
   intro j f hj hf;rw[Jc]
   cases j with
   | zero =>
     rw[List.getElem?_append_left (by rw[Ev];omega)];simp
   | succ j =>
     rw[List.getElem?_append_right (by rw[Ev];omega),Ev,show (j+1)*5+f-5=j*5+f by omega,ih j f (by simpa using hj) hf];simp
def Le:Value:=.agg #[.int .i64 0,.int .i64 0,.bool false,.string ⟨#[]⟩,.string ⟨#[]⟩]
theorem UQ:(Tryz.prog.info? 59).map (fun i=>(i.zero,i.size,i.bytes))=some (some Le,5,56):=by kernel_rfl
section
variable {W W':World} {base n:Nat} {e:TypeId} {u:Value} {l:List Lk}
theorem Nw (h:W.ownsRow base e 5 u l.length (CI l)):∃A cap,u=.slice A l.length cap∧InLk W A l:=by
 rcases h.2 with⟨rfl,h0⟩ | ⟨g,cap,cur,rfl,hb,hg,_⟩
 · refine⟨none,0,by rw[h0],fun hl=>by omega⟩
 · refine ⟨_,cap,rfl,fun hl=>⟨g,0,rfl,(Array.getElem?_eq_some_iff.1 hg).1,fun j hj=>?_⟩⟩;have hadd:∀o,(⟨g,0,none⟩:Addr).add o=⟨g,o,none⟩:=fun o=>by unfold Addr.add;split<;>simp_all
   have key:∀f v,f<5→(lkL l[j])[f]? = some v→W.cell? ⟨g,j*5+f,none⟩=some v:=fun f v hf hv=>by
    have hc:=h.cells (g:=g) (by simp[Value.ownBlock]) (j*5+f) v (by rw[Ld l j f hj hf];exact hv)
    rwa [hadd]at hc
   simp only[Nat.zero_add];exact⟨key 0 _ (by omega) rfl,key 1 _ (by omega) rfl,key 2 _ (by omega) rfl,key 3 _ (by omega) rfl,key 4 _ (by omega) rfl⟩
theorem Jd {m:Nat} {xs:List Value} (h:W.ownsRow base e m u n xs):∃A cap,u=.slice A n cap:=by
 rcases h.2 with⟨rfl,h0⟩ | ⟨g,cap,cur,rfl,_⟩
 · exact⟨none,0,by rw[h0]⟩
 · exact⟨_,cap,rfl⟩
theorem Un (x:Lk):∀u∈lkL x,u.oneCell'=true:=by
 intro u hu;simp only[lkL,List.mem_cons,List.not_mem_nil,or_false]at hu
 rcases hu with rfl | rfl | rfl | rfl | rfl<;>rfl
end
end Ci
end
section
open Go.RowKit Go.Shelf
namespace Sh
open Nt Ci
theorem RN (b o j:Nat):((⟨b,o,none⟩:Addr).add j)=⟨b,o+j,none⟩:=by unfold Addr.add;split<;>simp_all
theorem EU {W:World} {lb lo:Nat} {l:List Lk} (h:InLk W (some ⟨lb,lo,none⟩) l) (i m u:Nat) (v:Value) (hv:(CI ((l.drop i).take m))[u]? = some v):W.cell? ((⟨lb,lo+i*5,none⟩:Addr).add u)=some v:=by
 have hu:u<(CI ((l.drop i).take m)).length:=(List.getElem?_eq_some_iff.1 hv).1;rw[CD]at hu;have hq:u/5<((l.drop i).take m).length:=by omega
 have h1:=Ld _ (u/5) (u%5) hq (by omega);rw[show u/5*5+u%5=u by omega,hv]at h1;have hq2:=hq;rw[List.length_take,List.length_drop]at hq2;have hi:i+u/5<l.length:=by omega
 obtain⟨b,o,e,_,hc⟩:=h (by omega);simp only[Option.some.injEq,Addr.mk.injEq,and_true]at e;obtain⟨rfl,rfl⟩:=e;rw[List.getElem_take,List.getElem_drop]at h1;obtain⟨c0,c1,c2,c3,c4⟩:=hc (i+u/5) hi;rw[RN];have h5:u%5=0∨u%5=1∨u%5=2∨u%5=3∨u%5=4:=by omega
 rcases h5 with e | e | e | e | e
 · rw[e]at h1;rw[show lo+i*5+u=lo+(i+u/5)*5 by omega,c0];exact h1.symm
 · rw[e]at h1;rw[show lo+i*5+u=lo+(i+u/5)*5+1 by omega,c1];exact h1.symm
 · rw[e]at h1;rw[show lo+i*5+u=lo+(i+u/5)*5+2 by omega,c2];exact h1.symm
 · rw[e]at h1;rw[show lo+i*5+u=lo+(i+u/5)*5+3 by omega,c3];exact h1.symm
 · rw[e]at h1;rw[show lo+i*5+u=lo+(i+u/5)*5+4 by omega,c4];exact h1.symm
theorem GZ (l:List Lk):∀u∈CI l,u.oneCell'=true:=by
 intro u hu;unfold CI at hu;obtain⟨x,hx,hux⟩:=List.mem_flatten.1 hu;obtain⟨y,_,rfl⟩:=List.mem_map.1 hx;exact Un y u hux
theorem Lf {W:World} {A:Option Addr} {l:List Lk} {mb o:Nat} {t:TypeId} {cs:List Value} {v:Value} (h:InLk W A l) (hM:Bk W mb t cs) (hc:∀x∈cs,∀z,x≠.int .i64 z):InLk (W.setCell ⟨mb,o,none⟩ v) A l:=fun h0=>by
 obtain⟨b,off,e,hl,hx⟩:=h h0
 have hb:b≠mb:=fun e2=>by
  subst e2;have h1:=(hx 0 h0).1;have h2:W.heap[b]? = some (.cells cs.toArray t (0,0)):=hM;simp only[World.cell?,h2]at h1;have h3:=List.mem_of_getElem? (by simpa using h1:cs[off+0*5]? = some _);exact hc _ h3 _ rfl
 have hbl:(W.setCell ⟨mb,o,none⟩ v).heap[b]? = W.heap[b]?:=Below.heap_setCell _ _ _ _ hb
 exact ⟨b,off,e,by simpa using hl,fun j hj=>by
  obtain⟨c0,c1,c2,c3,c4⟩:=hx j hj;exact⟨(World.cell?_of_block (a:=⟨b,_,none⟩) hbl).trans c0,(World.cell?_of_block (a:=⟨b,_,none⟩) hbl).trans c1,(World.cell?_of_block (a:=⟨b,_,none⟩) hbl).trans c2,(World.cell?_of_block (a:=⟨b,_,none⟩) hbl).trans c3,(World.cell?_of_block (a:=⟨b,_,none⟩) hbl).trans c4⟩⟩
theorem GE (l m:List Lk):CI (l++m)=CI l++CI m:=by unfold CI;rw[List.map_append,List.flatten_append]
end Sh
end
section
open Go.RowKit Go.Shelf
namespace Sh
open Nt Ci
section
variable {l l':List Lk} {n k:Nat}
theorem MG {a b c:Lk} (h1:GI a b) (h2:GI b c):GI a c:=by
 unfold GI at *;omega
theorem OZ (h:De n l=true):l.Pairwise GI:=by
 refine List.pairwise_iff_getElem.2 fun i j hi hj hij=>?_
 induction j with
 | zero=>omega
 | succ j ih =>
   have h1:=(C4 h hj).2.1 (by omega);simp only[Nat.add_sub_cancel]at h1
   by_cases e:i=j
   · subst e;exact h1
   · exact MG (ih (by omega) (by omega)) h1
theorem RO {a b:List Nat} (h:a.Sublist b):a.sum≤b.sum:=by
 induction h with
 | slnil=>exact Nat.le_refl _
 | cons x _ ih=>rw[List.sum_cons];omega
 | cons_cons x _ ih=>rw[List.sum_cons,List.sum_cons];omega
theorem Pa (h:De n l=true) (c:Int):∀k,k≤l.length→sumU (l.take k) c≤6000:=by
 intro k
 induction k with
 | zero=>intro _;simp[sumU]
 | succ k ih =>
   intro hk
   by_cases e:(l[k]'(by omega)).1=c
   · rw[←e];exact(C4 h (by omega)).2.2
   · have h1:=ih (by omega);unfold sumU at h1 ⊢;rw[List.take_succ_eq_append_getElem (by omega),List.filter_append,List.filter_cons,if_neg (by simpa using e)]
     simpa using h1
theorem Pb (h:De n l=true) (hs:l'.Sublist l):De n l'=true:=by
 refine Km fun i hi=>⟨?_,fun h0=>?_,?_⟩
 · obtain⟨j,hj,e⟩:=List.getElem_of_mem (hs.subset (List.getElem_mem hi));rw[←e];exact(C4 h hj).1
 · exact List.pairwise_iff_getElem.1 ((OZ h).sublist hs) (i-1) i (by omega) hi (by omega)
 · have h1:=Pa h l'[i].1 l.length (Nat.le_refl _);rw[List.take_length]at h1;have h2:sumU (l'.take (i+1)) l'[i].1≤sumU l l'[i].1:=RO (((List.take_sublist _ _).trans hs |>.filter _).map _);omega
end
def wo (s:SR) (k:Nat):SR:=⟨s.ps,s.cap.eraseIdx k,s.vot⟩
theorem Lg {s:SR} (h:soundB s=true) (k:Nat):soundB (wo s k)=true:=by
 unfold soundB at h ⊢;simp only[Bool.and_eq_true,decide_eq_true_eq]at h ⊢;exact⟨h.1,h.2.1,Pb h.2.2.1 (List.eraseIdx_sublist _ _),h.2.2.2⟩
theorem Uo (l:List Lk) (k:Nat):Ad (l.eraseIdx k)=(Ad l).eraseIdx k:=by
 unfold Ad;rw[List.eraseIdx_eq_take_drop_succ,List.eraseIdx_eq_take_drop_succ,List.map_append,List.map_take,List.map_drop]
theorem UR {W:World} {s:SR} {Ap Ac Av Az:Option Addr} (h:StIn W s Ap Ac Av) {k:Nat} (hz:InLk W Az (s.cap.eraseIdx k)):StIn W (wo s k) Ap Az Av :=
 ⟨h.ps,hz,h.vot,h.np,Nat.le_trans (List.length_eraseIdx_le _ _) h.nc,h.nv,h.zp,fun x hx=>h.zc x (List.mem_of_mem_eraseIdx hx),h.zv,fun x hx=>h.ic x (List.mem_of_mem_eraseIdx hx),h.iv⟩
theorem Vh {x:Int} {n:Nat} (hx:0≤x) (hn:n≠0):∃p:Nat,x%(n:Int)=(p:Int)∧p<n∧x.tmod (n:Int)=(p:Int):=by
 have h0:=Int.emod_nonneg x (show (n:Int)≠0 by omega);have h1:=Int.emod_lt_of_pos x (show (0:Int)<(n:Int) by omega);refine⟨(x%(n:Int)).toNat,by omega,by omega,?_⟩;rw[Int.tmod_eq_emod_of_nonneg hx];omega
end Sh
end
section
open Go.RowKit Go.Shelf
namespace Bd
open Nt Ci Sh
section
variable {s:SR} {F:List Int} {ab:Bool} {Va Vb V:List Raw} {Ra Rb R:List Int}
theorem Pc (h:Chk s F true V R) (k:Nat):Chk (wo s k) F true V R:=by
 refine⟨⟨Lg h.1.1 k,h.1.2⟩,h.2.1,h.2.2.1,h.2.2.2.1,?_⟩;have h1:=Abv.fewer (AQ h.sound) h.abv k;rw[←Uo]at h1;exact fun p hp=>⟨fun _=>(h1 p hp).2,fun e=>by cases e⟩
end
end Bd
end
section
open Go.RowKit Go.Shelf
namespace Sh
open Nt Ci
noncomputable def bfR (j:Nat):Code:=((Tryz.f9.body.map Ci.Bt).bind fun l=>l.find? (Mm j)).getD .skip
theorem bf6 {c0 c1 c2 c3 c5 c6 c7 c8 c9 c12 c13 c14 c15 c16 c17 c18 c19 c20 c21 c22 c23 c24 c25 c26 c27 c28 c29 c30 c31 c32 c33 c34 c35 c36 c37 c38 c39 c40 c41 c42 c43 c57 c58 c59 c60 c61 c62 c63 c64 c65 c66 c67 a44 a45 a46 a47 a48 a49 a50 a51 a52 a53 a54 a55 a56:Value} {Q:Exit→Act→World→Prop} (sb mb lb lo np cp cc nv cv k:Nat) (Ap Av:Option Addr) (l:List Lk) (w:World) (hS:Bk w sb 25 [.slice Ap np cp,.slice (some ⟨lb,lo,none⟩) l.length cc,.slice Av nv cv]) (hM:Bk w mb 25 [.slice Ap np cp,.slice (some ⟨lb,lo,none⟩) l.length cc,.slice Av nv cv]) (hl:InLk w (some ⟨lb,lo,none⟩) l) (hk:k<l.length) (hc:l.length≤cc) (hm:l.length≤300) (hne:sb≠mb)
 (h:∀(u44 u45 u46 u47 u48 u49 u50 u51 u52 u53 u54 u55 u56:Value) (W:World) (Az:Option Addr) (cz:Nat) (_:Hid (Kp [mb] w W)) (_:Hid (Bk W mb 25 [.slice Ap np cp,.slice Az (l.eraseIdx k).length cz,.slice Av nv cv])) (_:Hid (InLk W Az (l.eraseIdx k))),Q .normal ⟨#[c0,c1,c2,c3,.pointer (some ⟨sb,0,none⟩),c5,c6,c7,c8,c9,.int .i64 (k:Int),.pointer (some ⟨mb,0,none⟩),c12,c13,c14,c15,c16,c17,c18,c19,c20,c21,c22,c23,c24,c25,c26,c27,c28,c29,c30,c31,c32,c33,c34,c35,c36,c37,c38,c39,c40,c41,c42,c43,u44,u45,u46,u47,u48,u49,u50,u51,u52,u53,u54,u55,u56,c57,c58,c59,c60,c61,c62,c63,c64,c65,c66,c67],[]⟩ W) :
 Code.wp Tryz.prog (bfR 6) Q ⟨#[c0,c1,c2,c3,.pointer (some ⟨sb,0,none⟩),c5,c6,c7,c8,c9,.int .i64 (k:Int),.pointer (some ⟨mb,0,none⟩),c12,c13,c14,c15,c16,c17,c18,c19,c20,c21,c22,c23,c24,c25,c26,c27,c28,c29,c30,c31,c32,c33,c34,c35,c36,c37,c38,c39,c40,c41,c42,c43,a44,a45,a46,a47,a48,a49,a50,a51,a52,a53,a54,a55,a56,c57,c58,c59,c60,c61,c62,c63,c64,c65,c66,c67],[]⟩ w:=by
 conv=>arg 2;whnf
 conv=>arg 4;zeta
 replace h:=zh h;have hml:Hid (mb<w.heap.size):=hM.lt;have hS1:Hid (∀W,Below w.heap.size w W→W.cell? ⟨sb,1,none⟩=some (.slice (some ⟨lb,lo,none⟩) l.length cc)):=fun W h=>(hS.below h).c1;have hcell:Hid (∀W,Below w.heap.size w W→∀i j u,(CI ((l.drop i).take j))[u]? = none∨∀v,(CI ((l.drop i).take j))[u]? = some v→W.cell? ((⟨lb,lo+i*5,none⟩:Addr).add u)=some v):=fun W h i j u=>.inr fun v hv=>EU (hl.below h) i j u v hv;obtain⟨i0,hi0,hzz⟩:=Option.map_eq_some_iff.1 UQ;simp only[Prod.mk.injEq]at hzz;obtain⟨hz0i,hz1,hz2⟩:=hzz;replace hi0:=zh hi0;replace hz0i:=zh hz0i;replace hz1:=zh hz1;replace hz2:=zh hz2;have hlt:(l.take k).length=k:=by rw[List.length_take];omega
 have hld:(l.drop (k+1)).length=l.length-(k+1):=List.length_drop ..;have her:l.eraseIdx k=l.take k++l.drop (k+1):=List.eraseIdx_eq_take_drop_succ ..;have j0:(0:Int)≤(k:Int):=by omega
 have j1:(k:Int)≤(l.length:Int):=by omega
 have j2:(k:Int)≤(cc:Int):=by omega
 have j3:(k:Int)+1≤(l.length:Int):=by omega
 have j4:(l.length:Int)≤(cc:Int):=by omega
 have j5:(0:Int)≤(k:Int)+1:=by omega
 have j6:((k:Int)+1).toNat=k+1:=by omega
 have j7:IntKind.i64.wrap ((k:Int)+1)=(k:Int)+1:=IntWalk.i64_in _ (by omega);replace hS:=zh hS;replace hl:=zh hl;replace hlt:=zh hlt;replace hld:=zh hld;replace her:=zh her;replace hc:=zh hc
 by_cases hce:cc=k+1
 · have hz0:Hid (l.length≤k+1):=by have:=hc.out;unfold Hid;omega
   have hce2:(cc=k+1)=True:=by simp[hce]
   replace hce:=zh hce;refine wp_region_noPanic ?_;refine wp_region_held_drew (S:=fun W=>W.cell? ⟨sb,1,none⟩=some (.slice (some ⟨lb,lo,none⟩) l.length cc)) (by kernel_rfl) (hS1.out _ (Below.refl _ w).drew) (fun hS0=>?_);replace hS0:=zh hS0;refine tkZE (v:=?_) 1 rfl (hS0.out) (Or.inl ⟨by rfl,?_⟩) ?_;rotate_left
   · (intro w hSw;obtain q1:=hSw;go_simp<;>with_reducible rfl)
   try simp only[Act.put,List.setIfInBounds_toArray]
   refine tkZE (v:=?_) 2 rfl (hS0.out) (Or.inl ⟨by rfl,?_⟩) ?_;rotate_left
   · (intro w hSw;obtain q1:=hSw;go_simp<;>with_reducible rfl)
   try simp only[Act.put]
   refine tkZE (v:=?_) 3 rfl (hS0.out) (Or.inl ⟨by rfl,?_⟩) ?_;rotate_left
   · (intro w hSw;obtain q1:=hSw;go_simp<;>with_reducible rfl)
   try simp only[Act.put]
   refine tkZE (v:=?_) 4 rfl (hS0.out) (Or.inl ⟨by rfl,?_⟩) ?_;rotate_left
   · (intro w hSw;obtain q1:=hSw;go_simp<;>with_reducible rfl)
   try simp only[Act.put]
   refine tkZE (v:=?_) 6 rfl (hS0.out) (Or.inl ⟨by rfl,?_⟩) ?_;rotate_left
   · (intro w hSw;obtain q1:=hSw;go_simp<;>with_reducible rfl)
   try simp only[Act.put]
   refine tkZE (v:=?_) 7 rfl (hS0.out) (Or.inl ⟨by rfl,?_⟩) ?_;rotate_left
   · (intro w hSw;obtain q1:=hSw;go_simp<;>with_reducible rfl)
   try simp only[Act.put]
   refine tkZE (v:=?_) 8 rfl (hS0.out) (Or.inl ⟨by rfl,?_⟩) ?_;rotate_left
   · (intro w hSw;obtain q1:=hSw;go_simp<;>with_reducible rfl)
   try simp only[Act.put]
   refine tkZE (v:=?_) 9 rfl (hS0.out) (Or.inl ⟨by rfl,?_⟩) ?_;rotate_left
   · (intro w hSw;obtain q1:=hSw;go_simp<;>with_reducible rfl)
   try simp only[Act.put]
   refine tkZE (v:=?_) 10 rfl (hS0.out) (Or.inl ⟨by rfl,?_⟩) ?_;rotate_left
   · (intro w hSw;obtain q1:=hSw;go_simp<;>with_reducible rfl)
   try simp only[Act.put]
   refine wpAnyH_ready (rs:=[0]) (by kernel_rfl) (by simp) ?_;refine AllReadyH.cons (o:=_) rfl (fun K hK=>?_) ?_
   · go_simp;have hB1:Hid (Below w.heap.size w ((w.alloc (.cells #[] 59)).drew)):=((Below.refl _ w).alloc (Nat.le_refl _) _).drew;have ho1:Hid (World.ownsRow ((w.alloc (.cells #[] 59)).drew) w.heap.size 59 5 (.slice (some ⟨w.heap.size,0,none⟩) 0 0) 0 []):=World.ownsRow_made w #[] 0 (Nat.le_refl _) (by unfold maxLen;omega) rfl;have hn1:Hid (∀j u,(CI (l.take k))[j]? = some u→World.cell? ((w.alloc (.cells #[] 59)).drew) (Addr.add ⟨lb,lo,none⟩ j)=some u):=fun j u hj=>by have h:=EU (hl.out.below hB1.out) 0 k j u (by rw[List.drop_zero];exact hj);rwa [Nat.zero_mul,Nat.add_zero]at h
     refine hK.out _ _ (hS1.out _ hB1.out) (fun _=>?_);clear hK K
     try simp only[Act.put,List.setIfInBounds_toArray,List.set_cons_zero,List.set_cons_succ]
     refine wpAnyH_ready (rs:=[5]) (by kernel_rfl) (by simp) ?_;refine AllReadyH.cons (o:=_) rfl (fun K hK=>?_) ?_
     · rw [if_pos (by rfl)];refine wp_append_own _ _ _ 23 rfl w.heap.size 59 i0 Le 5 56 Tryz.underlying23 hi0.out hz0i.out hz1.out hz2.out rfl (by decide) (.slice (some ⟨w.heap.size,0,none⟩) 0 0) 0 [] rfl ho1.out ⟨lb,lo,none⟩ k cc (CI (l.take k)) rfl (by rw[CD,hlt.out]) hn1.out (GZ _) (by unfold maxLen;omega) (by omega) hB1.out.size ?_;intro va wa hoa hga _;rw[Nat.zero_add,List.nil_append]at hoa;have hBa:Hid (Below w.heap.size w wa):=hB1.out.grown hga hB1.out.size (fun b e=>by cases e;exact Nat.le_refl _);obtain⟨Aa,ca,rfl⟩:=Jd hoa;replace hoa:=zh hoa;clear hga ho1 hn1;have hn2:Hid (∀j u,(CI (l.drop (k+1)))[j]? = some u→World.cell? wa (Addr.add ⟨lb,lo,none⟩ j)=some u):=fun j u hj=>by rw[List.drop_of_length_le hz0.out]at hj;cases hj
       refine hK.out _ _ (hS1.out _ hBa.out) (fun _=>?_);clear hK K
       try simp only[Act.put,List.setIfInBounds_toArray]
       refine wpAnyH_ready (rs:=[11]) (by kernel_rfl) (by simp) ?_;refine AllReadyH.cons (o:=_) rfl (fun K hK=>?_) ?_
       · rw [if_pos (by rfl)];refine wp_append_own _ _ _ 23 rfl w.heap.size 59 i0 Le 5 56 Tryz.underlying23 hi0.out hz0i.out hz1.out hz2.out rfl (by decide) (.slice Aa k ca) k (CI (l.take k)) rfl hoa.out ⟨lb,lo,none⟩ (l.length-(k+1)) (cc-(k+1)) (CI (l.drop (k+1))) rfl (by rw[CD,hld.out]) hn2.out (GZ _) (by unfold maxLen;omega) (by omega) hBa.out.size ?_;intro vb wb hob hgb _;rw[←GE,←her.out]at hob;have hBb:Hid (Below w.heap.size w wb):=hBa.out.grown hgb hBa.out.size (fun b e=>(hoa.out.lt b e).1);have hlen:k+(l.length-(k+1))=(l.eraseIdx k).length:=by rw[her.out,List.length_append,hlt.out,hld.out]
         rw[hlen]at hob;obtain⟨Az,cz,rfl,hin⟩:=Nw hob;replace hin:=zh hin;clear hob hgb hn2 hoa;refine hK.out _ _ (hS1.out _ hBb.out) (fun _=>?_);clear hK K
         try simp only[Act.put]
         refine tkZE (v:=?_) 12 rfl (hS1.out _ hBb.out) (Or.inl ⟨by rfl,?_⟩) ?_;rotate_left
         · (intro w hSw;obtain q1:=hSw;go_simp<;>with_reducible rfl)
         try simp only[Act.put]
         have hMb:Hid (Bk wb mb 25 [.slice Ap np cp,.slice (some ⟨lb,lo,none⟩) l.length cc,.slice Av nv cv]):=hM.below hBb.out;have f1:=hMb.out.frozen 1;have m1:=hMb.out.c1;have m9:=hMb.out.lt;have hKf:Hid (Kp [mb] w (wb.setCell ⟨mb,1,none⟩ (.slice Az (l.eraseIdx k).length cz))):=Kp.set (a:=⟨mb,1,none⟩) ((Kp.refl [mb] w).below hBb.out) _ (.inl (by simp));have hMf:Hid (Bk (wb.setCell ⟨mb,1,none⟩ (.slice Az (l.eraseIdx k).length cz)) mb 25 [.slice Ap np cp,.slice Az (l.eraseIdx k).length cz,.slice Av nv cv]):=hMb.out.set 1 _;have hIf:Hid (InLk (wb.setCell ⟨mb,1,none⟩ (.slice Az (l.eraseIdx k).length cz)) Az (l.eraseIdx k)):=Lf hin.out hMb.out (by intro x hx z e;subst e;simp at hx);have hSf:Hid ((wb.setCell ⟨mb,1,none⟩ (.slice Az (l.eraseIdx k).length cz)).cell? ⟨sb,1,none⟩=some (.slice (some ⟨lb,lo,none⟩) l.length cc)):=(World.cell?_of_block (a:=⟨sb,1,none⟩) (hKf.out.block sb hS.out.lt (by simpa using hne))).trans (hS.out.c1);refine wpAnyH_ready (rs:=[13]) (by kernel_rfl) (by simp) ?_;refine AllReadyH.cons (o:=_) rfl (fun K hK=>?_) ?_
         · go_simp;refine hK.out _ _ (hSf.out) (fun _=>?_);clear hK K
           try simp only[Act.put,List.setIfInBounds_toArray,List.set_cons_zero,List.set_cons_succ]
           refine wpAnyH_done (by kernel_rfl) ?_ _;refine NoPanic.normal ?_;exact h.out _ _ _ _ _ _ _ _ _ _ _ _ _ _ _ _ hKf hMf hIf
         exact AllReadyH.nil
       exact AllReadyH.nil
     exact AllReadyH.nil
   exact AllReadyH.nil
 · have hce2:(cc=k+1)=False:=by simp[hce]
   refine wp_region_noPanic ?_;refine wp_region_held_drew (S:=fun W=>W.cell? ⟨sb,1,none⟩=some (.slice (some ⟨lb,lo,none⟩) l.length cc)) (by kernel_rfl) (hS1.out _ (Below.refl _ w).drew) (fun hS0=>?_);replace hS0:=zh hS0;refine tkZE (v:=?_) 1 rfl (hS0.out) (Or.inl ⟨by rfl,?_⟩) ?_;rotate_left
   · (intro w hSw;obtain q1:=hSw;go_simp<;>with_reducible rfl)
   try simp only[Act.put,List.setIfInBounds_toArray]
   refine tkZE (v:=?_) 2 rfl (hS0.out) (Or.inl ⟨by rfl,?_⟩) ?_;rotate_left
   · (intro w hSw;obtain q1:=hSw;go_simp<;>with_reducible rfl)
   try simp only[Act.put]
   refine tkZE (v:=?_) 3 rfl (hS0.out) (Or.inl ⟨by rfl,?_⟩) ?_;rotate_left
   · (intro w hSw;obtain q1:=hSw;go_simp<;>with_reducible rfl)
   try simp only[Act.put]
   refine tkZE (v:=?_) 4 rfl (hS0.out) (Or.inl ⟨by rfl,?_⟩) ?_;rotate_left
   · (intro w hSw;obtain q1:=hSw;go_simp<;>with_reducible rfl)
   try simp only[Act.put]
   refine tkZE (v:=?_) 6 rfl (hS0.out) (Or.inl ⟨by rfl,?_⟩) ?_;rotate_left
   · (intro w hSw;obtain q1:=hSw;go_simp<;>with_reducible rfl)
   try simp only[Act.put]
   refine tkZE (v:=?_) 7 rfl (hS0.out) (Or.inl ⟨by rfl,?_⟩) ?_;rotate_left
   · (intro w hSw;obtain q1:=hSw;go_simp<;>with_reducible rfl)
   try simp only[Act.put]
   refine tkZE (v:=?_) 8 rfl (hS0.out) (Or.inl ⟨by rfl,?_⟩) ?_;rotate_left
   · (intro w hSw;obtain q1:=hSw;go_simp<;>with_reducible rfl)
   try simp only[Act.put]
   refine tkZE (v:=?_) 9 rfl (hS0.out) (Or.inl ⟨by rfl,?_⟩) ?_;rotate_left
   · (intro w hSw;obtain q1:=hSw;go_simp<;>with_reducible rfl)
   try simp only[Act.put]
   refine tkZE (v:=?_) 10 rfl (hS0.out) (Or.inl ⟨by rfl,?_⟩) ?_;rotate_left
   · (intro w hSw;obtain q1:=hSw;go_simp<;>with_reducible rfl)
   try simp only[Act.put]
   refine wpAnyH_ready (rs:=[0]) (by kernel_rfl) (by simp) ?_;refine AllReadyH.cons (o:=_) rfl (fun K hK=>?_) ?_
   · go_simp;have hB1:Hid (Below w.heap.size w ((w.alloc (.cells #[] 59)).drew)):=((Below.refl _ w).alloc (Nat.le_refl _) _).drew;have ho1:Hid (World.ownsRow ((w.alloc (.cells #[] 59)).drew) w.heap.size 59 5 (.slice (some ⟨w.heap.size,0,none⟩) 0 0) 0 []):=World.ownsRow_made w #[] 0 (Nat.le_refl _) (by unfold maxLen;omega) rfl;have hn1:Hid (∀j u,(CI (l.take k))[j]? = some u→World.cell? ((w.alloc (.cells #[] 59)).drew) (Addr.add ⟨lb,lo,none⟩ j)=some u):=fun j u hj=>by have h:=EU (hl.out.below hB1.out) 0 k j u (by rw[List.drop_zero];exact hj);rwa [Nat.zero_mul,Nat.add_zero]at h
     refine hK.out _ _ (hS1.out _ hB1.out) (fun _=>?_);clear hK K
     try simp only[Act.put,List.setIfInBounds_toArray,List.set_cons_zero,List.set_cons_succ]
     refine wpAnyH_ready (rs:=[5]) (by kernel_rfl) (by simp) ?_;refine AllReadyH.cons (o:=_) rfl (fun K hK=>?_) ?_
     · rw [if_pos (by rfl)];refine wp_append_own _ _ _ 23 rfl w.heap.size 59 i0 Le 5 56 Tryz.underlying23 hi0.out hz0i.out hz1.out hz2.out rfl (by decide) (.slice (some ⟨w.heap.size,0,none⟩) 0 0) 0 [] rfl ho1.out ⟨lb,lo,none⟩ k cc (CI (l.take k)) rfl (by rw[CD,hlt.out]) hn1.out (GZ _) (by unfold maxLen;omega) (by omega) hB1.out.size ?_;intro va wa hoa hga _;rw[Nat.zero_add,List.nil_append]at hoa;have hBa:Hid (Below w.heap.size w wa):=hB1.out.grown hga hB1.out.size (fun b e=>by cases e;exact Nat.le_refl _);obtain⟨Aa,ca,rfl⟩:=Jd hoa;replace hoa:=zh hoa;clear hga ho1 hn1;have hn2:Hid (∀j u,(CI (l.drop (k+1)))[j]? = some u→World.cell? wa (Addr.add ⟨lb,lo+(k+1)*5,none⟩ j)=some u):=fun j u hj=>EU (hl.out.below hBa.out) (k+1) l.length j u (by rw[List.take_of_length_le (by rw[hld.out];omega)];exact hj);refine hK.out _ _ (hS1.out _ hBa.out) (fun _=>?_);clear hK K
       try simp only[Act.put,List.setIfInBounds_toArray]
       refine wpAnyH_ready (rs:=[11]) (by kernel_rfl) (by simp) ?_;refine AllReadyH.cons (o:=_) rfl (fun K hK=>?_) ?_
       · rw [if_pos (by rfl)];refine wp_append_own _ _ _ 23 rfl w.heap.size 59 i0 Le 5 56 Tryz.underlying23 hi0.out hz0i.out hz1.out hz2.out rfl (by decide) (.slice Aa k ca) k (CI (l.take k)) rfl hoa.out ⟨lb,lo+(k+1)*5,none⟩ (l.length-(k+1)) (cc-(k+1)) (CI (l.drop (k+1))) rfl (by rw[CD,hld.out]) hn2.out (GZ _) (by unfold maxLen;omega) (by omega) hBa.out.size ?_;intro vb wb hob hgb _;rw[←GE,←her.out]at hob;have hBb:Hid (Below w.heap.size w wb):=hBa.out.grown hgb hBa.out.size (fun b e=>(hoa.out.lt b e).1);have hlen:k+(l.length-(k+1))=(l.eraseIdx k).length:=by rw[her.out,List.length_append,hlt.out,hld.out]
         rw[hlen]at hob;obtain⟨Az,cz,rfl,hin⟩:=Nw hob;replace hin:=zh hin;clear hob hgb hn2 hoa;refine hK.out _ _ (hS1.out _ hBb.out) (fun _=>?_);clear hK K
         try simp only[Act.put]
         refine tkZE (v:=?_) 12 rfl (hS1.out _ hBb.out) (Or.inl ⟨by rfl,?_⟩) ?_;rotate_left
         · (intro w hSw;obtain q1:=hSw;go_simp<;>with_reducible rfl)
         try simp only[Act.put]
         have hMb:Hid (Bk wb mb 25 [.slice Ap np cp,.slice (some ⟨lb,lo,none⟩) l.length cc,.slice Av nv cv]):=hM.below hBb.out;have f1:=hMb.out.frozen 1;have m1:=hMb.out.c1;have m9:=hMb.out.lt;have hKf:Hid (Kp [mb] w (wb.setCell ⟨mb,1,none⟩ (.slice Az (l.eraseIdx k).length cz))):=Kp.set (a:=⟨mb,1,none⟩) ((Kp.refl [mb] w).below hBb.out) _ (.inl (by simp));have hMf:Hid (Bk (wb.setCell ⟨mb,1,none⟩ (.slice Az (l.eraseIdx k).length cz)) mb 25 [.slice Ap np cp,.slice Az (l.eraseIdx k).length cz,.slice Av nv cv]):=hMb.out.set 1 _;have hIf:Hid (InLk (wb.setCell ⟨mb,1,none⟩ (.slice Az (l.eraseIdx k).length cz)) Az (l.eraseIdx k)):=Lf hin.out hMb.out (by intro x hx z e;subst e;simp at hx);have hSf:Hid ((wb.setCell ⟨mb,1,none⟩ (.slice Az (l.eraseIdx k).length cz)).cell? ⟨sb,1,none⟩=some (.slice (some ⟨lb,lo,none⟩) l.length cc)):=(World.cell?_of_block (a:=⟨sb,1,none⟩) (hKf.out.block sb hS.out.lt (by simpa using hne))).trans (hS.out.c1);refine wpAnyH_ready (rs:=[13]) (by kernel_rfl) (by simp) ?_;refine AllReadyH.cons (o:=_) rfl (fun K hK=>?_) ?_
         · go_simp;refine hK.out _ _ (hSf.out) (fun _=>?_);clear hK K
           try simp only[Act.put,List.setIfInBounds_toArray,List.set_cons_zero,List.set_cons_succ]
           refine wpAnyH_done (by kernel_rfl) ?_ _;refine NoPanic.normal ?_;exact h.out _ _ _ _ _ _ _ _ _ _ _ _ _ _ _ _ hKf hMf hIf
         exact AllReadyH.nil
       exact AllReadyH.nil
     exact AllReadyH.nil
   exact AllReadyH.nil
end Sh
end
end Go.Proofs.YtilodknkildkbaaGreatDoor

/- Texts that the proof needs: LawSChains. -/
import Derived.Deep.RegionHeld3
import Derived.Laws.BytesArg
import Derived.Test.YtioidbebjgeahaaGreatDoorKtA
import Derived.Test.YtioidbebjgeahaaGreatDoorKtB
import Derived.Test.YtioidbebjgeahaaGreatDoorKtC
import Derived.Test.YtioidbebjgeahaaGreatDoorKtD
import Derived.Test.YtioidbebjgeahaaGreatDoorKtE
import Derived.Test.YtioidbebjgeahaaGreatDoorKtF
import Derived.Test.YtioidbebjgeahaaGreatDoorKtG
import Derived.Test.YtioidbebjgeahaaGreatDoorKtH
import Derived.Test.YtioidbebjgeahaaGreatDoorKtI
import Derived.Test.YtioidbebjgeahaaGreatDoorKtU
import Derived.Test.YtioidbebjgeahaaGreatDoorKtZB
import Derived.Test.YtioidbebjgeahaaGreatDoorKtZC
set_option maxHeartbeats 16000000
set_option maxRecDepth 100000
namespace Go.Proofs.YtioidbebjgeahaaGreatDoor
open Go.RowKit Go.Shelf
namespace Sh
open Nt Ci
def InU8 (W:World) (A:Option Addr) (l:List Nat):Prop:=0<l.length→∃b o,A=some ⟨b,o,none⟩∧b<W.heap.size∧∀j (h:j<l.length),W.cell? ⟨b,o+j,none⟩=some (.int .u8 (l[j]:Int))
theorem InU8.below {W W':World} {A:Option Addr} {l:List Nat} (h:InU8 W A l) (hb:Below W.heap.size W W'):InU8 W' A l:=fun h0=>by
 obtain⟨b,o,e,hl,hc⟩:=h h0;exact⟨b,o,e,Nat.lt_of_lt_of_le hl hb.size,fun j hj=>(hb.cell (p:=⟨b,o+j,none⟩) hl).trans (hc j hj)⟩
theorem addr_addS (b o j:Nat):((⟨b,o,none⟩:Addr).add j)=⟨b,o+j,none⟩:=by unfold Addr.add;split<;>simp_all
def nmV (i:Nat):List Value:=(List.range i).map fun j=>.string (chN j)
theorem nmV_succ (i:Nat):nmV (i+1)=nmV i++[.string (chN i)]:=by unfold nmV;rw[List.range_succ,List.map_append,List.map_singleton]
theorem own_strs {W:World} {B m c:Nat} {A:Option Addr} {e:TypeId} (h:W.ownsRow B e 1 (.slice A m c) m (nmV m)):InStr W A ((List.range m).map chN):=fun h0=>by
 have h0':0<m:=by simpa using h0
 rcases h.2 with⟨e1,_⟩ | ⟨g,cap,cur,e1,hb,hg,_⟩
 · injection e1 with _ e2 _;omega
 · injection e1 with e2 _ e3;refine⟨g,0,e2,(Array.getElem?_eq_some_iff.1 hg).1,fun j hj=>?_⟩;have hj':j<m:=by simpa using hj
   have hc:=h.cells (g:=g) (by rw[e2];rfl) j (.string (chN j)) (by simp[nmV,hj']);rw[addr_addS,Nat.zero_add]at hc;rw[List.getElem_map,List.getElem_range,Nat.zero_add];exact hc
theorem infoS:(Tryz.prog.info? 9).map (fun i=>(i.zero,i.size,i.bytes))=some (some (.string ⟨#[]⟩),1,16):=by kernel_rfl
theorem ownLk {W:World} {B m c:Nat} {A:Option Addr} {e:TypeId} {L:List Lk} (h:W.ownsRow B e 5 (.slice A m c) m (lksL L)) (hL:L.length=m):InLk W A L:=by
 subst hL;obtain⟨A9,c9,e9,h9⟩:=own_lks h;injection e9 with e8 _ _;rw[e8];exact h9
theorem list_one (n:Nat):listB ((n+1:Nat):Int) [(n:Int)]=true:=list_all fun k hk=>by
 have hk0:k=0:=by simpa using hk
 subst hk0;exact⟨⟨by simp,by simp;omega⟩,fun h=>absurd h (Nat.lt_irrefl 0)⟩
theorem ch_zp (l:List Nat):∀x,x∈(chS l).ps→x.size≤140737488355328:=fun x hx=>by
 obtain⟨i,_,rfl⟩:=List.mem_map.1 hx;exact(by decide:1≤140737488355328)
theorem ch_mem {l:List Nat} {x:Lk} (h:x∈(chS l).cap):∃i,i<l.length∧x=((i:Int),((i+1:Nat):Int),rq (prt (l.getD i 0))):=by
 obtain⟨i,hi,rfl⟩:=List.mem_map.1 h;exact⟨i,List.mem_range.1 hi,rfl⟩
theorem ch_zc (l:List Nat) (_:l.length≤6):∀x,x∈(chS l).cap→x.2.2.2.1.size≤140737488355328∧x.2.2.2.2.size≤140737488355328:=fun x hx=>by
 obtain⟨i,_,rfl⟩:=ch_mem hx;have h:=short_sizes (prt_ok (l.getD i 0)).2.2.2;exact⟨Nat.le_trans h.1 (by decide),Nat.le_trans h.2 (by decide)⟩
theorem ch_ic (l:List Nat) (h:l.length≤6):∀x,x∈(chS l).cap→(-9223372036854775808≤x.1∧x.1≤9223372036854775807)∧(-9223372036854775808≤x.2.1∧x.2.1≤9223372036854775807):=fun x hx=>by
 obtain⟨i,hi,rfl⟩:=ch_mem hx;exact⟨⟨by dsimp only;omega,by dsimp only;omega⟩,by dsimp only;omega,by dsimp only;omega⟩
theorem cv_name (w:World) (i:Nat) (h:i≤10):(convert 35 9 (.slice (some ⟨w.heap.size,0,none⟩) 1 1)).run Tryz.prog (w.alloc (.cells #[.int .u8 (97+(i:Int))] 5))=.ok (.string (chN i)) (w.alloc (.cells #[.int .u8 (97+(i:Int))] 5)):=by
 have hb:=Bk.new w 5 [.int .u8 (97+(i:Int))]
 have h:=run_convert_bytes_arg (P:=Tryz.prog) (w.alloc (.cells #[.int .u8 (97+(i:Int))] 5)) 35 5 Tryz.underlying35 Tryz.underlying5 w.heap.size 0 1 1 [97+(i:Int)] rfl (fun j hj=>by
  obtain rfl:j=0:=by omega
  exact hb.cell (j:=0) rfl) 9 Tryz.underlying9
 rw[h];have e:(97+(i:Int)).toNat=97+i:=by omega
 simp only[strOfNums,chN,List.map_cons,List.map_nil,e]
theorem wrap_u8 {i:Nat} (h:i≤10):IntKind.u8.wrap (97+(i:Int))=97+(i:Int):=by unfold IntKind.wrap;simp[IntKind.bits,IntKind.signed];omega
theorem law20_chains (l:List Nat) (A:Option Addr) (c:Nat) (w:World) (hE:Env w) (hA:InU8 w A l) (hl:l.length≤140737488355328) (h8:∀x,x∈l→x<256) :
 Calls Tryz.prog 4 #[.slice A l.length c] w fun e w'=>e=.returned (.bool true)∧Below w.heap.size w w':=by
 replace hE:=Lib.hid hE;replace hA:=Lib.hid hA;go_enter Tryz.func4,Tryz.ntmps4
 go_wp2_with fail
 have hB1:Hid (Below w.heap.size w w):=Below.refl _ _;refine(head20_any _ (hE.out.below hB1.out)).mono ?_;rintro e w2 ⟨rfl,hb⟩;have hB2:=Lib.hid (hB1.out.trans (hb.mono hB1.out.size));clear hb hB1
 by_cases h6:6<l.length
 · have m1:decide ((6:Int)<(l.length:Int))=true:=decide_eq_true (by omega);have n1:decide (6<l.length)=true:=decide_eq_true (by omega);replace h6:=Lib.hid h6;go_wp2;go_ret;exact⟨rfl,hB2.out⟩
 · have m1 : decide ((6:Int)<(l.length:Int))=false:=decide_eq_false (by omega);have n1:decide (6<l.length)=false:=decide_eq_false (by omega);obtain⟨xb,hxb⟩:∃x,x=w2.heap.size:=⟨_,rfl⟩;obtain⟨w0,hw0⟩:∃W,W=(w2.alloc (.cells #[.slice none 0 0,.slice none 0 0,.slice none 0 0] 25)):=⟨_,rfl⟩;have hB0:Hid (Below w.heap.size w w0):=by rw[hw0];exact hB2.out.alloc hB2.out.size _
   have hX0:Hid (Bk w0 xb 25 [.slice none (nmV 0).length 0,.slice none 0 0,.slice none 0 0]):=by rw[hw0,hxb];exact Bk.new _ _ _
   have hO0:Hid (w0.ownsRow (xb+1) 9 1 (.slice none 0 0) 0 (nmV 0)):=World.ownsRow_nil _ _ _ _;have hwx:Hid (w.heap.size≤xb):=by rw[hxb];exact hB2.out.size
   obtain⟨i0,hi0,hzz⟩:=Option.map_eq_some_iff.1 infoS;simp only[Prod.mk.injEq]at hzz;obtain⟨hz0,hz1,hz2⟩:=hzz;replace hi0:=Lib.hid hi0;replace hz0:=Lib.hid hz0;replace hz1:=Lib.hid hz1;replace hz2:=Lib.hid hz2
   go_wp2_with fail
   (try rw[←hw0])
   (try rw[←hxb])
   replace hw0:=Lib.hid hw0;replace hxb:=Lib.hid hxb;clear m1 n1
   go_loopw [6] (fun ix wr=>∃(i:Nat) (Ap:Option Addr) (cp:Nat),i≤l.length+1∧ix=.int .i64 (i:Int)∧Hid (Bk wr xb 25 [.slice Ap i cp,.slice none 0 0,.slice none 0 0])∧Hid (wr.ownsRow (xb+1) 9 1 (.slice Ap i cp) i (nmV i))∧Hid (Below w.heap.size w wr)) (fun ix _=>l.length+1-(intOf ix).toNat)
   case atStart=>exact⟨0,none,0,Nat.zero_le _,rfl,hX0,hO0,hB0⟩
   case round =>
    clear hX0 hO0 hB0;obtain⟨i,Ap,cp,hi,rfl,hX,hO,hB⟩:=hrel;obtain⟨wi,rfl⟩:∃z,z=wr:=⟨_,rfl⟩
    by_cases hil:i≤l.length
    · have m1:decide ((i:Int)≤(l.length:Int))=true:=decide_eq_true (by omega);have x0:=hX.out.cell (j:=0) rfl;have x9:=hX.out.lt;have hwr:=wrap_u8 (i:=i) (by omega);have hcv:=cv_name wi i (by omega);have hBn:Hid (Below wi.heap.size wi ((wi.alloc (.cells #[.int .u8 (97+(i:Int))] 5)).alloc (.cells #[.string (chN i)] 9))):=((Below.refl _ wi).alloc (Nat.le_refl _) _).alloc (by simp) _;have hXn:=Lib.hid (hX.out.below hBn.out);have had:Hid (∀j u,[Value.string (chN i)][j]? = some u→((wi.alloc (.cells #[.int .u8 (97+(i:Int))] 5)).alloc (.cells #[.string (chN i)] 9)).cell? (Addr.add ⟨wi.heap.size+1,0,none⟩ j)=some u):=by have h:=Ci.head_new (wi.alloc (.cells #[.int .u8 (97+(i:Int))] 5)) (.string (chN i)) 9;rw[World.size_alloc]at h;exact h
      have hrow:Hid (((wi.alloc (.cells #[.int .u8 (97+(i:Int))] 5)).alloc (.cells #[.string (chN i)] 9)).ownsRow (xb+1) 9 1 (.slice Ap i cp) i (nmV i)):=own_below' hO.out hBn.out;have hbs:Hid (xb+1≤((wi.alloc (.cells #[.int .u8 (97+(i:Int))] 5)).alloc (.cells #[.string (chN i)] 9)).heap.size):=Nat.le_trans hX.out.lt hBn.out.size;have hi7:Hid (i≤6):=by unfold Hid;omega
      have hst:Hid (∀v' w',w'.ownsRow (xb+1) 9 1 v' (i+1) (nmV i++[.string (chN i)])→((wi.alloc (.cells #[.int .u8 (97+(i:Int))] 5)).alloc (.cells #[.string (chN i)] 9)).grownBy w' (Value.slice Ap i cp).ownBlock→∃A2 c2,v'=.slice A2 (i+1) c2∧Bk w' xb 25 [.slice Ap i cp,.slice none 0 0,.slice none 0 0]∧Below w.heap.size w w'∧(w'.setCell ⟨xb,0,none⟩ (.slice A2 (i+1) c2)).ownsRow (xb+1) 9 1 (.slice A2 (i+1) c2) (i+1) (nmV (i+1))):=fun v' w' h1 h2=>by
       obtain⟨A2,c2,rfl⟩:=Ci.own_form h1;have hx:=hXn.out.grown h2 (fun e=>by have:=(hrow.out.lt xb e.symm).1;omega);refine⟨A2,c2,rfl,hx,(hB.out.trans (hBn.out.mono hB.out.size)).trans ⟨h2.os,h2.tape,h2.output,h2.size,fun k hk=>h2.block k (Nat.lt_of_lt_of_le hk (Nat.le_trans hB.out.size hBn.out.size)) fun e=>by have h3:=(hrow.out.lt k e.symm).1;have h4:=hwx.out;omega⟩,?_⟩;rw[nmV_succ];exact Nt.own_far h1 (fun e=>by have:=(h1.lt xb e).1;omega)
      clear hO hX
      go_wp2_with (at_builtin;refine Ci.wpList_append_new _ rfl _ _ 22 rfl (xb+1) 9 i0 (.string ⟨#[]⟩) 1 16 Tryz.underlying22 hi0.out hz0.out hz1.out hz2.out rfl (by decide) (.slice Ap i cp) i (nmV i) rfl hrow.out ⟨wi.heap.size+1,0,none⟩ 1 1 [.string (chN i)] rfl rfl had.out (Ci.one_cell1 _ rfl) (by decide) (by have:=hi7.out;unfold maxLen;omega) (by have:=hi7.out;omega) hbs.out ?_;intro v' w' ho hg hn;obtain⟨A2,c2,hv',hX2,hB2,hO2⟩:=hst.out v' w' ho hg;replace hX2:=Lib.hid hX2;replace hB2:=Lib.hid hB2;replace hO2:=Lib.hid hO2;have z0:=hX2.out.frozen 0;have z1:=hX2.out.cell (j:=0) rfl;have z9:=hX2.out.lt;clear ho hg hn x0 x9;subst hv')
      have hX3:=Lib.hid (hX2.out.set 0 (.slice A2 (i+1) c2));have hB3:=Lib.hid (hB2.out.setCell (p:=⟨xb,0,none⟩) hwx.out (.slice A2 (i+1) c2));exact⟨⟨i+1,A2,c2,by omega,by go_num,hX3,hO2,hB3⟩,by simp only[intOf];omega⟩
    · obtain rfl:i=l.length+1:=by omega
      have m1:decide (((l.length+1:Nat):Int)≤(l.length:Int))=false:=decide_eq_false (by omega);have m2:decide ((l.length:Int)+1≤(l.length:Int))=false:=decide_eq_false (by omega);have hmk:=run_make_q 29 Tryz.underlying29 (l.length+1) (by omega);have hcast:((l.length+1:Nat):Int)=(l.length:Int)+1:=by omega
      rw[hcast]at hmk;obtain⟨vb,hvb⟩:∃x,x=wi.heap.size:=⟨_,rfl⟩;obtain⟨wa,hwa⟩:∃W,W=(wi.alloc (.cells (rowL (l.length+1) fun _=>zraw).toArray 37)):=⟨_,rfl⟩;have hBa:Hid (Below wi.heap.size wi wa):=by rw[hwa];exact(Below.refl _ wi).alloc (Nat.le_refl _) _
      have hRa:Hid (RowB wa vb (l.length+1) fun _=>zraw):=by rw[hwa,hvb];exact heap_alloc_new wi _
      have hXa:=Lib.hid (hX.out.below hBa.out);have hBwa:=Lib.hid (hB.out.trans (hBa.out.mono hB.out.size));have hOa:=Lib.hid (own_below' hO.out hBa.out);have hvx:Hid (xb<vb):=by rw[hvb];exact hX.out.lt
      have hwlt:Hid (∀b,(Value.slice Ap (l.length+1) cp).ownBlock=some b→b<vb):=fun b e=>by rw[hvb];exact(hO.out.lt b e).2
      have ko:Hid (Calls Tryz.prog 20 #[.int .i64 1,.int .i64 1] wa fun e w'=>e=.returned (.agg #[.bool (rq (1)).1,.string (rq (1)).2.1,.string (rq (1)).2.2])∧Below wa.heap.size wa w'):=by have h:=of20_any 1 1 wa (hE.out.below hBwa.out) (by omega) (by omega) (by omega) (by omega) (by omega);rw[ofQ_one',show ((1:Int):Rat)=1 from rfl]at h;exact h
      replace hcast:=Lib.hid hcast
      go_wp2_with fail
      (try rw[←hwa])
      (try rw[←hvb])
      replace hwa:=Lib.hid hwa;replace hvb:=Lib.hid hvb;clear hmk m1 m2 hX hO hB;refine ko.out.mono ?_;rintro e wb ⟨rfl,hb⟩;have hBb:=Lib.hid (hBwa.out.trans (hb.mono hBwa.out.size));have hXb:=Lib.hid (hXa.out.below hb);have hOb:=Lib.hid (own_below' hOa.out hb);have hRb:=Lib.hid (hRa.out.below hb hRa.out.lt);have hwv:Hid (w.heap.size≤vb):=by have:=hvx.out;have:=hwx.out;unfold Hid;omega
      clear hb ko hBwa hXa hOa hRa hBa;obtain⟨r1,r2,r3⟩:=hRb.out.cell (j:=l.length) (by omega);have f1:=hRb.out.frozen (l.length*3);have f2:=hRb.out.frozen (l.length*3+1);have f3:=hRb.out.frozen (l.length*3+2);have r9:=hRb.out.lt;unfold zraw at r1 r2 r3;have q0:(0:Int)≤(l.length:Int):=by omega
      have q1:(l.length:Int)<(l.length:Int)+1:=by omega
      have hchn:(chS l).ps.length=l.length+1:=by simp[chS]
      obtain⟨hev1,hev2⟩:=ch_ev l (by omega);obtain⟨DD,hvals⟩:=ev_vals (F:=[(l.length:Int)]) (ch_sound l (by omega)) (few_many _ (ch_sound l (by omega)) (by omega));replace hchn:=Lib.hid hchn;obtain⟨E,hEd⟩:∃E,E=ev (chS l) [(l.length:Int)]:=⟨_,rfl⟩;rw[←hEd]at hev1 hev2 hvals;replace hvals:=Lib.hid hvals;replace hEd:=Lib.hid hEd;replace hev1:=Lib.hid hev1;replace hev2:=Lib.hid hev2;obtain⟨wc,hwc⟩:∃W,W=(((wb.setCell ⟨vb,l.length*3,none⟩ (.bool (rq 1).1)).setCell ⟨vb,l.length*3+1,none⟩ (.string (rq 1).2.1)).setCell ⟨vb,l.length*3+2,none⟩ (.string (rq 1).2.2)):=⟨_,rfl⟩;have hBc:Hid (Below w.heap.size w wc):=by rw[hwc];exact((hBb.out.setCell (p:=⟨vb,l.length*3,none⟩) hwv.out _).setCell (p:=⟨vb,l.length*3+1,none⟩) hwv.out _).setCell (p:=⟨vb,l.length*3+2,none⟩) hwv.out _
      have hKc:Hid (Kp [vb] wb wc):=by rw[hwc];exact Kp.set (a:=⟨vb,l.length*3+2,none⟩) (Kp.set (a:=⟨vb,l.length*3+1,none⟩) (Kp.set (a:=⟨vb,l.length*3,none⟩) (Kp.refl [vb] wb) _ (.inl (by simp))) _ (.inl (by simp))) _ (.inl (by simp))
      have hRc:Hid (RowB wc vb (l.length+1) fun j=>if l.length≤j then rq (E j) else zraw):=by rw[hwc];exact(hRb.out.set (j:=l.length) (by omega) (rq 1)).congr fun j hj=>by by_cases c:j=l.length;(· rw[if_pos c,if_pos (by omega),c,hev1.out]);(· rw[if_neg c,if_neg (by omega)])
      have hXc:=Lib.hid (hXb.out.kp hKc.out (by have:=hvx.out;simp;omega));have hOc:=Lib.hid (own_kpS hOb.out hKc.out (fun b e hm=>by have h2:=hwlt.out b e;simp at hm;omega))
      go_wp2_with fail
      (try rw[←hwc])
      replace hwc:=Lib.hid hwc;clear r1 r2 r3 f1 f2 f3 r9 hRb hBb hXb hOb hKc;have hK0:Hid (Kp [vb] wc wc):=Kp.refl _ _
      go_loopw [8] (fun ix wr=>∃(m:Nat),m≤l.length∧ix=.int .i64 ((m:Int)-1)∧Hid (Kp [vb] wc wr)∧Hid (RowB wr vb (l.length+1) fun j=>if m≤j then rq (E j) else zraw)) (fun ix _=>(intOf ix+1).toNat)
      case atStart=>exact⟨l.length,Nat.le_refl _,by go_num,hK0,hRc⟩
      case round =>
       clear hK0 hRc;obtain⟨m,hm,rfl,hK,hR⟩:=hrel;obtain⟨wm,rfl⟩:∃z,z=wr:=⟨_,rfl⟩;have hBm:Hid (Below w.heap.size w wm):=hK.out.to_below hBc.out (fun x hx=>by have:=hwv.out;simp at hx;omega)
       cases m with
       | succ k =>
         have ek:((k+1:Nat):Int)-1=(k:Int):=by omega
         rw[ek];clear ek;have hkl:k<l.length:=by omega
         obtain⟨ab,ao,rfl,hal,hac⟩:=(hA.out.below hBm.out) (by omega);have a0:=hac k hkl;clear hac;have hb8:=h8 _ (List.getElem_mem hkl);have hEk:=hev2.out k hkl;have hgd:l.getD k 0=l[k]:=by simp[hkl]
         rw[hgd]at hEk;obtain⟨b,hb⟩:∃b,b=l[k]:=⟨_,rfl⟩;rw[←hb]at a0 hb8 hEk;replace hb:=Lib.hid hb;clear hgd;obtain⟨r,hr⟩:∃r,r=b%100:=⟨_,rfl⟩;have hr1:(b:Int).tmod 100=(r:Int):=by rw[Int.tmod_eq_emod_of_nonneg (by omega)];omega
         have hr2:(b:Int)%100=(r:Int):=by omega
         have hr3:r<100:=by omega
         have hpr:prt b=ofQ (1+(r:Int)) 100:=by rw[hr];rfl
         replace hr:=Lib.hid hr;have hcv:=wrap_u8 (i:=0) (by omega);clear hcv;have kp:Hid (Calls Tryz.prog 20 #[.int .i64 (1+(r:Int)),.int .i64 100] wm fun e w'=>e=.returned (.agg #[.bool (rq (prt b)).1,.string (rq (prt b)).2.1,.string (rq (prt b)).2.2])∧Below wm.heap.size wm w'):=by rw[hpr];exact of20_any _ 100 wm (hE.out.below hBm.out) (by omega) (by omega) (by omega) (by omega) (by omega)
         replace hpr:=Lib.hid hpr;have q2:(0:Int)≤(k:Int):=by omega
         have q3:(k:Int)<(l.length:Int):=by omega
         go_wp2_with fail
         refine kp.out.mono ?_;rintro e wp ⟨rfl,hbb⟩;have hKp:=Lib.hid (hK.out.below hbb);have hRp:=Lib.hid (hR.out.below hbb hR.out.lt);clear hbb kp hK hR a0 hal;obtain⟨pb,hpb⟩:∃x,x=wp.heap.size:=⟨_,rfl⟩;obtain⟨wl,hwl⟩:∃W,W=(wp.alloc (.cells #[.bool (rq (prt b)).1,.string (rq (prt b)).2.1,.string (rq (prt b)).2.2] 37)):=⟨_,rfl⟩;have hKl:Hid (Kp [vb] wc wl):=by rw[hwl];exact hKp.out.alloc _
         have hRl:Hid (RowB wl vb (l.length+1) fun j=>if k+1≤j then rq (E j) else zraw):=by rw[hwl];exact hRp.out.alloc _
         have hPl:Hid (Bk wl pb 37 [.bool (rq (prt b)).1,.string (rq (prt b)).2.1,.string (rq (prt b)).2.2]):=by rw[hwl,hpb];exact Bk.new _ _ _
         have hpv:Hid (vb<pb):=by rw[hpb];exact hRp.out.lt
         clear hKp hRp;have hBl:Hid (Below w.heap.size w wl):=hKl.out.to_below hBc.out (fun x hx=>by have:=hwv.out;simp at hx;omega)
         go_wp2_with fail
         (try rw[←hwl])
         (try rw[←hpb])
         replace hwl:=Lib.hid hwl;replace hpb:=Lib.hid hpb;have hrow1:Hid (∀W,Below wl.heap.size wl W→RowB W vb (l.length+1) fun j=>if k+1≤j then rq (E j) else zraw):=fun W h=>hRl.out.below h hRl.out.lt
         have HS:Hid (∀W,Below wl.heap.size wl W→(fun W=>W.cell? ⟨pb,0,none⟩=some (.bool (rq (prt b)).1)∧W.cell? ⟨pb,1,none⟩=some (.string (rq (prt b)).2.1)∧W.cell? ⟨pb,2,none⟩=some (.string (rq (prt b)).2.2)∧W.cell? ⟨vb,(k+1)*3,none⟩=some (.bool (rq (E (k+1))).1)∧W.cell? ⟨vb,(k+1)*3+1,none⟩=some (.string (rq (E (k+1))).2.1)∧W.cell? ⟨vb,(k+1)*3+2,none⟩=some (.string (rq (E (k+1))).2.2)) W):=fun W h=>by
          have h1:=(hrow1.out W h).cell (j:=k+1) (by omega);rw[if_pos (Nat.le_refl (k+1))]at h1;exact⟨(hPl.out.below h).cell (j:=0) rfl,(hPl.out.below h).cell (j:=1) rfl,(hPl.out.below h).cell (j:=2) rfl,h1.1,h1.2.1,h1.2.2⟩
         have hset:Hid (∀W,Below wl.heap.size wl W→RowB (((W.setCell ⟨vb,k*3,none⟩ (.bool (rq (E k)).1)).setCell ⟨vb,k*3+1,none⟩ (.string (rq (E k)).2.1)).setCell ⟨vb,k*3+2,none⟩ (.string (rq (E k)).2.2)) vb (l.length+1) fun j=>if k≤j then rq (E j) else zraw):=fun W h=>((hrow1.out W h).set (j:=k) (by omega) (rq (E k))).congr fun j _=>by by_cases c:j=k;(· rw[if_pos c,if_pos (by omega),c]);(· rw[if_neg c];by_cases d:k+1≤j;(· rw[if_pos d,if_pos (by omega)]);(· rw[if_neg d,if_neg (by omega)]))
         have HS3:Hid (∀W,Below wl.heap.size wl W→(fun W=>W.cell? ⟨pb,0,none⟩=some (.bool (rq (prt b)).1)∧W.cell? ⟨pb,1,none⟩=some (.string (rq (prt b)).2.1)∧W.cell? ⟨pb,2,none⟩=some (.string (rq (prt b)).2.2)∧W.cell? ⟨vb,(k+1)*3,none⟩=some (.bool (rq (E (k+1))).1)∧W.cell? ⟨vb,(k+1)*3+1,none⟩=some (.string (rq (E (k+1))).2.1)∧W.cell? ⟨vb,(k+1)*3+2,none⟩=some (.string (rq (E (k+1))).2.2)) (((W.setCell ⟨vb,k*3,none⟩ (.bool (rq (E k)).1)).setCell ⟨vb,k*3+1,none⟩ (.string (rq (E k)).2.1)).setCell ⟨vb,k*3+2,none⟩ (.string (rq (E k)).2.2))):=fun W h=>by
          have h1:=(hset.out W h).cell (j:=k+1) (by omega);rw[if_pos (Nat.le_succ k)]at h1;have hne:pb≠vb:=by have:=hpv.out;omega
          have hb:=(((hPl.out.below h).far (p:=⟨vb,k*3,none⟩) hne (.bool (rq (E k)).1)).far (p:=⟨vb,k*3+1,none⟩) hne (.string (rq (E k)).2.1)).far (p:=⟨vb,k*3+2,none⟩) hne (.string (rq (E k)).2.2);exact⟨hb.cell (j:=0) rfl,hb.cell (j:=1) rfl,hb.cell (j:=2) rfl,h1.1,h1.2.1,h1.2.2⟩
         have km:Hid (∀W,Env W→Calls Tryz.prog 21 #[.agg #[.bool (rq (prt b)).1,.string (rq (prt b)).2.1,.string (rq (prt b)).2.2],.agg #[.bool (rq (E (k+1))).1,.string (rq (E (k+1))).2.1,.string (rq (E (k+1))).2.2]] W fun e w'=>e=.returned (.tuple #[.agg #[.bool (rq (E k)).1,.string (rq (E k)).2.1,.string (rq (E k)).2.2],.int .i64 0])∧Below W.heap.size W w'):=fun W hW=>by rw[hEk];exact Mul_short _ _ (prt_ok b).2.2.2 (hvals.out.short _) W hW
         have hEl:Hid (∀W,Below wl.heap.size wl W→Env W):=fun W h=>hE.out.below (hBl.out.trans (h.mono hBl.out.size));replace hEk:=Lib.hid hEk;have hD:Hid (Below wl.heap.size wl wl.drew):=(Below.refl _ _).drew;have q4:(0:Int)≤(k:Int)+1:=by omega
         have q5:(k:Int)+1<(l.length:Int)+1:=by omega
         have q6:(k:Int)<(l.length:Int)+1:=by omega
         have q7:((k:Int)+1).toNat=k+1:=by omega
         have q10:IntKind.i64.wrap ((k:Int)+1)=(k:Int)+1:=IntWalk.i64_in _ (by omega);have q8:(k:Int)+1<((l.length+1:Nat):Int):=by omega
         have q9:(k:Int)<((l.length+1:Nat):Int):=by omega
         go_region_held3 (fun W=>W.cell? ⟨pb,0,none⟩=some (.bool (rq (prt b)).1)∧W.cell? ⟨pb,1,none⟩=some (.string (rq (prt b)).2.1)∧W.cell? ⟨pb,2,none⟩=some (.string (rq (prt b)).2.2)∧W.cell? ⟨vb,(k+1)*3,none⟩=some (.bool (rq (E (k+1))).1)∧W.cell? ⟨vb,(k+1)*3+1,none⟩=some (.string (rq (E (k+1))).2.1)∧W.cell? ⟨vb,(k+1)*3+2,none⟩=some (.string (rq (E (k+1))).2.2)) (first | (with_reducible exact HS.out _ hD.out) | (with_reducible exact HS.out _ h8.out) | (with_reducible exact HS3.out _ h8.out) | go_keep) (first | (go_at_call 21;refine(km.out _ ?_).mono ?_;(with_reducible exact hEl.out _ hD.out);rintro e w8 ⟨rfl,hb2⟩;have h8:=Lib.hid (hD.out.trans (hb2.mono hD.out.size));obtain⟨r1,r2,r3⟩:=(hrow1.out _ h8.out).cell (j:=k) (by omega);rw[if_neg (by omega)]at r1 r2 r3;have f1:=(hrow1.out _ h8.out).frozen (k*3);have f2:=(hrow1.out _ h8.out).frozen (k*3+1);have f3:=(hrow1.out _ h8.out).frozen (k*3+2);have r9:=(hrow1.out _ h8.out).lt;clear hb2))
         obtain⟨w9,hw9⟩:∃W,W=((w8.setCell ⟨vb,k*3,none⟩ (.bool (rq (E k)).1)).setCell ⟨vb,k*3+1,none⟩ (.string (rq (E k)).2.1)).setCell ⟨vb,k*3+2,none⟩ (.string (rq (E k)).2.2):=⟨_,rfl⟩;have hK9:Hid (Kp [vb] wc w9):=by rw[hw9];exact Kp.set (a:=⟨vb,k*3+2,none⟩) (Kp.set (a:=⟨vb,k*3+1,none⟩) (Kp.set (a:=⟨vb,k*3,none⟩) (hKl.out.below h8.out) _ (.inl (by simp))) _ (.inl (by simp))) _ (.inl (by simp))
         have hR9:Hid (RowB w9 vb (l.length+1) fun j=>if k≤j then rq (E j) else zraw):=by rw[hw9];exact hset.out _ h8.out
         rw[←hw9];replace hw9:=Lib.hid hw9;clear HS HS3 hset hrow1 km hEl hD h8 hKl hRl hPl hBl r1 r2 r3 f1 f2 f3 r9 hpv q10
         go_wp2_with fail
         exact⟨⟨k,by omega,by go_num,hK9,hR9⟩,by simp only[intOf];omega⟩
       | zero =>
         have ek:((0:Nat):Int)-1=-1:=rfl;rw[ek];clear ek;have hRz:Hid (RowB wm vb (l.length+1) fun j=>rq (E j)):=hR.out.congr fun j _=>by rw[if_pos (Nat.zero_le j)]
         clear hR;have hXm:=Lib.hid (hXc.out.kp hK.out (by have:=hvx.out;simp;omega));have hOm:=Lib.hid (own_kpS hOc.out hK.out (fun b e hm=>by have h2:=hwlt.out b e;simp at hm;omega));clear hK hXc hOc
         go_wp2_with fail
         have hxm:Hid (xb<wm.heap.size):=hXm.out.lt;have hK0:Hid (Kp [xb] wm wm):=Kp.refl _ _;have hl0:Hid (wm.ownsRow wm.heap.size 42 5 (.slice none 0 0) 0 (lksL (chL l 0))):=World.ownsRow_nil _ _ _ _;have hwA:Hid (∀W,Kp [xb] wm W→Below w.heap.size w W):=fun W h=>h.to_below hBm.out (fun x hx=>by have:=hwx.out;simp at hx;omega)
         go_loopw [11] (fun ix wr=>∃(i:Nat) (A2:Option Addr) (c2:Nat),i≤l.length∧ix=.int .i64 (i:Int)∧Hid (Kp [xb] wm wr)∧Hid (Bk wr xb 25 [.slice Ap (l.length+1) cp,.slice A2 i c2,.slice none 0 0])∧Hid (wr.ownsRow wm.heap.size 42 5 (.slice A2 i c2) i (lksL (chL l i)))) (fun ix _=>l.length-(intOf ix).toNat)
         case atStart=>exact⟨0,none,0,Nat.zero_le _,rfl,hK0,hXm,hl0⟩
         case round =>
          clear hK0 hXm hl0;obtain⟨i,A2,c2,hi3,rfl,hK,hX,hO⟩:=hrel;obtain⟨w3,rfl⟩:∃z,z=wr:=⟨_,rfl⟩
          by_cases hil3:i<l.length
          · obtain⟨ab,ao,rfl,hal,hac⟩:=hA.out (by omega);have hBw:=Lib.hid (hwA.out _ hK.out);have a0:=(hBw.out.cell (p:=⟨ab,ao+i,none⟩) hal).trans (hac i hil3);have hb8:=h8 _ (List.getElem_mem hil3);have hgd:l.getD i 0=l[i]:=by simp[hil3]
            have hcs:=chL_succ l i;rw[hgd]at hcs;obtain⟨b,hb⟩:∃b,b=l[i]:=⟨_,rfl⟩;rw[←hb]at a0 hb8 hcs;replace hb:=Lib.hid hb;replace hcs:=Lib.hid hcs;replace a0:=Lib.hid a0;replace hal:=Lib.hid hal;clear hgd hac;have j1:decide ((i:Int)<(l.length:Int))=true:=decide_eq_true (by omega)
            go_wp2_with fail
            refine sc23 ab ao l.length c xb i c2 wm.heap.size b A2 (.slice Ap (l.length+1) cp) (.slice none 0 0) (chL l i) w3 (hE.out.below hBw.out) hX.out hO.out a0.out (Nat.lt_of_lt_of_le hal.out hBw.out.size) hil3 (by omega) hb8 hK.out.size hxm.out (by have h1:=hal.out;have h2:=hBm.out.size;omega) (by have h1:=hal.out;have h2:=hwx.out;omega) ?_;intro _ _ _ _ _ _ _ _ _ _ _ _ _ _ _ _ _ W Az cz k1 k2 k3 k4;have hKf:Hid (Kp [xb] wm W):=⟨k4.out.1.trans hK.out.os,k4.out.2.1.trans hK.out.tape,k4.out.2.2.1.trans hK.out.output,Nat.le_trans hK.out.size k4.out.2.2.2,fun k hk hx=>(k3.out k hk (by simpa using hx)).trans (hK.out.block k hk hx)⟩;have hOf:Hid (W.ownsRow wm.heap.size 42 5 (.slice Az (i+1) cz) (i+1) (lksL (chL l (i+1)))):=by rw[hcs.out];exact k2.out
            clear k2 k3 k4 hK hX hO j1;go_wp2;exact⟨⟨i+1,Az,cz,by omega,by go_num,hKf,k1,hOf⟩,by simp only[intOf];omega⟩
          · obtain rfl:i=l.length:=by omega
            have hBw:=Lib.hid (hwA.out _ hK.out);have hS3:=Lib.hid (own_strs (own_kpS hOm.out hK.out (fun b e hm=>by have h1:=(hOm.out.lt b e).1;simp at hm;omega)));have hL3:Hid (InLk w3 A2 (chL l l.length)):=ownLk hO.out (chL_len l l.length);have hR3:Hid (RowB w3 vb (l.length+1) fun j=>rq (E j)):=rowB_kp hRz.out hK.out (by have:=hvx.out;simp;omega);clear hRz hOm hO;have hB1:Hid (Below w3.heap.size w3 (w3.alloc (.cells #[.int .i64 (l.length:Int)] 3))):=(Below.refl _ w3).alloc (Nat.le_refl _) _
            have kE:Hid (Calls Tryz.prog 17 #[.agg #[.slice Ap (l.length+1) cp,.slice A2 l.length c2,.slice none 0 0],.slice (some ⟨w3.heap.size,0,none⟩) 1 1] (w3.alloc (.cells #[.int .i64 (l.length:Int)] 3)) fun e w'=>(∃b,e=.returned (.tuple #[.slice (some ⟨b,0,none⟩) (l.length+1) (l.length+1),.int .i64 0])∧RowB w' b (l.length+1) fun p=>rq (E p))∧Below ((w3.alloc (.cells #[.int .i64 (l.length:Int)] 3))).heap.size (w3.alloc (.cells #[.int .i64 (l.length:Int)] 3)) w'):=by
             have e1:=hchn.out;have e2:(chS l).cap.length=l.length:=chL_len l l.length;have hsd:=ch_sound l (by omega);have h:=eff7_any (chS l) Ap A2 none (some ⟨w3.heap.size,0,none⟩) cp c2 0 1 [(l.length:Int)] (w3.alloc (.cells #[.int .i64 (l.length:Int)] 3)) (hE.out.below (hBw.out.trans (hB1.out.mono hBw.out.size))) ⟨hS3.out.below hB1.out,hL3.out.below hB1.out,(fun h=>absurd h (Nat.lt_irrefl 0)),(by rw[e1];omega),(by rw[e2];omega),(show 0≤140737488355328 by decide),ch_zp l,ch_zc l (by omega),(fun x hx=>by cases hx),ch_ic l (by omega),(fun x hx=>by cases hx)⟩ (by rw[e1];omega) (by rw[e2];omega) (inIntB (Bk.new _ _ _)) (show 1≤140737488355328 by decide);rw[e1,e2]at h;refine h.mono fun e w' h=>⟨?_,h.2⟩;have h1:=h.1;rw[if_pos ⟨hsd,list_one l.length⟩]at h1;obtain⟨b,e3,_,e4⟩:=h1;exact⟨b,e3,by rw[hEd.out];exact e4⟩
            have hX0:=hX.out;have u0:=hX0.cell (j:=0) rfl;have u1:=hX0.cell (j:=1) rfl;have u2:=hX0.cell (j:=2) rfl;have u9:=hX0.lt;clear hX0;have j1:decide ((l.length:Int)<(l.length:Int))=false:=decide_eq_false (by omega)
            go_wp2_with fail
            refine kE.out.mono ?_;rintro e w4 ⟨⟨eb,rfl,hRe⟩,hb⟩;have hB4:=Lib.hid ((hBw.out.trans (hB1.out.mono hBw.out.size)).trans (hb.mono (hBw.out.trans (hB1.out.mono hBw.out.size)).size));have hR4:=Lib.hid ((hR3.out.alloc _).below hb (hR3.out.alloc _).lt);have hE4:=Lib.hid hRe;clear hb kE hRe hR3 hB1 hL3 hS3 u0 u1 u2 u9 hX hK j1
            have kS:Hid (Calls Tryz.prog 19 #[.slice (some ⟨eb,0,none⟩) (l.length+1) (l.length+1),.slice (some ⟨vb,0,none⟩) (l.length+1) (l.length+1)] w4 fun e w'=>e=.returned (.bool true)∧Below w4.heap.size w4 w'):=by
             have h:=same20_any (some ⟨eb,0,none⟩) (some ⟨vb,0,none⟩) (l.length+1) (l.length+1) (outL (l.length+1) E) (outL (l.length+1) E) w4 (inRow_rowB hE4.out) (inRow_rowB hR4.out) (by rw[outL_length];omega);rw[outL_length,decide_eq_true rfl]at h;exact h
            go_wp2_with fail
            refine kS.out.mono ?_;rintro e w5 ⟨rfl,hb⟩;have hB5:=Lib.hid (hB4.out.trans (hb.mono hB4.out.size));clear hb kS;go_wp2;go_ret;exact⟨rfl,hB5.out⟩
end Sh
end Go.Proofs.YtioidbebjgeahaaGreatDoor

/- Texts that the proof needs: LawSAppr. -/
import Derived.Deep.RegionHeld3
import Derived.Deep.QuietTactic
import Derived.BigQuiet
import Derived.Test.YtioidbebjgeahaaGreatDoorKtA
import Derived.Test.YtioidbebjgeahaaGreatDoorKtB
import Derived.Test.YtioidbebjgeahaaGreatDoorKtC
import Derived.Test.YtioidbebjgeahaaGreatDoorKtD
import Derived.Test.YtioidbebjgeahaaGreatDoorKtE
import Derived.Test.YtioidbebjgeahaaGreatDoorKtF
import Derived.Test.YtioidbebjgeahaaGreatDoorKtG
import Derived.Test.YtioidbebjgeahaaGreatDoorKtH
import Derived.Test.YtioidbebjgeahaaGreatDoorKtI
set_option maxHeartbeats 16000000
set_option maxRecDepth 100000
namespace Go.Proofs.YtioidbebjgeahaaGreatDoor
open Go.RowKit Go.Shelf
namespace Sh
open Nt Ci
def apx (L:List Lp) (F:List Nat):Nat→Nat→Rat
 | 0,p=>if p∈F then 1 else 0
 | r+1,p=>if p∈F then 1 else lsum p (apx L F r) L
section
variable {n:Nat} {L:List Lp} {F:List Nat} {e:Nat→Rat}
theorem apx_listed (L:List Lp) {F:List Nat} (r:Nat) {p:Nat} (h:p∈F):apx L F r p=1:=by cases r<;>exact if_pos h
theorem apx_next (L:List Lp) {F:List Nat} (r:Nat) {p:Nat} (h:p∉F):apx L F (r+1) p=lsum p (apx L F r) L:=if_neg h
theorem apx_nn (hL:Caps n L):∀r p,0≤apx L F r p
 | 0,p=>by unfold apx;split<;>decide
 | r+1,p=>by
   unfold apx
   split
   · decide
   · exact lsum_nonneg hL.pos fun x _ _=>apx_nn hL r _
theorem apx_mono (hL:Caps n L):∀r p,apx L F r p≤apx L F (r+1) p
 | 0,p=>by
   by_cases h:p∈F
   · rw[apx_listed L 0 h,apx_listed L 1 h];exact Rat.le_refl
   · have e0:apx L F 0 p=0:=if_neg h;rw[e0];exact apx_nn hL 1 p
 | r + 1,p=>by
   by_cases h:p∈F
   · rw[apx_listed L _ h,apx_listed L _ h];exact Rat.le_refl
   · rw[apx_next L r h,apx_next L (r+1) h];exact lsum_le hL.pos fun x _ _=>apx_mono hL r _
theorem apx_le (hL:Caps n L) (he:Eff n L F e):∀r p,apx L F r p≤e p
 | 0,p=>by
   by_cases h:p∈F
   · rw[apx_listed L 0 h,he.listed p h];exact Rat.le_refl
   · have e0:apx L F 0 p=0:=if_neg h;rw[e0];exact(he.rng p).1
 | r + 1,p=>by
   by_cases h:p∈F
   · rw[apx_listed L _ h,he.listed p h];exact Rat.le_refl
   · rw [apx_next L r h]
     by_cases hp:p<n
     · rw[he.sum p hp h];exact lsum_le hL.pos fun x _ _=>apx_le hL he r _
     · rw[lsum_none fun x hx e1=>hp (by have:=(hL.lt x hx).1;omega)];exact(he.rng p).1
theorem apx_whole (hL:Caps n L):∀r p,IsI (((6000^r:Nat):Rat)*apx L F r p)
 | 0,p=>by
   unfold apx
   split
   · exact⟨1,by rw[Rat.mul_one];rfl⟩
   · exact⟨0,by rw[Rat.mul_zero];rfl⟩
 | r + 1,p=>by
   have e1:((6000^(r+1):Nat):Rat)=6000*((6000^r:Nat):Rat):=by
    rw[Nat.pow_succ,Nat.mul_comm,Rat.natCast_mul];rfl
   rw[e1]
   by_cases h:p∈F
   · rw[apx_listed L _ h];exact⟨(6000*6000^r:Nat),by rw[Rat.mul_one,Rat.intCast_natCast,Rat.natCast_mul];rfl⟩
   · rw[apx_next L r h];exact hL.int_sum fun x _ _=>apx_whole hL r _
theorem apx_vals (hL:Caps n L) (he:Eff n L F e) {r:Nat} (hr:r≤5):Vals (apx L F r) (6000^r) :=
 ⟨fun p=>⟨apx_nn hL r p,by have:=apx_le hL he r p;have:=(he.rng p).2;grind⟩,Nat.pow_pos (by omega),Nat.pow_le_pow_right (by omega) (by omega),apx_whole hL r⟩
end
theorem own_slice {W:World} {base n:Nat} {v:Value} {xs:List Value} (h:W.ownsRow base 37 3 v n xs) (hv:v≠.slice none 0 0):∃g c,v=.slice (some ⟨g,0,none⟩) n c∧base≤g:=by
 rcases h.2 with⟨e,_⟩ | ⟨g,cap,cur,rfl,hb,_⟩
 · exact absurd e hv
 · exact⟨g,cap,rfl,hb⟩
theorem law20_appr (s : SR) (Ap Ac Av Af:Option Addr) (cp cc cv cf:Nat) (F:List Int) (w:World) (hE:Env w) (hs:StIn w s Ap Ac Av) (hF:InInt w Af F) (hFl:F.length≤140737488355328) :
 Calls Tryz.prog 8 #[.agg #[.slice Ap s.ps.length cp,.slice Ac s.cap.length cc,.slice Av s.vot.length cv],.slice Af F.length cf] w fun e w'=>e=.returned (.bool true)∧Below w.heap.size w w':=by
 have hX1:Hid (Bk (w.alloc (.cells #[.slice Ap s.ps.length cp,.slice Ac s.cap.length cc,.slice Av s.vot.length cv] 25)) w.heap.size 25 (SC s Ap Ac Av cp cc cv)):=Bk.new w _ _;have hB1:Hid (Below w.heap.size w (w.alloc (.cells #[.slice Ap s.ps.length cp,.slice Ac s.cap.length cc,.slice Av s.vot.length cv] 25))):=(Below.refl _ w).alloc (Nat.le_refl _) _;replace hE:=Lib.hid hE;replace hs:=Lib.hid hs;replace hF:=Lib.hid hF;go_enter Tryz.func8,Tryz.ntmps8
 go_wp2_with fail
 refine(head20_any _ (hE.out.below hB1.out)).mono ?_;rintro e w2 ⟨rfl,hb⟩;have hX2:=Lib.hid (hX1.out.below hb);have hB2:=Lib.hid (hB1.out.trans (hb.mono hB1.out.size));clear hb hX1 hB1;have u0:=hX2.out.cell (j:=0) rfl;have u1:=hX2.out.cell (j:=1) rfl;have u2:=hX2.out.cell (j:=2) rfl;have u9:=hX2.out.lt;have kf:=Lib.hid (few7_some s Ap Ac Av cp cc cv w2 (hs.out.below hB2.out))
 go_wp2_with fail
 refine kf.out.mono ?_;rintro e w3 ⟨⟨r,rfl,hr⟩,hb⟩;have hX3:=Lib.hid (hX2.out.below hb);have hB3:=Lib.hid (hB2.out.trans (hb.mono hB2.out.size));clear hb hX2 hB2;clear u0 u1 u2 u9;clear kf;replace hr:=Lib.hid hr
 cases r with
 | false =>
   go_wp2;go_ret;exact⟨rfl,hB3.out⟩
 | true =>
   obtain⟨hp7,hc30,hv30⟩:=hr.out rfl;clear hr
   by_cases hlF:10<F.length
   · have m1:decide ((10:Int)<(F.length:Int))=true:=decide_eq_true (by omega);have n1:decide (10<F.length)=true:=decide_eq_true (by omega);replace hlF:=Lib.hid hlF;go_wp2;go_ret;exact⟨rfl,hB3.out⟩
   · have m1 : decide ((10:Int)<(F.length:Int))=false:=decide_eq_false (by omega);have n1:decide (10<F.length)=false:=decide_eq_false (by omega);have u0:=hX3.out.cell (j:=0) rfl;have u1:=hX3.out.cell (j:=1) rfl;have u2:=hX3.out.cell (j:=2) rfl;have u9:=hX3.out.lt;have kc:=eff7_any s Ap Ac Av Af cp cc cv cf F w3 (hE.out.below hB3.out) (hs.out.below hB3.out) (by omega) (by omega) (hF.out.below hB3.out) (by omega)
     by_cases hg1:soundB s=true∧listB s.ps.length F=true
     rotate_left
     · have kc2:Hid (Calls Tryz.prog 17 #[.agg #[.slice Ap s.ps.length cp,.slice Ac s.cap.length cc,.slice Av s.vot.length cv],.slice Af F.length cf] w3 fun e w'=>e=.returned (.tuple #[.slice none 0 0,.int .i64 1])∧Below w3.heap.size w3 w'):=kc.mono fun e w' h=>⟨by have h1:=h.1;rw[if_neg hg1]at h1;exact h1,h.2⟩;clear kc;replace hg1:=Lib.hid hg1
       go_wp2_with fail
       refine kc2.out.mono ?_;rintro e w4 ⟨rfl,hb⟩;have hX4:=Lib.hid (hX3.out.below hb);have hB4:=Lib.hid (hB3.out.trans (hb.mono hB3.out.size));clear hb hX3 hB3;clear u0 u1 u2 u9;clear kc2 ;go_wp2;go_ret;exact⟨rfl,hB4.out⟩
     · have kc2 : Hid (Calls Tryz.prog 17 #[.agg #[.slice Ap s.ps.length cp,.slice Ac s.cap.length cc,.slice Av s.vot.length cv],.slice Af F.length cf] w3 fun e w'=>(∃b,e=.returned (.tuple #[.slice (some ⟨b,0,none⟩) s.ps.length s.ps.length,.int .i64 0])∧RowB w' b s.ps.length fun p=>rq (ev s F p))∧Below w3.heap.size w3 w'):=kc.mono fun e w' h=>⟨by have h1:=h.1;rw[if_pos hg1]at h1;obtain⟨b,e1,_,e2⟩:=h1;exact⟨b,e1,e2⟩,h.2⟩;clear kc;replace hg1:=Lib.hid hg1
       go_wp2_with fail
       refine kc2.out.mono ?_;rintro e w4 ⟨⟨eb1,rfl,hRow1⟩,hb⟩;have hX4:=Lib.hid (hX3.out.below hb);have hB4:=Lib.hid (hB3.out.trans (hb.mono hB3.out.size));clear hb hX3 hB3;have hRow14:=Lib.hid hRow1;clear hRow1;clear u0 u1 u2 u9;clear kc2 ;clear m1 n1;have hsd:=Lib.hid hg1.out.1;have hmy:=few_many F hsd.out (by omega);have hEf:=Lib.hid (ev_eff hsd.out hmy);obtain⟨D,hvals⟩:=ev_vals (F:=F) hsd.out hmy;have hL:=Lib.hid (caps_of hsd.out);replace hvals:=Lib.hid hvals;replace hmy:=Lib.hid hmy;have hF0:Hid (∀y,y∈F→0≤y):=fun y hy=>by obtain⟨i,hi,rfl⟩:=List.getElem_of_mem hy;exact(lst_at hg1.out.2 hi).1.1
       obtain⟨i0,hi0,hzz⟩:=Option.map_eq_some_iff.1 infoQ;simp only[Prod.mk.injEq]at hzz;obtain⟨hz0,hz1,hz2⟩:=hzz;replace hi0:=Lib.hid hi0;replace hz0:=Lib.hid hz0;replace hz1:=Lib.hid hz1;replace hz2:=Lib.hid hz2;have hmk:=run_make_q 29 Tryz.underlying29 s.ps.length (by omega);have k0:Hid (∀W,Env W→Calls Tryz.prog 20 #[.int .i64 0,.int .i64 1] W fun e w'=>e=.returned (.agg #[.bool (rq (0)).1,.string (rq (0)).2.1,.string (rq (0)).2.2])∧Below W.heap.size W w'):=fun W hW=>by have h:=of20_any 0 1 W hW (by omega) (by omega) (by omega) (by omega) (by omega);rw[ofQ_one',show ((0:Int):Rat)=0 from rfl]at h;exact h
       have k1:Hid (∀W,Env W→Calls Tryz.prog 20 #[.int .i64 1,.int .i64 1] W fun e w'=>e=.returned (.agg #[.bool (rq (1)).1,.string (rq (1)).2.1,.string (rq (1)).2.2])∧Below W.heap.size W w'):=fun W hW=>by have h:=of20_any 1 1 W hW (by omega) (by omega) (by omega) (by omega) (by omega);rw[ofQ_one',show ((1:Int):Rat)=1 from rfl]at h;exact h
       have hlist:Hid (∀p:Nat,p∈toN F↔(p:Int)∈F):=fun p=>by
        unfold toN;rw[List.mem_map];exact⟨fun⟨y,hy,e⟩=>by rw[←e,Int.toNat_of_nonneg (hF0.out y hy)];exact hy,fun h=>⟨(p:Int),h,by simp⟩⟩
       obtain⟨xb0,hxb0⟩:∃x,x=w4.heap.size:=⟨_,rfl⟩;obtain⟨w0,hw0⟩:∃W,W=(w4.alloc (.cells (rowL s.ps.length fun _=>zraw).toArray 37)):=⟨_,rfl⟩;have hB00:Hid (Below w4.heap.size w4 w0):=by rw[hw0];exact(Below.refl _ _).alloc (Nat.le_refl _) _
       have hR00:Hid (RowB w0 xb0 s.ps.length fun j=>if j<0 then rq (apx (capL s.cap) (toN F) 0 j) else zraw):=by rw[hw0,hxb0];refine RowB.congr (r:=fun _=>zraw) (heap_alloc_new _ _) fun j _=>?_;rw[if_neg (Nat.not_lt_zero _)]
       have u0:=hX4.out.cell (j:=0) rfl;have u9:=hX4.out.lt
       go_wp2_with fail
       (try rw[←hw0])
       (try rw[←hxb0])
       replace hw0:=Lib.hid hw0;replace hxb0:=Lib.hid hxb0;clear hmk u0 u9
       go_loopw [9] (fun ix wr=>∃(p:Nat),p≤s.ps.length∧ix=.int .i64 (p:Int)∧Hid (Below w4.heap.size w4 wr)∧Hid (RowB wr xb0 s.ps.length fun j=>if j<p then rq (apx (capL s.cap) (toN F) 0 j) else zraw)) (fun ix _=>s.ps.length-(intOf ix).toNat)
       case atStart=>exact⟨0,Nat.zero_le _,rfl,hB00,hR00⟩
       case round =>
        clear hB00 hR00;obtain⟨p,hp,rfl,hK,hR⟩:=hrel;obtain⟨wp,rfl⟩:∃z,z=wr:=⟨_,rfl⟩;have hBp:=Lib.hid (hB4.out.trans (hK.out.mono hB4.out.size))
        by_cases hpn:p<s.ps.length
        · have kz:=Lib.hid (k0.out wp (hE.out.below hBp.out));have q0:(0:Int)≤(p:Int):=by omega
          have q1:(p:Int)<(s.ps.length:Int):=by omega
          go_wp2_with fail
          refine kz.out.mono ?_;rintro e w6 ⟨rfl,hb⟩;have hK6:=Lib.hid (hK.out.trans (hb.mono hK.out.size));have hR6:=Lib.hid (hR.out.below hb hR.out.lt);clear hb kz hR hK;obtain⟨r1,r2,r3⟩:=hR6.out.cell hpn;have f1:=hR6.out.frozen (p*3);have f2:=hR6.out.frozen (p*3+1);have f3:=hR6.out.frozen (p*3+2);have r9:=hR6.out.lt;have hrw:Hid (w4.heap.size≤xb0):=Nat.le_of_eq hxb0.out.symm;generalize (if p<p then rq (apx (capL s.cap) (toN F) 0 p) else zraw)=rz at r1 r2 r3;obtain⟨w7,hw7⟩:∃W,W=(((w6.setCell ⟨xb0,p*3,none⟩ (.bool (rq (0)).1)).setCell ⟨xb0,p*3+1,none⟩ (.string (rq (0)).2.1)).setCell ⟨xb0,p*3+2,none⟩ (.string (rq (0)).2.2)):=⟨_,rfl⟩;have hK7:Hid (Below w4.heap.size w4 w7):=by rw[hw7];exact((hK6.out.setCell (p:=⟨xb0,p*3,none⟩) hrw.out _).setCell (p:=⟨xb0,p*3+1,none⟩) hrw.out _).setCell (p:=⟨xb0,p*3+2,none⟩) hrw.out _
          have hR7:Hid (RowB w7 xb0 s.ps.length fun j=>if j=p then rq 0 else if j<p then rq (apx (capL s.cap) (toN F) 0 j) else zraw):=by rw[hw7];exact hR6.out.set hpn (rq 0)
          have hB7:=Lib.hid (hB4.out.trans (hK7.out.mono hB4.out.size));have kh:=Lib.hid (has20_any Af cf F (p:Int) w7 (hF.out.below hB7.out) hFl);have hli:=hlist.out p
          by_cases hm:(p:Int)∈F
          · rw[decide_eq_true hm]at kh;have hx1:Hid (apx (capL s.cap) (toN F) 0 p=1):=apx_listed _ 0 (hli.2 hm);replace hm:=Lib.hid hm;clear hli;have ko:=Lib.hid (k1.out w7 (hE.out.below hB7.out))
            go_wp2_with fail
            (try rw[←hw7])
            refine kh.out.mono ?_;rintro e wq ⟨rfl,hq⟩;obtain rfl:=hq.symm;replace hw7:=Lib.hid hw7;clear kh
            go_wp2_with fail
            refine ko.out.mono ?_;rintro e w8 ⟨rfl,hb⟩;have hK8:=Lib.hid (hK7.out.trans (hb.mono hK7.out.size));have hR8:=Lib.hid (hR7.out.below hb hR7.out.lt);clear hb ko hK7 hR7 r1 r2 r3 f1 f2 f3 r9;obtain⟨r1,r2,r3⟩:=hR8.out.cell hpn;rw[if_pos rfl]at r1 r2 r3;have f1:=hR8.out.frozen (p*3);have f2:=hR8.out.frozen (p*3+1);have f3:=hR8.out.frozen (p*3+2);have r9:=hR8.out.lt;have hK9:Hid (Below w4.heap.size w4 (((w8.setCell ⟨xb0,p*3,none⟩ (.bool (rq (1)).1)).setCell ⟨xb0,p*3+1,none⟩ (.string (rq (1)).2.1)).setCell ⟨xb0,p*3+2,none⟩ (.string (rq (1)).2.2))):=((hK8.out.setCell (p:=⟨xb0,p*3,none⟩) hrw.out _).setCell (p:=⟨xb0,p*3+1,none⟩) hrw.out _).setCell (p:=⟨xb0,p*3+2,none⟩) hrw.out _;have hR9:Hid (RowB (((w8.setCell ⟨xb0,p*3,none⟩ (.bool (rq (1)).1)).setCell ⟨xb0,p*3+1,none⟩ (.string (rq (1)).2.1)).setCell ⟨xb0,p*3+2,none⟩ (.string (rq (1)).2.2)) xb0 s.ps.length fun j=>if j<p+1 then rq (apx (capL s.cap) (toN F) 0 j) else zraw):=(hR8.out.set hpn (rq 1)).congr fun j _=>by by_cases c:j=p;(· rw[if_pos c,if_pos (by omega),c,hx1.out]);(· rw[if_neg c,if_neg c];by_cases d:j<p;(· rw[if_pos d,if_pos (by omega)]);(· rw[if_neg d,if_neg (by omega)]))
            go_wp2;exact⟨⟨p+1,by omega,by go_num,hK9,hR9⟩,by simp only[intOf];omega⟩
          · rw[decide_eq_false hm]at kh;have hx1:Hid (apx (capL s.cap) (toN F) 0 p=0):=if_neg (fun h=>hm (hli.1 h));replace hm:=Lib.hid hm;clear hli;have hR9:Hid (RowB w7 xb0 s.ps.length fun j=>if j<p+1 then rq (apx (capL s.cap) (toN F) 0 j) else zraw):=hR7.out.congr fun j _=>by by_cases c:j=p;(· rw[if_pos c,if_pos (by omega),c,hx1.out]);(· rw[if_neg c];by_cases d:j<p;(· rw[if_pos d,if_pos (by omega)]);(· rw[if_neg d,if_neg (by omega)]))
            go_wp2_with fail
            (try rw[←hw7])
            refine kh.out.mono ?_;rintro e wq ⟨rfl,hq⟩;obtain rfl:=hq.symm;replace hw7:=Lib.hid hw7;clear kh;go_wp2;exact⟨⟨p+1,by omega,by go_num,hK7,hR9⟩,by simp only[intOf];omega⟩
        · obtain rfl : p=s.ps.length:=by omega
          have hI0:Hid (InRow wp (some ⟨xb0,0,none⟩) (outL s.ps.length (apx (capL s.cap) (toN F) 0))):=inRow_rowB (hR.out.congr fun j hj=>by rw[if_pos hj]);have hx0:Hid (xb0<wp.heap.size):=hR.out.lt;clear hR;have hX1:=Lib.hid (hX4.out.below hK.out);have hE1:=Lib.hid (hRow14.out.below hK.out hRow14.out.lt);clear hX4 hRow14 hK;have hK0:Hid (Below wp.heap.size wp wp):=Below.refl _ _
          go_wp2_with fail
          go_loopw [8,10] (fun vx ix wr=>∃(r xb c:Nat),r≤5∧ix=.int .i64 (r:Int)∧vx=.slice (some ⟨xb,0,none⟩) s.ps.length c∧Hid (InRow wr (some ⟨xb,0,none⟩) (outL s.ps.length (apx (capL s.cap) (toN F) r)))∧Hid (xb<wr.heap.size)∧Hid (Below wp.heap.size wp wr)) (fun _ ix _=>5-(intOf ix).toNat)
          case atStart=>exact⟨0,xb0,_,by omega,rfl,rfl,hI0,hx0,hK0⟩
          case round =>
           clear hI0 hx0 hK0;obtain⟨r,xb,c,hr,rfl,rfl,hI,hxl,hK⟩:=hrel;obtain⟨wr0,rfl⟩:∃z,z=wr:=⟨_,rfl⟩
           by_cases hr5:r<5
           · have hv1:=Lib.hid (apx_vals hL.out hEf.out hr);have hv2:=Lib.hid (apx_vals hL.out hEf.out (show r+1≤5 by omega));have hBr:=Lib.hid (hBp.out.trans (hK.out.mono hBp.out.size));have hXr:=Lib.hid (hX1.out.below hK.out);have hEr:=Lib.hid (hE1.out.below hK.out hE1.out.lt);have hKr:=hK;clear hK;have mr:decide ((r:Int)<5)=true:=decide_eq_true (by omega);have hown:Hid (World.ownsRow (wr0.alloc (.cells #[] 37)) wr0.heap.size 37 3 (.slice (some ⟨wr0.heap.size,0,none⟩) 0 0) 0 []):=World.ownsRow_made wr0 #[] 0 (Nat.le_refl _) (by unfold maxLen;omega) rfl;have hBe:Hid (Below wr0.heap.size wr0 (wr0.alloc (.cells #[] 37))):=(Below.refl _ wr0).alloc (Nat.le_refl _) _
             have hnews:Hid (∀j u,(rowL s.ps.length fun j=>rq (apx (capL s.cap) (toN F) r j))[j]? = some u→(wr0.alloc (.cells #[] 37)).cell? (Addr.add ⟨xb,0,none⟩ j)=some u):=rowL_cells (fun j hj=>by
              obtain⟨b,o,e,hl,hc⟩:=(hI.out.below hBe.out (Nat.le_refl _)) (by rw[outL_length];omega);simp only[Option.some.injEq,Addr.mk.injEq,and_true]at e;obtain⟨rfl,rfl⟩:=e;have h:=hc j (by rw[outL_length];exact hj);rw[outL_get]at h;exact h)
             have hst:Hid (∀v' w',w'.ownsRow wr0.heap.size 37 3 v' (0+s.ps.length) ([]++rowL s.ps.length fun j=>rq (apx (capL s.cap) (toN F) r j))→(wr0.alloc (.cells #[] 37)).grownBy w' (Value.slice (some ⟨wr0.heap.size,0,none⟩) 0 0).ownBlock→(v'=.slice none 0 0↔(Value.slice (some ⟨wr0.heap.size,0,none⟩) 0 0)=.slice none 0 0∧s.ps.length=0)→∃gb c2,v'=.slice (some ⟨gb,0,none⟩) s.ps.length c2∧wr0.heap.size≤gb∧w'.ownsRow wr0.heap.size 37 3 (.slice (some ⟨gb,0,none⟩) s.ps.length c2) s.ps.length (rowL s.ps.length fun j=>rq (apx (capL s.cap) (toN F) r j))∧Below wr0.heap.size wr0 w'):=fun v' w' h1 h2 h3=>by
              rw[Nat.zero_add,List.nil_append]at h1;obtain⟨gb,c2,rfl,hgb⟩:=own_slice h1 (fun e=>by have:=(h3.1 e).1;cases this);exact⟨gb,c2,rfl,hgb,h1,hBe.out.grown h2 hBe.out.size (fun b e=>by cases e;exact Nat.le_refl _)⟩
             go_wp2_with (at_builtin;refine wpList_append_own _ rfl _ _ 29 rfl wr0.heap.size 37 i0 (.agg #[.bool false,.string ⟨#[]⟩,.string ⟨#[]⟩]) 3 40 Tryz.underlying29 hi0.out hz0.out hz1.out hz2.out rfl (by decide) (.slice (some ⟨wr0.heap.size,0,none⟩) 0 0) 0 [] rfl hown.out ⟨xb,0,none⟩ s.ps.length c (rowL s.ps.length fun j=>rq (apx (capL s.cap) (toN F) r j)) rfl (rowL_length _ _) hnews.out (rowL_one _ _) (by unfold maxLen;omega) (by omega) hBe.out.size ?_;intro v' wc ho hg hn;obtain⟨gb,c2,hv',hgb,ho2,hBc⟩:=hst.out v' wc ho hg hn;replace ho2:=Lib.hid ho2;replace hBc:=Lib.hid hBc;replace hgb:=Lib.hid hgb;clear ho hg hn;subst hv')
             clear hst hnews hown hBe;have hO0:Hid (wc.ownsRow wr0.heap.size 37 3 (.slice (some ⟨gb,0,none⟩) s.ps.length c2) s.ps.length (rowL s.ps.length fun j=>rq (if j<0 then apx (capL s.cap) (toN F) (r+1) j else apx (capL s.cap) (toN F) r j))):=ho2;clear ho2;have hm0:Hid (wc.heap.size=wc.heap.size):=rfl;clear hm0
             go_loopw [12] (fun ix wr=>∃(p:Nat),p≤s.ps.length∧ix=.int .i64 (p:Int)∧Hid (Below wr0.heap.size wr0 wr)∧Hid (wr.ownsRow wr0.heap.size 37 3 (.slice (some ⟨gb,0,none⟩) s.ps.length c2) s.ps.length (rowL s.ps.length fun j=>rq (if j<p then apx (capL s.cap) (toN F) (r+1) j else apx (capL s.cap) (toN F) r j)))) (fun ix _=>s.ps.length-(intOf ix).toNat)
             case atStart=>exact⟨0,Nat.zero_le _,rfl,hBc,hO0⟩
             case round =>
              clear hBc hO0;obtain⟨p,hp,rfl,hK,hO⟩:=hrel;obtain⟨wt,rfl⟩:∃z,z=wr:=⟨_,rfl⟩
              by_cases hpn:p<s.ps.length
              · have hBt:=Lib.hid (hBr.out.trans (hK.out.mono hBr.out.size));have q0:(0:Int)≤(p:Int):=by omega
                have q1:(p:Int)<(s.ps.length:Int):=by omega
                have kh:=Lib.hid (has20_any Af cf F (p:Int) wt (hF.out.below hBt.out) hFl);have hli:=hlist.out p;have hle1:=apx_mono (F:=toN F) hL.out r p;have hle2:=apx_le hL.out hEf.out (r+1) p;have sx:=hv1.out.short p;have sn:=hv2.out.short p;have se:=hvals.out.short p;have hle2b:apx (capL s.cap) (toN F) (r+1) p≤ev s F p:=hle2;clear hle2;have kl1:Hid (∀W,Env W→Calls Tryz.prog 23 #[.agg #[.bool (rq (apx (capL s.cap) (toN F) r p)).1,.string (rq (apx (capL s.cap) (toN F) r p)).2.1,.string (rq (apx (capL s.cap) (toN F) r p)).2.2],.agg #[.bool (rq (apx (capL s.cap) (toN F) (r+1) p)).1,.string (rq (apx (capL s.cap) (toN F) (r+1) p)).2.1,.string (rq (apx (capL s.cap) (toN F) (r+1) p)).2.2]] W fun e w'=>e=.returned (.bool true)∧Below W.heap.size W w'):=fun W hW=>by have h:=least20_any _ _ sx sn W hW;rw[decide_eq_true hle1]at h;exact h
                have kl2:Hid (∀W,Env W→Calls Tryz.prog 23 #[.agg #[.bool (rq (apx (capL s.cap) (toN F) (r+1) p)).1,.string (rq (apx (capL s.cap) (toN F) (r+1) p)).2.1,.string (rq (apx (capL s.cap) (toN F) (r+1) p)).2.2],.agg #[.bool (rq (ev s F p)).1,.string (rq (ev s F p)).2.1,.string (rq (ev s F p)).2.2]] W fun e w'=>e=.returned (.bool true)∧Below W.heap.size W w'):=fun W hW=>by have h:=least20_any _ _ sn se W hW;rw[decide_eq_true hle2b]at h;exact h
                replace hle1:=Lib.hid hle1;replace hle2b:=Lib.hid hle2b;replace sx:=Lib.hid sx;replace sn:=Lib.hid sn;replace se:=Lib.hid se
                by_cases hm:(p:Int)∈F
                · rw [decide_eq_true hm]at kh;have hx1:apx (capL s.cap) (toN F) r p=apx (capL s.cap) (toN F) (r+1) p:=by rw[apx_listed _ r (hli.2 hm),apx_listed _ (r+1) (hli.2 hm)]
                  replace hm:=Lib.hid hm;clear hli
                  have hO2:Hid (wt.ownsRow wr0.heap.size 37 3 (.slice (some ⟨gb,0,none⟩) s.ps.length c2) s.ps.length (rowL s.ps.length fun j=>rq (if j<(p+1) then apx (capL s.cap) (toN F) (r+1) j else apx (capL s.cap) (toN F) r j))):=by
                   have h:=hO.out;have e:(rowL s.ps.length fun j=>rq (if j<p then apx (capL s.cap) (toN F) (r+1) j else apx (capL s.cap) (toN F) r j))=rowL s.ps.length fun j=>rq (if j<(p+1) then apx (capL s.cap) (toN F) (r+1) j else apx (capL s.cap) (toN F) r j):=rowL_congr fun j _=>by by_cases c:j=p;(· rw[c,if_neg (Nat.lt_irrefl p),if_pos (Nat.lt_succ_self p),hx1]);(· by_cases d:j<p;(· rw[if_pos d,if_pos (by omega)]);(· rw[if_neg d,if_neg (by omega)]))
                   rw[e]at h;exact h
                  replace hx1:=Lib.hid hx1;clear hO
                  go_wp2_with fail
                  refine kh.out.mono ?_;rintro e wq ⟨rfl,hq⟩;obtain rfl:=hq.symm;clear kh;obtain⟨z1,z2,z3,z4⟩:=own_at hO2.out (by omega);have y0:=z4 (p*3) _ ((rowL_get _ hpn 0 (by omega)).trans rfl);have y1:=z4 (p*3+1) _ ((rowL_get _ hpn 1 (by omega)).trans rfl);have y2:=z4 (p*3+2) _ ((rowL_get _ hpn 2 (by omega)).trans rfl);rw[if_pos (Nat.lt_succ_self p)]at y0 y1 y2;clear z1 z3 z4;obtain⟨xb1,xo,xe,xl,xc⟩:=(hI.out.below hK.out (Nat.le_refl _)) (by rw[outL_length];omega);simp only[Option.some.injEq,Addr.mk.injEq,and_true]at xe;obtain⟨rfl,rfl⟩:=xe;have x3:=xc p (by rw[outL_length];exact hpn);rw[outL_get,Nat.zero_add]at x3;obtain⟨x0,x1,x2⟩:=x3;clear xc;obtain⟨e0,e1,e2⟩:=(hEr.out.below hK.out hEr.out.lt).cell hpn;have e9:=(hEr.out.below hK.out hEr.out.lt).lt;have HT:Hid (∀W,Below wt.heap.size wt W→(fun W=>W.cell? ⟨xb,p*3,none⟩=some (.bool (rq (apx (capL s.cap) (toN F) r p)).1)∧W.cell? ⟨xb,p*3+1,none⟩=some (.string (rq (apx (capL s.cap) (toN F) r p)).2.1)∧W.cell? ⟨xb,p*3+2,none⟩=some (.string (rq (apx (capL s.cap) (toN F) r p)).2.2)∧W.cell? ⟨gb,p*3,none⟩=some (.bool (rq (apx (capL s.cap) (toN F) (r+1) p)).1)∧W.cell? ⟨gb,p*3+1,none⟩=some (.string (rq (apx (capL s.cap) (toN F) (r+1) p)).2.1)∧W.cell? ⟨gb,p*3+2,none⟩=some (.string (rq (apx (capL s.cap) (toN F) (r+1) p)).2.2)∧W.cell? ⟨eb1,p*3,none⟩=some (.bool (rq (ev s F p)).1)∧W.cell? ⟨eb1,p*3+1,none⟩=some (.string (rq (ev s F p)).2.1)∧W.cell? ⟨eb1,p*3+2,none⟩=some (.string (rq (ev s F p)).2.2)) W):=fun W h=>⟨(h.cell (p:=⟨xb,p*3,none⟩) xl).trans x0,(h.cell (p:=⟨xb,p*3+1,none⟩) xl).trans x1,(h.cell (p:=⟨xb,p*3+2,none⟩) xl).trans x2,(h.cell (p:=⟨gb,p*3,none⟩) z2).trans y0,(h.cell (p:=⟨gb,p*3+1,none⟩) z2).trans y1,(h.cell (p:=⟨gb,p*3+2,none⟩) z2).trans y2,(h.cell (p:=⟨eb1,p*3,none⟩) e9).trans e0,(h.cell (p:=⟨eb1,p*3+1,none⟩) e9).trans e1,(h.cell (p:=⟨eb1,p*3+2,none⟩) e9).trans e2⟩;have hE9:Hid (∀W,Below wt.heap.size wt W→Env W):=fun W h=>hE.out.below ((hBr.out.trans (hK.out.mono hBr.out.size)).trans (h.mono (hBr.out.trans (hK.out.mono hBr.out.size)).size));clear x0 x1 x2 xl y0 y1 y2 z2 e0 e1 e2 e9
                  go_wp2_with fail
                  refine region_below (by kernel_rfl) (by kernel_rfl) ?_
                  repeat (
                   refine wpQuiet_step (fun K hK=>?_);go_simp
                   first
                    | (refine hK _ ?_;clear hK K)
                    | (apply Exists.intro
                       refine⟨fun W hW=>?_,hK _ ?_⟩
                       first
                        | (with_reducible exact quiet_below hW (kl1.out W (hE9.out W hW)))
                        | (with_reducible exact quiet_below hW (kl2.out W (hE9.out W hW)))
                        | (obtain⟨q1,q2,q3,q4,q5,q6,q7,q8,q9⟩:=HT.out W hW;go_simp<;>with_reducible rfl)
                       clear hK K))
                  refine wpQuiet_nil ?_;intro wf hbz;have hKf:Hid (Below wr0.heap.size wr0 wf):=hK.out.trans (hbz.mono hK.out.size);have hOf:Hid (wf.ownsRow wr0.heap.size 37 3 (.slice (some ⟨gb,0,none⟩) s.ps.length c2) s.ps.length (rowL s.ps.length fun j=>rq (if j<(p+1) then apx (capL s.cap) (toN F) (r+1) j else apx (capL s.cap) (toN F) r j))):=own_below' hO2.out hbz;clear HT hE9 kl1 kl2 hbz;go_wp2;exact⟨⟨p+1,by omega,by go_num,hKf,hOf⟩,by simp only[intOf];omega⟩
                · rw [decide_eq_false hm]at kh;have hx1:Hid (apx (capL s.cap) (toN F) (r+1) p=lsum p (apx (capL s.cap) (toN F) r) (capL s.cap)):=apx_next _ r (fun h=>hm (hli.1 h));replace hm:=Lib.hid hm;clear hli
                  have ks:Hid (Calls Tryz.prog 24 #[.agg #[.slice Ap s.ps.length cp,.slice Ac s.cap.length cc,.slice Av s.vot.length cv],.slice (some ⟨xb,0,none⟩) s.ps.length c,.int .i64 (p:Int)] wt fun e w'=>e=.returned (.tuple #[.agg #[.bool (rq (apx (capL s.cap) (toN F) (r+1) p)).1,.string (rq (apx (capL s.cap) (toN F) (r+1) p)).2.1,.string (rq (apx (capL s.cap) (toN F) (r+1) p)).2.2],.bool true])∧Below wt.heap.size wt w'):=(sum20_any s Ap Ac Av (some ⟨xb,0,none⟩) cp cc cv c p (apx (capL s.cap) (toN F) r) wt (hE.out.below hBt.out) (hs.out.below hBt.out).cap hsd.out (by omega) (hI.out.below hK.out (Nat.le_refl _)) (fun x _=>hv1.out.short x) (fun k h=>part_val hL.out hv1.out h _)).mono fun e w' h=>by
                   obtain⟨⟨gx,nx,dx,ok,e1,e2,e3⟩,hb⟩:=h;obtain rfl:=e3 fun k _=>lsum_short hL.out hv1.out p k;refine⟨?_,hb⟩;have e4:=e2 rfl;rw[←hx1.out]at e4;obtain⟨rfl,rfl,rfl⟩:gx=(rq (apx (capL s.cap) (toN F) (r+1) p)).1∧nx=(rq (apx (capL s.cap) (toN F) (r+1) p)).2.1∧dx=(rq (apx (capL s.cap) (toN F) (r+1) p)).2.2:=⟨congrArg (·.1) e4,congrArg (·.2.1) e4,congrArg (·.2.2) e4⟩;exact e1
                  have hXt:=Lib.hid (hXr.out.below hK.out);have u0:=hXt.out.cell (j:=0) rfl;have u1:=hXt.out.cell (j:=1) rfl;have u2:=hXt.out.cell (j:=2) rfl;have u9:=hXt.out.lt
                  go_wp2_with fail
                  refine kh.out.mono ?_;rintro e wq ⟨rfl,hq⟩;obtain rfl:=hq.symm;clear kh;obtain⟨qn,hqn⟩:∃q,q=apx (capL s.cap) (toN F) (r+1) p:=⟨_,rfl⟩;rw[←hqn]at ks;replace hqn:=Lib.hid hqn
                  go_wp2_with fail
                  refine ks.out.mono ?_;rintro e w5 ⟨rfl,hb⟩;have hK5:=Lib.hid (hK.out.trans (hb.mono hK.out.size));have hO5:=Lib.hid (own_below' hO.out hb);clear hb ks u0 u1 u2 u9 hXt hO hK;obtain⟨w6,hw6⟩:∃W,W=(w5.alloc (.cells #[.bool (rq (qn)).1,.string (rq (qn)).2.1,.string (rq (qn)).2.2] 37)):=⟨_,rfl⟩;obtain⟨pb,hpb⟩:∃x,x=w5.heap.size:=⟨_,rfl⟩;have hK6:Hid (Below wr0.heap.size wr0 w6):=by rw[hw6];exact hK5.out.alloc hK5.out.size _
                  have hO6:Hid (w6.ownsRow wr0.heap.size 37 3 (.slice (some ⟨gb,0,none⟩) s.ps.length c2) s.ps.length (rowL s.ps.length fun j=>rq (if j<p then apx (capL s.cap) (toN F) (r+1) j else apx (capL s.cap) (toN F) r j))):=by rw[hw6];exact own_below' hO5.out ((Below.refl _ w5).alloc (Nat.le_refl _) _)
                  have hP6:Hid (Bk w6 pb 37 [.bool (rq (qn)).1,.string (rq (qn)).2.1,.string (rq (qn)).2.2]):=by rw[hw6,hpb];exact Bk.new _ _ _
                  have hgp:Hid (gb<pb):=by rw[hpb];exact(own_at hO5.out (by omega)).2.1
                  obtain⟨z1,z2,z3,z4⟩:=own_at hO6.out (by omega);have r1:=z4 (p*3) _ ((rowL_get _ hpn 0 (by omega)).trans rfl);have r2:=z4 (p*3+1) _ ((rowL_get _ hpn 1 (by omega)).trans rfl);have r3:=z4 (p*3+2) _ ((rowL_get _ hpn 2 (by omega)).trans rfl);have f1:=z3 (p*3);have f2:=z3 (p*3+1);have f3:=z3 (p*3+2);generalize (rq (if p<p then apx (capL s.cap) (toN F) (r+1) p else apx (capL s.cap) (toN F) r p))=rz at r1 r2 r3;clear z1 z3 z4;have p0:=hP6.out.cell (j:=0) rfl;have p1:=hP6.out.cell (j:=1) rfl;have p2:=hP6.out.cell (j:=2) rfl;have p9:=hP6.out.lt;obtain⟨w7,hw7⟩:∃W,W=(((w6.setCell ⟨gb,p*3,none⟩ (.bool (rq qn).1)).setCell ⟨gb,p*3+1,none⟩ (.string (rq qn).2.1)).setCell ⟨gb,p*3+2,none⟩ (.string (rq qn).2.2)):=⟨_,rfl⟩;have hK7:Hid (Below wr0.heap.size wr0 w7):=by rw[hw7];exact((hK6.out.setCell (p:=⟨gb,p*3,none⟩) hgb.out _).setCell (p:=⟨gb,p*3+1,none⟩) hgb.out _).setCell (p:=⟨gb,p*3+2,none⟩) hgb.out _
                  have hO7:Hid (w7.ownsRow wr0.heap.size 37 3 (.slice (some ⟨gb,0,none⟩) s.ps.length c2) s.ps.length (rowL s.ps.length fun j=>rq (if j<(p+1) then apx (capL s.cap) (toN F) (r+1) j else apx (capL s.cap) (toN F) r j))):=by
                   rw[hw7];have h:=Nt.own_set (i:=p*3+2) (v:=.string (rq qn).2.2) (Nt.own_set (i:=p*3+1) (v:=.string (rq qn).2.1) (Nt.own_set (i:=p*3) (v:=.bool (rq qn).1) hO6.out));rw[rowL_set _ hpn (rq qn)]at h;have e:(rowL s.ps.length fun i=>if i=p then rq qn else rq (if i<p then apx (capL s.cap) (toN F) (r+1) i else apx (capL s.cap) (toN F) r i))=rowL s.ps.length fun j=>rq (if j<(p+1) then apx (capL s.cap) (toN F) (r+1) j else apx (capL s.cap) (toN F) r j):=rowL_congr fun j _=>by by_cases c:j=p;(· rw[c,if_pos rfl,if_pos (Nat.lt_succ_self p),hqn.out]);(· rw[if_neg c];by_cases d:j<p;(· rw[if_pos d,if_pos (by omega)]);(· rw[if_neg d,if_neg (by omega)]))
                   rw[e]at h;exact h
                  have hgp1:gb≠pb:=Nat.ne_of_lt hgp.out;have hgp2:pb≠gb:=fun e=>hgp1 e.symm;rw[hpb]at p0 p1 p2 p9 hgp1 hgp2;rw[hw6]at r1 r2 r3 f1 f2 f3 p0 p1 p2 p9 z2 hw7;replace hw6:=Lib.hid hw6;replace hpb:=Lib.hid hpb;have hw7b:=Lib.hid hw7;clear hw7
                  go_wp2_with fail
                  (try rw[←hw7b.out])
                  clear r1 r2 r3 f1 f2 f3 p0 p1 p2 p9 hO5 hK5 z2 hgp1 hgp2 hO6 hK6 hP6;obtain⟨z1,z2,z3,z4⟩:=own_at hO7.out (by omega);have y0:=z4 (p*3) _ ((rowL_get _ hpn 0 (by omega)).trans rfl);have y1:=z4 (p*3+1) _ ((rowL_get _ hpn 1 (by omega)).trans rfl);have y2:=z4 (p*3+2) _ ((rowL_get _ hpn 2 (by omega)).trans rfl);rw[if_pos (Nat.lt_succ_self p)]at y0 y1 y2;clear z1 z3 z4;obtain⟨xb1,xo,xe,xl,xc⟩:=(hI.out.below hK7.out (Nat.le_refl _)) (by rw[outL_length];omega);simp only[Option.some.injEq,Addr.mk.injEq,and_true]at xe;obtain⟨rfl,rfl⟩:=xe;have x3:=xc p (by rw[outL_length];exact hpn);rw[outL_get,Nat.zero_add]at x3;obtain⟨x0,x1,x2⟩:=x3;clear xc;obtain⟨e0,e1,e2⟩:=(hEr.out.below hK7.out hEr.out.lt).cell hpn;have e9:=(hEr.out.below hK7.out hEr.out.lt).lt;have HT:Hid (∀W,Below w7.heap.size w7 W→(fun W=>W.cell? ⟨xb,p*3,none⟩=some (.bool (rq (apx (capL s.cap) (toN F) r p)).1)∧W.cell? ⟨xb,p*3+1,none⟩=some (.string (rq (apx (capL s.cap) (toN F) r p)).2.1)∧W.cell? ⟨xb,p*3+2,none⟩=some (.string (rq (apx (capL s.cap) (toN F) r p)).2.2)∧W.cell? ⟨gb,p*3,none⟩=some (.bool (rq (apx (capL s.cap) (toN F) (r+1) p)).1)∧W.cell? ⟨gb,p*3+1,none⟩=some (.string (rq (apx (capL s.cap) (toN F) (r+1) p)).2.1)∧W.cell? ⟨gb,p*3+2,none⟩=some (.string (rq (apx (capL s.cap) (toN F) (r+1) p)).2.2)∧W.cell? ⟨eb1,p*3,none⟩=some (.bool (rq (ev s F p)).1)∧W.cell? ⟨eb1,p*3+1,none⟩=some (.string (rq (ev s F p)).2.1)∧W.cell? ⟨eb1,p*3+2,none⟩=some (.string (rq (ev s F p)).2.2)) W):=fun W h=>⟨(h.cell (p:=⟨xb,p*3,none⟩) xl).trans x0,(h.cell (p:=⟨xb,p*3+1,none⟩) xl).trans x1,(h.cell (p:=⟨xb,p*3+2,none⟩) xl).trans x2,(h.cell (p:=⟨gb,p*3,none⟩) z2).trans y0,(h.cell (p:=⟨gb,p*3+1,none⟩) z2).trans y1,(h.cell (p:=⟨gb,p*3+2,none⟩) z2).trans y2,(h.cell (p:=⟨eb1,p*3,none⟩) e9).trans e0,(h.cell (p:=⟨eb1,p*3+1,none⟩) e9).trans e1,(h.cell (p:=⟨eb1,p*3+2,none⟩) e9).trans e2⟩;have hE9:Hid (∀W,Below w7.heap.size w7 W→Env W):=fun W h=>hE.out.below ((hBr.out.trans (hK7.out.mono hBr.out.size)).trans (h.mono (hBr.out.trans (hK7.out.mono hBr.out.size)).size));clear x0 x1 x2 xl y0 y1 y2 z2 e0 e1 e2 e9;refine region_below (by kernel_rfl) (by kernel_rfl) ?_
                  repeat (
                   refine wpQuiet_step (fun K hK=>?_);go_simp
                   first
                    | (refine hK _ ?_;clear hK K)
                    | (apply Exists.intro
                       refine⟨fun W hW=>?_,hK _ ?_⟩
                       first
                        | (with_reducible exact quiet_below hW (kl1.out W (hE9.out W hW)))
                        | (with_reducible exact quiet_below hW (kl2.out W (hE9.out W hW)))
                        | (obtain⟨q1,q2,q3,q4,q5,q6,q7,q8,q9⟩:=HT.out W hW;go_simp<;>with_reducible rfl)
                       clear hK K))
                  refine wpQuiet_nil ?_;intro wf hbz;have hKf:Hid (Below wr0.heap.size wr0 wf):=hK7.out.trans (hbz.mono hK7.out.size);have hOf:Hid (wf.ownsRow wr0.heap.size 37 3 (.slice (some ⟨gb,0,none⟩) s.ps.length c2) s.ps.length (rowL s.ps.length fun j=>rq (if j<(p+1) then apx (capL s.cap) (toN F) (r+1) j else apx (capL s.cap) (toN F) r j))):=own_below' hO7.out hbz;clear HT hE9 kl1 kl2 hbz;go_wp2;exact⟨⟨p+1,by omega,by go_num,hKf,hOf⟩,by simp only[intOf];omega⟩
              · obtain rfl:p=s.ps.length:=by omega
                have hIn:Hid (InRow wt (some ⟨gb,0,none⟩) (outL s.ps.length (apx (capL s.cap) (toN F) (r+1)))):=fun h0=>by
                 rw[outL_length]at h0;obtain⟨z1,z2,z3,z4⟩:=own_at hO.out h0;refine⟨gb,0,rfl,z2,fun j hj=>?_⟩;rw[outL_length]at hj;have y0:=z4 (j*3) _ ((rowL_get _ hj 0 (by omega)).trans rfl);have y1:=z4 (j*3+1) _ ((rowL_get _ hj 1 (by omega)).trans rfl);have y2:=z4 (j*3+2) _ ((rowL_get _ hj 2 (by omega)).trans rfl);rw[if_pos hj]at y0 y1 y2;rw[outL_get,Nat.zero_add];exact⟨y0,y1,y2⟩
                have hgl:Hid (gb<wt.heap.size):=(hO.out.lt gb rfl).2;have hKn:Hid (Below wp.heap.size wp wt):=hKr.out.trans (hK.out.mono hKr.out.size);clear hO hK;go_wp2;exact⟨⟨r+1,gb,c2,by omega,by go_num,rfl,hIn,hgl,hKn⟩,by simp only[intOf];omega⟩
           · obtain rfl:r=5:=by omega
             have hBf:=Lib.hid (hBp.out.trans (hK.out.mono hBp.out.size));go_wp2;go_ret;exact⟨rfl,hBf.out⟩
end Sh
end Go.Proofs.YtioidbebjgeahaaGreatDoor

/- Texts that the proof needs: LawSMore. -/
import Derived.Deep.RegionHeld3
import Derived.Deep.QuietTactic
import Derived.BigQuiet
import Derived.Test.YtioidbebjgeahaaGreatDoorKtA
import Derived.Test.YtioidbebjgeahaaGreatDoorKtB
import Derived.Test.YtioidbebjgeahaaGreatDoorKtC
import Derived.Test.YtioidbebjgeahaaGreatDoorKtD
import Derived.Test.YtioidbebjgeahaaGreatDoorKtE
import Derived.Test.YtioidbebjgeahaaGreatDoorKtF
import Derived.Test.YtioidbebjgeahaaGreatDoorKtG
import Derived.Test.YtioidbebjgeahaaGreatDoorKtH
import Derived.Test.YtioidbebjgeahaaGreatDoorKtI
set_option maxHeartbeats 16000000
set_option maxRecDepth 100000
namespace Go.Proofs.YtioidbebjgeahaaGreatDoor
open Go.RowKit Go.Shelf
namespace Sh
open Nt Ci
def bothL (F G:List Int) (t:Nat):List Nat:=(List.range t).filter fun p=>decide ((p:Int)∈F)||decide ((p:Int)∈G)
theorem both_succ (F G:List Int) (t:Nat):bothL F G (t+1)=bothL F G t++if (decide ((t:Int)∈F)||decide ((t:Int)∈G))=true then [t] else []:=by
 unfold bothL;rw[List.range_succ,List.filter_append]
 congr 1
 cases h:(decide ((t:Int)∈F)||decide ((t:Int)∈G))<;>simp[h]
theorem both_len (F G:List Int) (t:Nat):(bothL F G t).length≤t:=by
 have h:=List.length_filter_le (fun(p:Nat)=>decide ((p:Int)∈F)||decide ((p:Int)∈G)) (List.range t)
 rwa [List.length_range]at h
theorem mem_both {F G:List Int} {t p:Nat}:p∈bothL F G t↔p<t∧((p:Int)∈F∨(p:Int)∈G):=by
 unfold bothL;rw[List.mem_filter,List.mem_range,Bool.or_eq_true,decide_eq_true_iff,decide_eq_true_iff]
theorem both_list (F G:List Int) (n:Nat):listB n ((bothL F G n).map fun(q:Nat)=>(q:Int))=true:=by
 have hp:((bothL F G n)).Pairwise (·<·):=(List.pairwise_lt_range).filter _;refine list_all fun k hk=>?_;rw[List.length_map]at hk;have hm:=(mem_both (p:=(bothL F G n)[k])).1 (List.getElem_mem hk);refine⟨by rw[List.getElem_map];omega,fun h0=>?_⟩;rw[List.getElem_map,List.getElem_map];have:=List.pairwise_iff_getElem.1 hp (k-1) k (by omega) hk (by omega);omega
theorem toN_cast (u:List Nat):toN (u.map fun(q:Nat)=>(q:Int))=u:=by
 unfold toN;rw[List.map_map];simp[Function.comp_def]
theorem in_toN {F:List Int} {p:Nat} (h0:∀y,y∈F→0≤y):p∈toN F↔(p:Int)∈F:=by
 unfold toN;rw[List.mem_map];constructor
 · rintro⟨y,hy,rfl⟩;rw[Int.toNat_of_nonneg (h0 y hy)];exact hy
 · intro h;exact⟨(p:Int),h,by simp⟩
theorem list_nn {n:Int} {F:List Int} (h:listB n F=true):∀y,y∈F→0≤y:=fun y hy=>by
 obtain⟨i,hi,rfl⟩:=List.getElem_of_mem hy;exact(lst_at h hi).1.1
theorem short_add {D D':Nat} {v w:Nat→Rat} (h:Vals v D) (h':Vals w D') (p:Nat):ShortQ (v p+w p):=by
 have h1:=h.rng p;have h2:=h'.rng p;have k1:=h.whole p;have k2:=h'.whole p
 have hd:IsI (((D*D':Nat):Rat)*((v p+w p)*(1/2))*2):=by
  obtain⟨x,hx⟩:=k1;obtain⟨y,hy⟩:=k2;refine⟨D'*x+D*y,?_⟩;rw[Rat.natCast_mul,Rat.intCast_add,Rat.intCast_mul,Rat.intCast_mul,Rat.intCast_natCast,Rat.intCast_natCast,←hx,←hy];grind
 have hi:IsI (((2*(D*D'):Nat):Rat)*((v p+w p)*(1/2))):=by
  have e:((2*(D*D'):Nat):Rat)*((v p+w p)*(1/2))=((D*D':Nat):Rat)*((v p+w p)*(1/2))*2:=by
   rw[Rat.natCast_mul 2 (D*D'),show ((2:Nat):Rat)=2 from rfl];grind
  rw[e];exact hd
 have hI:IsI (((D*D':Nat):Rat)*(v p+w p)):=by
  have e:((D*D':Nat):Rat)*(v p+w p)=((D*D':Nat):Rat)*((v p+w p)*(1/2))*2:=by grind
  rw[e];exact hd
 have hdp:0<D*D':=Nat.mul_pos h.dp h'.dp;have hle:(v p+w p).den≤D*D':=Nat.le_of_dvd hdp (isI_den hdp hI)
 have hb:D*D'<L1/2:=by
  have e1:D*D'≤6000^16*6000^16:=Nat.mul_le_mul h.dle h'.dle;have e2:6000^34<L1:=pow34
  have e3:6000^34=6000^16*6000^16*(6000*6000):=by
   rw[←Nat.pow_add,show (6000*6000:Nat)=6000^2 from rfl,←Nat.pow_add]
  generalize 6000^16*6000^16=Z at *;omega
 have hn:(v p+w p).num.natAbs≤2*(v p+w p).den:=by
  have a0:(0:Rat)≤v p+w p:=by grind
  have a2:v p+w p≤2:=by grind
  have b:=(Rat.le_iff _ _).1 a2;have c:=Rat.num_nonneg.2 a0;have e3:(2:Rat).num=2:=rfl;have e4:(2:Rat).den=1:=rfl;rw[e3,e4]at b;omega
 exact⟨by omega,by omega⟩
theorem law20_more (s : SR) (Ap Ac Av Af:Option Addr) (cp cc cv cf:Nat) (F:List Int) (Ag:Option Addr) (cg:Nat) (G:List Int) (w:World) (hE:Env w) (hs:StIn w s Ap Ac Av) (hF:InInt w Af F) (hFl:F.length≤140737488355328) (hG:InInt w Ag G) (hGl:G.length≤140737488355328) :
 Calls Tryz.prog 7 #[.agg #[.slice Ap s.ps.length cp,.slice Ac s.cap.length cc,.slice Av s.vot.length cv],.slice Af F.length cf,.slice Ag G.length cg] w fun e w'=>e=.returned (.bool true)∧Below w.heap.size w w':=by
 have hX1:Hid (Bk (w.alloc (.cells #[.slice Ap s.ps.length cp,.slice Ac s.cap.length cc,.slice Av s.vot.length cv] 25)) w.heap.size 25 (SC s Ap Ac Av cp cc cv)):=Bk.new w _ _;have hB1:Hid (Below w.heap.size w (w.alloc (.cells #[.slice Ap s.ps.length cp,.slice Ac s.cap.length cc,.slice Av s.vot.length cv] 25))):=(Below.refl _ w).alloc (Nat.le_refl _) _;replace hE:=Lib.hid hE;replace hs:=Lib.hid hs;replace hF:=Lib.hid hF;replace hG:=Lib.hid hG;go_enter Tryz.func7,Tryz.ntmps7
 go_wp2_with fail
 refine(head20_any _ (hE.out.below hB1.out)).mono ?_;rintro e w2 ⟨rfl,hb⟩;have hX2:=Lib.hid (hX1.out.below hb);have hB2:=Lib.hid (hB1.out.trans (hb.mono hB1.out.size));clear hb hX1 hB1;have u0:=hX2.out.cell (j:=0) rfl;have u1:=hX2.out.cell (j:=1) rfl;have u2:=hX2.out.cell (j:=2) rfl;have u9:=hX2.out.lt;have kf:=Lib.hid (few7_some s Ap Ac Av cp cc cv w2 (hs.out.below hB2.out))
 go_wp2_with fail
 refine kf.out.mono ?_;rintro e w3 ⟨⟨r,rfl,hr⟩,hb⟩;have hX3:=Lib.hid (hX2.out.below hb);have hB3:=Lib.hid (hB2.out.trans (hb.mono hB2.out.size));clear hb hX2 hB2;clear u0 u1 u2 u9;clear kf;replace hr:=Lib.hid hr
 cases r with
 | false =>
   go_wp2;go_ret;exact⟨rfl,hB3.out⟩
 | true =>
   obtain⟨hp7,hc30,hv30⟩:=hr.out rfl;clear hr
   by_cases hlF:10<F.length
   · have m1:decide ((10:Int)<(F.length:Int))=true:=decide_eq_true (by omega);have n1:decide (10<F.length)=true:=decide_eq_true (by omega);replace hlF:=Lib.hid hlF;go_wp2;go_ret;exact⟨rfl,hB3.out⟩
   · have m1 : decide ((10:Int)<(F.length:Int))=false:=decide_eq_false (by omega);have n1:decide (10<F.length)=false:=decide_eq_false (by omega)
     by_cases hlG:10<G.length
     · have m2:decide ((10:Int)<(G.length:Int))=true:=decide_eq_true (by omega);have n2:decide (10<G.length)=true:=decide_eq_true (by omega);replace hlG:=Lib.hid hlG;go_wp2;go_ret;exact⟨rfl,hB3.out⟩
     · have m2 : decide ((10:Int)<(G.length:Int))=false:=decide_eq_false (by omega);have n2:decide (10<G.length)=false:=decide_eq_false (by omega);have u0:=hX3.out.cell (j:=0) rfl;have u1:=hX3.out.cell (j:=1) rfl;have u2:=hX3.out.cell (j:=2) rfl;have u9:=hX3.out.lt;have kc:=eff7_any s Ap Ac Av Af cp cc cv cf F w3 (hE.out.below hB3.out) (hs.out.below hB3.out) (by omega) (by omega) (hF.out.below hB3.out) (by omega)
       by_cases hg1:soundB s=true∧listB s.ps.length F=true
       rotate_left
       · have kc2:Hid (Calls Tryz.prog 17 #[.agg #[.slice Ap s.ps.length cp,.slice Ac s.cap.length cc,.slice Av s.vot.length cv],.slice Af F.length cf] w3 fun e w'=>e=.returned (.tuple #[.slice none 0 0,.int .i64 1])∧Below w3.heap.size w3 w'):=kc.mono fun e w' h=>⟨by have h1:=h.1;rw[if_neg hg1]at h1;exact h1,h.2⟩;clear kc;replace hg1:=Lib.hid hg1
         go_wp2_with fail
         refine kc2.out.mono ?_;rintro e w4 ⟨rfl,hb⟩;have hX4:=Lib.hid (hX3.out.below hb);have hB4:=Lib.hid (hB3.out.trans (hb.mono hB3.out.size));clear hb hX3 hB3;clear u0 u1 u2 u9;clear kc2 ;have u0:=hX4.out.cell (j:=0) rfl;have u1:=hX4.out.cell (j:=1) rfl;have u2:=hX4.out.cell (j:=2) rfl;have u9:=hX4.out.lt;have kc:=eff7_any s Ap Ac Av Ag cp cc cv cg G w4 (hE.out.below hB4.out) (hs.out.below hB4.out) (by omega) (by omega) (hG.out.below hB4.out) (by omega)
         by_cases hg2:soundB s=true∧listB s.ps.length G=true
         rotate_left
         · have kc2:Hid (Calls Tryz.prog 17 #[.agg #[.slice Ap s.ps.length cp,.slice Ac s.cap.length cc,.slice Av s.vot.length cv],.slice Ag G.length cg] w4 fun e w'=>e=.returned (.tuple #[.slice none 0 0,.int .i64 1])∧Below w4.heap.size w4 w'):=kc.mono fun e w' h=>⟨by have h1:=h.1;rw[if_neg hg2]at h1;exact h1,h.2⟩;clear kc;replace hg2:=Lib.hid hg2
           go_wp2_with fail
           refine kc2.out.mono ?_;rintro e w5 ⟨rfl,hb⟩;have hX5:=Lib.hid (hX4.out.below hb);have hB5:=Lib.hid (hB4.out.trans (hb.mono hB4.out.size));clear hb hX4 hB4;clear u0 u1 u2 u9;clear kc2 ;go_wp2;go_ret;exact⟨rfl,hB5.out⟩
         · have kc2:Hid (Calls Tryz.prog 17 #[.agg #[.slice Ap s.ps.length cp,.slice Ac s.cap.length cc,.slice Av s.vot.length cv],.slice Ag G.length cg] w4 fun e w'=>(∃b,e=.returned (.tuple #[.slice (some ⟨b,0,none⟩) s.ps.length s.ps.length,.int .i64 0])∧RowB w' b s.ps.length fun p=>rq (ev s G p))∧Below w4.heap.size w4 w'):=kc.mono fun e w' h=>⟨by have h1:=h.1;rw[if_pos hg2]at h1;obtain⟨b,e1,_,e2⟩:=h1;exact⟨b,e1,e2⟩,h.2⟩;clear kc;replace hg2:=Lib.hid hg2
           go_wp2_with fail
           refine kc2.out.mono ?_;rintro e w5 ⟨⟨eb2,rfl,hRow2⟩,hb⟩;have hX5:=Lib.hid (hX4.out.below hb);have hB5:=Lib.hid (hB4.out.trans (hb.mono hB4.out.size));clear hb hX4 hB4;have hRow25:=Lib.hid hRow2;clear hRow2;clear u0 u1 u2 u9;clear kc2 ;go_wp2;go_ret;exact⟨rfl,hB5.out⟩
       · have kc2 : Hid (Calls Tryz.prog 17 #[.agg #[.slice Ap s.ps.length cp,.slice Ac s.cap.length cc,.slice Av s.vot.length cv],.slice Af F.length cf] w3 fun e w'=>(∃b,e=.returned (.tuple #[.slice (some ⟨b,0,none⟩) s.ps.length s.ps.length,.int .i64 0])∧RowB w' b s.ps.length fun p=>rq (ev s F p))∧Below w3.heap.size w3 w'):=kc.mono fun e w' h=>⟨by have h1:=h.1;rw[if_pos hg1]at h1;obtain⟨b,e1,_,e2⟩:=h1;exact⟨b,e1,e2⟩,h.2⟩;clear kc;replace hg1:=Lib.hid hg1
         go_wp2_with fail
         refine kc2.out.mono ?_;rintro e w4 ⟨⟨eb1,rfl,hRow1⟩,hb⟩;have hX4:=Lib.hid (hX3.out.below hb);have hB4:=Lib.hid (hB3.out.trans (hb.mono hB3.out.size));clear hb hX3 hB3;have hRow14:=Lib.hid hRow1;clear hRow1;clear u0 u1 u2 u9;clear kc2 ;have u0:=hX4.out.cell (j:=0) rfl;have u1:=hX4.out.cell (j:=1) rfl;have u2:=hX4.out.cell (j:=2) rfl;have u9:=hX4.out.lt;have kc:=eff7_any s Ap Ac Av Ag cp cc cv cg G w4 (hE.out.below hB4.out) (hs.out.below hB4.out) (by omega) (by omega) (hG.out.below hB4.out) (by omega)
         by_cases hg2:soundB s=true∧listB s.ps.length G=true
         rotate_left
         · have kc2:Hid (Calls Tryz.prog 17 #[.agg #[.slice Ap s.ps.length cp,.slice Ac s.cap.length cc,.slice Av s.vot.length cv],.slice Ag G.length cg] w4 fun e w'=>e=.returned (.tuple #[.slice none 0 0,.int .i64 1])∧Below w4.heap.size w4 w'):=kc.mono fun e w' h=>⟨by have h1:=h.1;rw[if_neg hg2]at h1;exact h1,h.2⟩;clear kc;replace hg2:=Lib.hid hg2
           go_wp2_with fail
           refine kc2.out.mono ?_;rintro e w5 ⟨rfl,hb⟩;have hX5:=Lib.hid (hX4.out.below hb);have hB5:=Lib.hid (hB4.out.trans (hb.mono hB4.out.size));have hRow15:=Lib.hid (hRow14.out.below hb hRow14.out.lt);clear hb hX4 hB4 hRow14;clear u0 u1 u2 u9;clear kc2 ;go_wp2;go_ret;exact⟨rfl,hB5.out⟩
         · have kc2 : Hid (Calls Tryz.prog 17 #[.agg #[.slice Ap s.ps.length cp,.slice Ac s.cap.length cc,.slice Av s.vot.length cv],.slice Ag G.length cg] w4 fun e w'=>(∃b,e=.returned (.tuple #[.slice (some ⟨b,0,none⟩) s.ps.length s.ps.length,.int .i64 0])∧RowB w' b s.ps.length fun p=>rq (ev s G p))∧Below w4.heap.size w4 w'):=kc.mono fun e w' h=>⟨by have h1:=h.1;rw[if_pos hg2]at h1;obtain⟨b,e1,_,e2⟩:=h1;exact⟨b,e1,e2⟩,h.2⟩;clear kc;replace hg2:=Lib.hid hg2
           go_wp2_with fail
           refine kc2.out.mono ?_;rintro e w5 ⟨⟨eb2,rfl,hRow2⟩,hb⟩;have hX5:=Lib.hid (hX4.out.below hb);have hB5:=Lib.hid (hB4.out.trans (hb.mono hB4.out.size));have hRow15:=Lib.hid (hRow14.out.below hb hRow14.out.lt);clear hb hX4 hB4 hRow14;have hRow25:=Lib.hid hRow2;clear hRow2;clear u0 u1 u2 u9;clear kc2 ;clear m1 n1 m2 n2;have hsd:=Lib.hid hg1.out.1;have hFl2:=Lib.hid hg1.out.2;have hGl2:=Lib.hid hg2.out.2;obtain⟨i0,hi0,hzz⟩:=Option.map_eq_some_iff.1 infoIr;simp only[Prod.mk.injEq]at hzz;obtain⟨hz0,hz1,hz2⟩:=hzz;replace hi0:=Lib.hid hi0;replace hz0:=Lib.hid hz0;replace hz1:=Lib.hid hz1;replace hz2:=Lib.hid hz2;have hK0:Hid (Below w5.heap.size w5 w5):=Below.refl _ _;have hO0:Hid (w5.ownsRow w5.heap.size 3 1 (.slice none 0 0) 0 (intsL (bothL F G 0))):=World.ownsRow_nil _ _ _ _;have u0:=hX5.out.cell (j:=0) rfl;have u9:=hX5.out.lt
           go_wp2_with fail
           clear u0 u9
           go_loopw [12,13] (fun vx ix wr=>∃(t:Nat) (A:Option Addr) (c:Nat),t≤s.ps.length∧ix=.int .i64 (t:Int)∧vx=.slice A (bothL F G t).length c∧Hid (wr.ownsRow w5.heap.size 3 1 (.slice A (bothL F G t).length c) (bothL F G t).length (intsL (bothL F G t)))∧Hid (Below w5.heap.size w5 wr)) (fun _ ix _=>s.ps.length-(intOf ix).toNat)
           case atStart=>exact⟨0,none,0,Nat.zero_le _,rfl,rfl,hO0,hK0⟩
           case round =>
            clear hO0 hK0;obtain⟨t,A,c,ht,rfl,rfl,hO,hK⟩:=hrel;obtain⟨wt,rfl⟩:∃z,z=wr:=⟨_,rfl⟩;have hBt:=Lib.hid (hB5.out.trans (hK.out.mono hB5.out.size));have hXt:=Lib.hid (hX5.out.below hK.out);have u0:=hXt.out.cell (j:=0) rfl;have u1:=hXt.out.cell (j:=1) rfl;have u2:=hXt.out.cell (j:=2) rfl;have u9:=hXt.out.lt;have hbl:=both_len F G t
            by_cases htl:t<s.ps.length
            · have k1:=Lib.hid (has20_any Af cf F (t:Int) wt (hF.out.below hBt.out) hFl);have k2:=Lib.hid (has20_any Ag cg G (t:Int) wt (hG.out.below hBt.out) hGl);have hsu:=both_succ F G t;have hmT:Hid (∀b,b=(decide ((t:Int)∈F)||decide ((t:Int)∈G))→True):=fun _ _=>trivial;generalize decide ((t:Int)∈F)=d1 at k1 hsu;generalize decide ((t:Int)∈G)=d2 at k2 hsu;clear hmT
              cases d1 with
              | true =>
                go_wp2_with fail
                refine k1.out.mono ?_;rintro e wq ⟨rfl,hq⟩;obtain rfl:=hq.symm;rw[Bool.true_or,if_pos rfl]at hsu;clear k1 k2;obtain⟨m,hm⟩:∃m,m=(bothL F G t).length:=⟨_,rfl⟩;rw[←hm]at hO hbl;have hBn:Hid (Below w5.heap.size w5 (wt.alloc (.cells #[.int .i64 (t:Int)] 3))):=hK.out.alloc hK.out.size _;have had:Hid (∀j u,[Value.int .i64 (t:Int)][j]? = some u→(wt.alloc (.cells #[.int .i64 (t:Int)] 3)).cell? (Addr.add ⟨wt.heap.size,0,none⟩ j)=some u):=Ci.head_new wt _ 3;have hrow:Hid ((wt.alloc (.cells #[.int .i64 (t:Int)] 3)).ownsRow w5.heap.size 3 1 (.slice A m c) m (intsL (bothL F G t))):=own_below' hO.out ((Below.refl _ wt).alloc (Nat.le_refl _) _);have hbs:Hid (w5.heap.size≤(wt.alloc (.cells #[.int .i64 (t:Int)] 3)).heap.size):=hBn.out.size;have hul2:=Lib.hid hbl
                have hst:Hid (∀v' w',w'.ownsRow w5.heap.size 3 1 v' (m+1) (intsL (bothL F G t)++[.int .i64 (t:Int)])→(wt.alloc (.cells #[.int .i64 (t:Int)] 3)).grownBy w' (Value.slice A m c).ownBlock→∃A' c',v'=.slice A' (m+1) c'∧w'.ownsRow w5.heap.size 3 1 (.slice A' (bothL F G (t+1)).length c') (bothL F G (t+1)).length (intsL (bothL F G (t+1)))∧Below w5.heap.size w5 w'):=fun v' w' h1 h2=>by
                 obtain⟨A',c',rfl⟩:=Ci.own_form h1;refine⟨A',c',rfl,?_,?_⟩
                 · rw[hsu,List.length_append,intsL_snoc,List.length_singleton,←hm];exact h1
                 · exact hBn.out.trans ⟨h2.os,h2.tape,h2.output,h2.size,fun k hk=>h2.block k (Nat.lt_of_lt_of_le hk hbs.out) fun e=>by have:=(hrow.out.lt k e.symm).1;omega⟩
                have hln:Hid ((bothL F G (t+1)).length=m+1):=Lib.hid (by rw[hsu,List.length_append,List.length_singleton,hm]);have hmi:=Lib.hid hm;rw[←hm];clear hm;replace hsu:=Lib.hid hsu;clear hO hXt
                go_wp2_with (at_builtin;refine Ci.wpList_append_new _ rfl _ _ 26 rfl w5.heap.size 3 i0 (.int .i64 0) 1 8 Tryz.underlying26 hi0.out hz0.out hz1.out hz2.out rfl (by decide) (.slice A m c) m (intsL (bothL F G t)) rfl hrow.out ⟨wt.heap.size,0,none⟩ 1 1 [.int .i64 (t:Int)] rfl rfl had.out (Ci.one_cell1 _ rfl) (by decide) (by have:=hul2.out;unfold maxLen;omega) (by have:=hul2.out;omega) hbs.out ?_;intro v' w' ho hg hn;obtain⟨A',c',hv',hO2,hB2⟩:=hst.out v' w' ho hg;replace hO2:=Lib.hid hO2;replace hB2:=Lib.hid hB2;clear ho hg hn u0 u1 u2 u9;subst hv')
                exact⟨⟨t+1,A',c',by omega,by go_num,by rw[hln.out],hO2,hB2⟩,by simp only[intOf];omega⟩
              | false =>
                cases d2 with
                | true =>
                  go_wp2_with fail
                  refine k1.out.mono ?_;rintro e wq ⟨rfl,hq⟩;obtain rfl:=hq.symm
                  go_wp2_with fail
                  refine k2.out.mono ?_;rintro e wq ⟨rfl,hq⟩;obtain rfl:=hq.symm;rw[Bool.false_or,if_pos rfl]at hsu;clear k1 k2;obtain⟨m,hm⟩:∃m,m=(bothL F G t).length:=⟨_,rfl⟩;rw[←hm]at hO hbl;have hBn:Hid (Below w5.heap.size w5 (wt.alloc (.cells #[.int .i64 (t:Int)] 3))):=hK.out.alloc hK.out.size _;have had:Hid (∀j u,[Value.int .i64 (t:Int)][j]? = some u→(wt.alloc (.cells #[.int .i64 (t:Int)] 3)).cell? (Addr.add ⟨wt.heap.size,0,none⟩ j)=some u):=Ci.head_new wt _ 3;have hrow:Hid ((wt.alloc (.cells #[.int .i64 (t:Int)] 3)).ownsRow w5.heap.size 3 1 (.slice A m c) m (intsL (bothL F G t))):=own_below' hO.out ((Below.refl _ wt).alloc (Nat.le_refl _) _);have hbs:Hid (w5.heap.size≤(wt.alloc (.cells #[.int .i64 (t:Int)] 3)).heap.size):=hBn.out.size;have hul2:=Lib.hid hbl
                  have hst:Hid (∀v' w',w'.ownsRow w5.heap.size 3 1 v' (m+1) (intsL (bothL F G t)++[.int .i64 (t:Int)])→(wt.alloc (.cells #[.int .i64 (t:Int)] 3)).grownBy w' (Value.slice A m c).ownBlock→∃A' c',v'=.slice A' (m+1) c'∧w'.ownsRow w5.heap.size 3 1 (.slice A' (bothL F G (t+1)).length c') (bothL F G (t+1)).length (intsL (bothL F G (t+1)))∧Below w5.heap.size w5 w'):=fun v' w' h1 h2=>by
                   obtain⟨A',c',rfl⟩:=Ci.own_form h1;refine⟨A',c',rfl,?_,?_⟩
                   · rw[hsu,List.length_append,intsL_snoc,List.length_singleton,←hm];exact h1
                   · exact hBn.out.trans ⟨h2.os,h2.tape,h2.output,h2.size,fun k hk=>h2.block k (Nat.lt_of_lt_of_le hk hbs.out) fun e=>by have:=(hrow.out.lt k e.symm).1;omega⟩
                  have hln:Hid ((bothL F G (t+1)).length=m+1):=Lib.hid (by rw[hsu,List.length_append,List.length_singleton,hm]);have hmi:=Lib.hid hm;rw[←hm];clear hm;replace hsu:=Lib.hid hsu;clear hO hXt
                  go_wp2_with (at_builtin;refine Ci.wpList_append_new _ rfl _ _ 26 rfl w5.heap.size 3 i0 (.int .i64 0) 1 8 Tryz.underlying26 hi0.out hz0.out hz1.out hz2.out rfl (by decide) (.slice A m c) m (intsL (bothL F G t)) rfl hrow.out ⟨wt.heap.size,0,none⟩ 1 1 [.int .i64 (t:Int)] rfl rfl had.out (Ci.one_cell1 _ rfl) (by decide) (by have:=hul2.out;unfold maxLen;omega) (by have:=hul2.out;omega) hbs.out ?_;intro v' w' ho hg hn;obtain⟨A',c',hv',hO2,hB2⟩:=hst.out v' w' ho hg;replace hO2:=Lib.hid hO2;replace hB2:=Lib.hid hB2;clear ho hg hn u0 u1 u2 u9;subst hv')
                  exact⟨⟨t+1,A',c',by omega,by go_num,by rw[hln.out],hO2,hB2⟩,by simp only[intOf];omega⟩
                | false =>
                  go_wp2_with fail
                  refine k1.out.mono ?_;rintro e wq ⟨rfl,hq⟩;obtain rfl:=hq.symm
                  go_wp2_with fail
                  refine k2.out.mono ?_;rintro e wq ⟨rfl,hq⟩;obtain rfl:=hq.symm;rw[Bool.false_or,if_neg (by decide),List.append_nil]at hsu;clear k1 k2;have hO2:Hid (wt.ownsRow w5.heap.size 3 1 (.slice A (bothL F G (t+1)).length c) (bothL F G (t+1)).length (intsL (bothL F G (t+1)))):=by rw[hsu];exact hO.out
                  have hln:Hid ((bothL F G (t+1)).length=(bothL F G t).length):=Lib.hid (by rw[hsu]);replace hsu:=Lib.hid hsu;go_wp2;exact⟨⟨t+1,A,c,by omega,by go_num,by rw[hln.out],hO2,hK⟩,by simp only[intOf];omega⟩
            · obtain rfl:t=s.ps.length:=by omega
              have hin:Hid (InInt wt A ((bothL F G s.ps.length).map fun(q:Nat)=>(q:Int))):=fun h0=>by
               rcases own_ints hO.out with⟨e,e2⟩ | ⟨gb,cap,e,h1,h2,_,h4⟩
               · rw[e2]at h0;simp at h0
               · injection e with e1 _ _;refine⟨gb,0,e1,h2,fun j hj=>?_⟩;have hj':j<(bothL F G s.ps.length).length:=by simpa using hj
                 rw[List.getElem_map,Nat.zero_add];exact h4 j hj'
              obtain⟨H,hH⟩:∃H,H=(bothL F G s.ps.length).map fun(q:Nat)=>(q:Int):=⟨_,rfl⟩;have hlH:(bothL F G s.ps.length).length=H.length:=by rw[hH,List.length_map]
              rw[←hH]at hin;rw[hlH]at hbl ⊢;have hHl:Hid (listB s.ps.length H=true):=by rw[hH];exact both_list F G _
              have hHn:Hid (toN H=bothL F G s.ps.length):=by rw[hH];exact toN_cast _
              replace hlH:=Lib.hid hlH;replace hH:=Lib.hid hH;have kc2:Hid (Calls Tryz.prog 17 #[.agg #[.slice Ap s.ps.length cp,.slice Ac s.cap.length cc,.slice Av s.vot.length cv],.slice A H.length c] wt fun e w'=>(∃b,e=.returned (.tuple #[.slice (some ⟨b,0,none⟩) s.ps.length s.ps.length,.int .i64 0])∧RowB w' b s.ps.length fun p=>rq (ev s H p))∧Below wt.heap.size wt w'):=(eff7_any s Ap Ac Av A cp cc cv c H wt (hE.out.below hBt.out) (hs.out.below hBt.out) (by omega) (by omega) hin.out (by omega)).mono fun e w' h=>⟨by have h1:=h.1;rw[if_pos ⟨hsd.out,hHl.out⟩]at h1;obtain⟨b,e1,_,e2⟩:=h1;exact⟨b,e1,e2⟩,h.2⟩
              go_wp2_with fail
              refine kc2.out.mono ?_;rintro e w0 ⟨⟨ebz,rfl,hRz⟩,hb⟩;have hB0:=Lib.hid (hBt.out.trans (hb.mono hBt.out.size));have hX0:=Lib.hid (hXt.out.below hb);have hRx0:=Lib.hid ((hRow15.out.below hK.out hRow15.out.lt).below hb (Nat.lt_of_lt_of_le hRow15.out.lt hK.out.size));have hRy0:=Lib.hid ((hRow25.out.below hK.out hRow25.out.lt).below hb (Nat.lt_of_lt_of_le hRow25.out.lt hK.out.size));have hRz0:=Lib.hid hRz;clear hb kc2 u0 u1 u2 u9 hRz hXt hBt hK hO hin;have hmF:=few_many F hsd.out (by omega);have hmG:=few_many G hsd.out (by omega);have hmH:=few_many H hsd.out (by omega);have hL:=caps_of hsd.out;have hnF:=list_nn hFl2.out;have hnG:=list_nn hGl2.out;have hge:Hid (∀p,p<s.ps.length→ev s F p≤ev s H p):=fun p hp=>(ev_eff hsd.out hmF).more hL (ev_eff hsd.out hmH) (fun q hq=>by rw[hHn.out];exact mem_both.2 ⟨toN_in hFl2.out hq,.inl ((in_toN hnF).1 hq)⟩) p hp;have hle:Hid (∀p,p<s.ps.length→ev s H p≤ev s F p+ev s G p):=fun p hp=>(ev_eff hsd.out hmH).both hL (ev_eff hsd.out hmF) (ev_eff hsd.out hmG) (fun q hq=>by rw[hHn.out]at hq;exact(mem_both.1 hq).2.imp (in_toN hnF).2 (in_toN hnG).2) (fun q hq=>by rw[hHn.out];exact mem_both.2 ⟨toN_in hFl2.out hq,.inl ((in_toN hnF).1 hq)⟩) (fun q hq=>by rw[hHn.out];exact mem_both.2 ⟨toN_in hGl2.out hq,.inr ((in_toN hnG).1 hq)⟩) p hp;obtain⟨D1,hv1⟩:=ev_vals (F:=F) hsd.out hmF;obtain⟨D2,hv2⟩:=ev_vals (F:=G) hsd.out hmG;obtain⟨D3,hv3⟩:=ev_vals (F:=H) hsd.out hmH;replace hv1:=Lib.hid hv1;replace hv2:=Lib.hid hv2;replace hv3:=Lib.hid hv3;replace hL:=Lib.hid hL;clear hmF hmG hmH hnF hnG;have hK0:Hid (Below w0.heap.size w0 w0):=Below.refl _ _
              go_wp2_with fail
              go_loopw [16] (fun ix wr=>∃(p:Nat),p≤s.ps.length∧ix=.int .i64 (p:Int)∧Hid (Below w0.heap.size w0 wr)) (fun ix _=>s.ps.length-(intOf ix).toNat)
              case atStart=>exact⟨0,Nat.zero_le _,rfl,hK0⟩
              case round =>
               clear hK0;obtain⟨p,hp,rfl,hK⟩:=hrel;obtain⟨wp,rfl⟩:∃z,z=wr:=⟨_,rfl⟩;have hBp:=Lib.hid (hB0.out.trans (hK.out.mono hB0.out.size))
               by_cases hpn:p<s.ps.length
               · obtain ⟨x0,x1,x2⟩:=(hRx0.out.below hK.out hRx0.out.lt).cell hpn;have x9:=(hRx0.out.below hK.out hRx0.out.lt).lt;obtain⟨y0,y1,y2⟩:=(hRy0.out.below hK.out hRy0.out.lt).cell hpn;have y9:=(hRy0.out.below hK.out hRy0.out.lt).lt;obtain⟨z0,z1,z2⟩:=(hRz0.out.below hK.out hRz0.out.lt).cell hpn;have z9:=(hRz0.out.below hK.out hRz0.out.lt).lt;have hqa:=hge.out p hpn;have hqb:=hle.out p hpn;have sx:=hv1.out.short p;have sy:=hv2.out.short p;have sz:=hv3.out.short p;have sv:=short_add hv1.out hv2.out p;obtain⟨qx,hqx⟩:∃q,q=ev s F p:=⟨_,rfl⟩;obtain⟨qy,hqy⟩:∃q,q=ev s G p:=⟨_,rfl⟩;obtain⟨qz,hqz⟩:∃q,q=ev s H p:=⟨_,rfl⟩;rw[←hqx]at x0 x1 x2 hqa hqb sx sv;rw[←hqy]at y0 y1 y2 hqb sy sv;rw[←hqz]at z0 z1 z2 hqa hqb sz;clear hqx hqy hqz;obtain⟨qv,hqv⟩:∃q,q=qx+qy:=⟨_,rfl⟩;rw[←hqv]at hqb sv;have hEp:Hid (∀W,Below wp.heap.size wp W→Env W):=fun W h=>hE.out.below (hBp.out.trans (h.mono hBp.out.size));have ka:Hid (∀W,Env W→Calls Tryz.prog 27 #[.agg #[.bool (rq (qx)).1,.string (rq (qx)).2.1,.string (rq (qx)).2.2],.agg #[.bool (rq (qy)).1,.string (rq (qy)).2.1,.string (rq (qy)).2.2]] W fun e w'=>e=.returned (.tuple #[.agg #[.bool (rq (qv)).1,.string (rq (qv)).2.1,.string (rq (qv)).2.2],.int .i64 0])∧Below W.heap.size W w'):=fun W hW=>by rw[hqv];exact Add_short qx qy sx sy W hW
                 replace hqv:=Lib.hid hqv;have kl1:Hid (∀W,Env W→Calls Tryz.prog 23 #[.agg #[.bool (rq (qx)).1,.string (rq (qx)).2.1,.string (rq (qx)).2.2],.agg #[.bool (rq (qz)).1,.string (rq (qz)).2.1,.string (rq (qz)).2.2]] W fun e w'=>e=.returned (.bool true)∧Below W.heap.size W w'):=fun W hW=>by have h:=least20_any qx qz sx sz W hW;rw[decide_eq_true hqa]at h;exact h
                 have kl2:Hid (∀W,Env W→Calls Tryz.prog 23 #[.agg #[.bool (rq (qz)).1,.string (rq (qz)).2.1,.string (rq (qz)).2.2],.agg #[.bool (rq (qv)).1,.string (rq (qv)).2.1,.string (rq (qv)).2.2]] W fun e w'=>e=.returned (.bool true)∧Below W.heap.size W w'):=fun W hW=>by have h:=least20_any qz qv sz sv W hW;rw[decide_eq_true hqb]at h;exact h
                 clear hqa hqb sx sy sz sv;have j0:(0:Int)≤(p:Int):=by omega
                 have j1:(p:Int)<(s.ps.length:Int):=by omega
                 have HS:Hid (∀W,Below wp.heap.size wp W→(fun W=>W.cell? ⟨eb1,p*3,none⟩=some (.bool (rq (qx)).1)∧W.cell? ⟨eb1,p*3+1,none⟩=some (.string (rq (qx)).2.1)∧W.cell? ⟨eb1,p*3+2,none⟩=some (.string (rq (qx)).2.2)∧W.cell? ⟨eb2,p*3,none⟩=some (.bool (rq (qy)).1)∧W.cell? ⟨eb2,p*3+1,none⟩=some (.string (rq (qy)).2.1)∧W.cell? ⟨eb2,p*3+2,none⟩=some (.string (rq (qy)).2.2)) W):=fun W h=>⟨(h.cell (p:=⟨eb1,p*3,none⟩) x9).trans x0,(h.cell (p:=⟨eb1,p*3+1,none⟩) x9).trans x1,(h.cell (p:=⟨eb1,p*3+2,none⟩) x9).trans x2,(h.cell (p:=⟨eb2,p*3,none⟩) y9).trans y0,(h.cell (p:=⟨eb2,p*3+1,none⟩) y9).trans y1,(h.cell (p:=⟨eb2,p*3+2,none⟩) y9).trans y2⟩;have hD:Hid (Below wp.heap.size wp wp.drew):=(Below.refl _ _).drew;have hDa:Hid (Below wp.heap.size wp (wp.alloc (.cells #[.bool false,.string ⟨#[]⟩,.string ⟨#[]⟩] 37)).drew):=((Below.refl _ wp).alloc (Nat.le_refl _) _).drew;have hZ:Hid (Bk (wp.alloc (.cells #[.bool false,.string ⟨#[]⟩,.string ⟨#[]⟩] 37)).drew wp.heap.size 37 [.bool false,.string ⟨#[]⟩,.string ⟨#[]⟩]):=(show Bk (wp.alloc (.cells #[.bool false,.string ⟨#[]⟩,.string ⟨#[]⟩] 37)) wp.heap.size 37 [.bool false,.string ⟨#[]⟩,.string ⟨#[]⟩] from Bk.new _ _ _);have hwz:Hid (wp.heap.size≤wp.heap.size):=Nat.le_refl _
                 go_wp2_with fail
                 go_region_held3 (fun W=>W.cell? ⟨eb1,p*3,none⟩=some (.bool (rq (qx)).1)∧W.cell? ⟨eb1,p*3+1,none⟩=some (.string (rq (qx)).2.1)∧W.cell? ⟨eb1,p*3+2,none⟩=some (.string (rq (qx)).2.2)∧W.cell? ⟨eb2,p*3,none⟩=some (.bool (rq (qy)).1)∧W.cell? ⟨eb2,p*3+1,none⟩=some (.string (rq (qy)).2.1)∧W.cell? ⟨eb2,p*3+2,none⟩=some (.string (rq (qy)).2.2)) (first | (with_reducible exact HS.out _ hD.out) | (with_reducible exact HS.out _ hDa.out) | (with_reducible exact HS.out _ h8.out) | (with_reducible exact HS.out _ (h8.out.alloc h8.out.size _)) | (with_reducible exact HS.out _ (((h8.out.setCell hwz.out _).setCell hwz.out _).setCell hwz.out _)) | go_keep) (first | (go_at_call 27;refine(ka.out _ ?_).mono ?_;(with_reducible exact hEp.out _ hD.out);rintro e w8 ⟨rfl,hb⟩;have h8:=Lib.hid (hD.out.trans (hb.mono hD.out.size));clear hb) | (go_at_call 27;refine(ka.out _ ?_).mono ?_;(with_reducible exact hEp.out _ hDa.out);rintro e w8 ⟨rfl,hb⟩;have h8:=Lib.hid (hDa.out.trans (hb.mono hDa.out.size));have hz8:=Lib.hid (hZ.out.below hb);have y0:=hz8.out.cell (j:=0) rfl;have y1:=hz8.out.cell (j:=1) rfl;have y2:=hz8.out.cell (j:=2) rfl;have y9:=hz8.out.lt;have yf0:=hz8.out.frozen 0;have yf1:=hz8.out.frozen 1;have yf2:=hz8.out.frozen 2;clear hb))
                 all_goals (
                  first
                   | (obtain⟨w9,hw9⟩:∃W,W=w8.alloc (.cells #[.bool (rq (qv)).1,.string (rq (qv)).2.1,.string (rq (qv)).2.2] 37):=⟨_,rfl⟩;rw[←hw9];obtain⟨pb,hpb⟩:∃x,x=w8.heap.size:=⟨_,rfl⟩;rw[←hpb];have h9:Hid (Below wp.heap.size wp w9):=(by rw[hw9];exact h8.out.alloc h8.out.size _);have hP:Hid (Bk w9 pb 37 [.bool (rq (qv)).1,.string (rq (qv)).2.1,.string (rq (qv)).2.2]):=(by rw[hw9,hpb];exact Bk.new _ _ _))
                   | (obtain⟨w9,hw9⟩:∃W,W=((w8.setCell ⟨wp.heap.size,0,none⟩ (.bool (rq (qv)).1)).setCell ⟨wp.heap.size,1,none⟩ (.string (rq (qv)).2.1)).setCell ⟨wp.heap.size,2,none⟩ (.string (rq (qv)).2.2):=⟨_,rfl⟩;rw[←hw9];obtain⟨pb,hpb⟩:∃x,x=wp.heap.size:=⟨_,rfl⟩;rw[←hpb];have h9:Hid (Below wp.heap.size wp w9):=(by rw[hw9];exact((h8.out.setCell hwz.out _).setCell hwz.out _).setCell hwz.out _);have hP:Hid (Bk w9 pb 37 [.bool (rq (qv)).1,.string (rq (qv)).2.1,.string (rq (qv)).2.2]):=(by rw[hw9,hpb];exact((hz8.out.set 0 _).set 1 _).set 2 _);clear yf0 yf1 yf2 hz8)
                  replace hw9:=Lib.hid hw9;replace hpb:=Lib.hid hpb;have hK9:Hid (Below w0.heap.size w0 w9):=hK.out.trans (h9.out.mono hK.out.size);obtain⟨e0,e1,e2⟩:=(hRx0.out.below hK9.out hRx0.out.lt).cell hpn;clear e0 e1 e2;have HT:∀W,Below w9.heap.size w9 W→(fun W=>W.cell? ⟨eb1,p*3,none⟩=some (.bool (rq (qx)).1)∧W.cell? ⟨eb1,p*3+1,none⟩=some (.string (rq (qx)).2.1)∧W.cell? ⟨eb1,p*3+2,none⟩=some (.string (rq (qx)).2.2)∧W.cell? ⟨ebz,p*3,none⟩=some (.bool (rq (qz)).1)∧W.cell? ⟨ebz,p*3+1,none⟩=some (.string (rq (qz)).2.1)∧W.cell? ⟨ebz,p*3+2,none⟩=some (.string (rq (qz)).2.2)∧W.cell? ⟨pb,0,none⟩=some (.bool (rq (qv)).1)∧W.cell? ⟨pb,1,none⟩=some (.string (rq (qv)).2.1)∧W.cell? ⟨pb,2,none⟩=some (.string (rq (qv)).2.2)) W:=fun W h=>⟨(HS.out _ (h9.out.trans (h.mono h9.out.size))).1,(HS.out _ (h9.out.trans (h.mono h9.out.size))).2.1,(HS.out _ (h9.out.trans (h.mono h9.out.size))).2.2.1,((h9.out.trans (h.mono h9.out.size)).cell (p:=⟨ebz,p*3,none⟩) z9).trans z0,((h9.out.trans (h.mono h9.out.size)).cell (p:=⟨ebz,p*3+1,none⟩) z9).trans z1,((h9.out.trans (h.mono h9.out.size)).cell (p:=⟨ebz,p*3+2,none⟩) z9).trans z2,(hP.out.below h).cell (j:=0) rfl,(hP.out.below h).cell (j:=1) rfl,(hP.out.below h).cell (j:=2) rfl⟩;have hE9:∀W,Below w9.heap.size w9 W→Env W:=fun W h=>hEp.out _ (h9.out.trans (h.mono h9.out.size));replace hE9:=Lib.hid hE9;replace HT:=Lib.hid HT;clear HS hD hDa hZ hwz h8 h9 ka hP x0 x1 x2 x9 y0 y1 y2 y9 z0 z1 z2 z9 hBp hK
                  go_wp2_with fail
                  refine region_below (by kernel_rfl) (by kernel_rfl) ?_
                  repeat (
                   refine wpQuiet_step (fun K hK=>?_);go_simp
                   first
                    | (refine hK _ ?_;clear hK K)
                    | (apply Exists.intro
                       refine⟨fun W hW=>?_,hK _ ?_⟩
                       first
                        | (with_reducible exact quiet_below hW (kl1.out W (hE9.out W hW)))
                        | (with_reducible exact quiet_below hW (kl2.out W (hE9.out W hW)))
                        | (obtain⟨q1,q2,q3,q4,q5,q6,q7,q8,q9⟩:=HT.out W hW;go_simp<;>with_reducible rfl)
                       clear hK K))
                  refine wpQuiet_nil ?_;intro wf hbz;have hKf:Hid (Below w0.heap.size w0 wf):=hK9.out.trans (hbz.mono hK9.out.size);clear HT hE9 kl1 kl2 hbz hK9 hEp;go_wp2;exact⟨⟨p+1,by omega,by go_num,hKf⟩,by simp only[intOf];omega⟩)
               · obtain rfl:p=s.ps.length:=by omega
                 go_wp2;go_ret;exact⟨rfl,hBp.out⟩
end Sh
end Go.Proofs.YtioidbebjgeahaaGreatDoor

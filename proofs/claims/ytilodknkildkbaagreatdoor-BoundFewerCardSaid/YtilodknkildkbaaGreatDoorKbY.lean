/- Texts that the proof needs: BndExP, BndExC. -/
import Derived.Test.YtilodknkildkbaaGreatDoorKbA
import Derived.Test.YtilodknkildkbaaGreatDoorKbB
import Derived.Test.YtilodknkildkbaaGreatDoorKbC
import Derived.Test.YtilodknkildkbaaGreatDoorKbD
import Derived.Test.YtilodknkildkbaaGreatDoorKbE
import Derived.Test.YtilodknkildkbaaGreatDoorKbF
import Derived.Test.YtilodknkildkbaaGreatDoorKbG
import Derived.Test.YtilodknkildkbaaGreatDoorKbH
import Derived.Test.YtilodknkildkbaaGreatDoorKbI
import Derived.Test.YtilodknkildkbaaGreatDoorKbJ
import Derived.Test.YtilodknkildkbaaGreatDoorKbK
namespace Go.Proofs.YtilodknkildkbaaGreatDoor
section
open Go.RowKit Go.Shelf
namespace Bd
open Nt Ci Sh
theorem RI {m d D:Nat} (_:0<m) (h1:m∣D) (h2:d∣D):B4 m d∣D:=by
 have e:B4 m d=Nat.lcm m d:=by
  unfold B4 Nat.lcm;rw[Nat.mul_div_assoc _ (Nat.gcd_dvd_right m d)]
 rw[e];exact Nat.lcm_dvd h1 h2
theorem Nu {D:Nat} (hD:0<D) (hd:D<10^65):∀(l:List Rat) (m:Nat),0<m→m∣D→(∀q,q∈l→0≤q∧q≤1∧q.den∣D∧OkQ q)→Gc m (l.map rq)=true
 | [],_,_,_,_=>rfl
 | q :: l,m,hm,hmD,h=>by
   obtain⟨h0,h1,h2,h3⟩:=h q (List.mem_cons_self ..);have e1:q.den<10^65:=Nat.lt_of_le_of_lt (Nat.le_of_dvd hD h2) hd
   have e2:q.num.natAbs≤q.den:=by
    have hn:0≤q.num:=Rat.num_nonneg.2 h0
    have:q.num≤q.den:=by
     rw[Rat.le_iff]at h1;have a1:(1:Rat).num=1:=rfl;have a2:(1:Rat).den=1:=rfl;rw[a1,a2]at h1;omega
    omega
   have e3:(rq q).1=false:=decide_eq_false (by have:=Rat.num_nonneg.2 h0;omega);have e4:B4 m q.den∣D:=RI hm hmD h2;have e5:(rq q).2.1.size≤65:=(BG (by decide)).2 (Nat.lt_of_le_of_lt e2 e1);have e6:(rq q).2.2.size≤65:=(BG (by decide)).2 e1;have e7:(T (some (B4 m q.den))).size≤65:=(BG (by decide)).2 (Nat.lt_of_le_of_lt (Nat.le_of_dvd hD e4) hd);rw[List.map_cons,Ge,Jy h3,e3,decide_eq_true e5,decide_eq_true e6,G2,decide_eq_true e7,Nu hD hd l _ (Gf hm q.den_pos) e4 fun x hx=>h x (List.mem_cons_of_mem _ hx)];rfl
theorem UO:6000^16<10^65:=by decide +kernel
theorem Lb {n:Nat} {f:Nat→Rat} {p:Nat} (hp:p<n):BT (AG n f) p=f p:=by
 have h:p<(AG n f).length:=by rw[Ah];exact hp
 rw[JA h,B7,G2]
section
variable {s:SR} {F:List Int}
theorem JQ (hsd:soundB s=true) (htm:tooMany s.ps.length (edges s) (toN F)=false):D1 (AG s.ps.length (ev s F))=true:=by
 obtain⟨D,hv⟩:=JG (F:=F) hsd htm;have:AG s.ps.length (ev s F)=((List.range s.ps.length).map (ev s F)).map rq:=by rw[List.map_map];rfl
 rw[this];refine Nu hv.dp (Nat.lt_of_le_of_lt hv.dle UO) _ 1 (by decide) (Nat.one_dvd _) fun q hq=>?_;obtain⟨p,_,rfl⟩:=List.mem_map.1 hq;exact⟨(hv.rng p).1,(hv.rng p).2,FI hv.dp (hv.whole p),(hv.short p).ok⟩
theorem UP (hsd:soundB s=true) (htm:tooMany s.ps.length (edges s) (toN F)=false):∀k (h:k<(AG s.ps.length (ev s F)).length),(AG s.ps.length (ev s F))[k].2.1.size≤140737488355328∧(AG s.ps.length (ev s F))[k].2.2.size≤140737488355328:=fun k h=>by
 have h1:=(HW _ 1 (by decide) (Nat.one_lt_pow (by decide) (by decide)) (JQ hsd htm)).1 _ (List.getElem_mem h);exact⟨Nat.le_trans h1.2.2.1 (by decide),Nat.le_trans h1.2.2.2 (by decide)⟩
theorem RJ {W:World} {b:Nat} {D:Option Addr} {R:List Int} (hsd:soundB s=true) (htm:tooMany s.ps.length (edges s) (toN F)=false) (hn:s.ps.length≤140737488355328) (hr:RowB W b s.ps.length fun p=>rq (ev s F p)) (hR:InInt W D R) (hl:R.length≤140737488355328):CIn W (some ⟨b,0,none⟩) D (AG s.ps.length (ev s F)) R :=
 ⟨Dm hr,hR,by rw[Ah];exact hn,hl,UP hsd htm⟩
theorem Nv (W:World):InInt W none []:=fun h=>absurd h (by decide)
theorem Abv.cong {n:Nat} {L:List Lp} {G:List Nat} {v u:Nat→Rat} (hL:Caps n L) (h:Abv n L G v) (hu:∀p,p<n→u p=v p):Abv n L G u:=fun p hp=>by
 rw[BH (g:=v) fun x hx _=>hu _ (hL.lt x hx).2,hu p hp];exact h p hp
theorem Blw.cong {n:Nat} {L:List Lp} {G:List Nat} {v u:Nat→Rat} {r t:Nat→Int} (hL:Caps n L) (h:Blw n L G v r) (hu:∀p,p<n→u p=v p) (ht:∀p,p<n→t p=r p):Blw n L G u t:=fun p hp=>by
 obtain⟨h1,h2,h3,h4⟩:=h p hp;unfold QU;rw[BH (g:=v) fun x hx _=>hu _ (hL.lt x hx).2,hu p hp,ht p hp];refine⟨h1,h2,h3,fun a b=>?_⟩;obtain⟨c1,c2,x,c3,c4,c5,c6,c7⟩:=h4 a b;have:=(hL.lt x c3).2;exact⟨c1,c2,x,c3,c4,by rw[ht _ this];exact c5,by rw[ht _ this];exact c6,by rw[hu _ this];exact c7⟩
theorem RK (hsd:soundB s=true) (hl:listB s.ps.length F=true) (htm:tooMany s.ps.length (edges s) (toN F)=false):Chk s F true (AG s.ps.length (ev s F)) []:=by
 have h:=Abv.cong (u:=BT (AG s.ps.length (ev s F))) (AQ hsd) (Bd.Eff.abv (Gs hsd htm)) fun p hp=>Lb hp;exact⟨⟨hsd,hl⟩,Ah _ _,rfl,JQ hsd htm,fun p hp=>⟨fun _=>(h p hp).2,fun e=>by cases e⟩⟩
theorem Uk {n:Nat} {o:Nat→Int} {p:Nat} (hp:p<n):rnk ((List.range n).map o) p=o p:=by
 unfold rnk;rw[List.getD_eq_getElem?_getD,List.getElem?_map,List.getElem?_range hp];rfl
theorem RL (hsd:soundB s=true) (hl:listB s.ps.length F=true) (htm:tooMany s.ps.length (edges s) (toN F)=false):Chk s F false (AG s.ps.length (ev s F)) ((List.range s.ps.length).map (rk (edges s) (toN F))):=by
 have h0:=Bd.Eff.blw (AQ hsd) (Gs hsd htm);rw[BA]at h0;have h:=Blw.cong (u:=BT (AG s.ps.length (ev s F))) (t:=rnk ((List.range s.ps.length).map (rk (edges s) (toN F)))) (AQ hsd) h0 (fun p hp=>Lb hp) fun p hp=>Uk hp;exact⟨⟨hsd,hl⟩,Ah _ _,by simp,JQ hsd htm,fun p hp=>⟨fun e=>(by cases e),fun _=>(h p hp).2⟩⟩
theorem Ul (hsd:soundB s=true) (htm:tooMany s.ps.length (edges s) (toN F)=false) {p:Nat} (hp:p<s.ps.length):ev s F p≠0↔0≤rk (edges s) (toN F) p:=by
 have h0:=Bd.Eff.blw (AQ hsd) (Gs hsd htm);rw[BA]at h0;obtain⟨_,h1,h2,h3⟩:=h0 p hp;constructor
 · intro h
   by_cases c:p∈toN F
   · have:=(h2 h c).1;omega
   · have:=(h3 h c).1;omega
 · intro h e;have:=h1 e;omega
end
end Bd
end
section
open Go.RowKit Go.Shelf
namespace Bd
open Nt Ci Sh
theorem Ik {W:World} {b c n:Nat} {f:Nat→Rat} (h1:RowB W b n fun p=>rq (f p)) (h2:RowB W c n fun p=>rq (f p)) (hn:n≤140737488355328) :
 Calls Tryz.prog 22 #[.slice (some ⟨b,0,none⟩) n n,.slice (some ⟨c,0,none⟩) n n] W fun e w'=>e=.returned (.bool true)∧Below W.heap.size W w':=by
 have h:=FQ (some ⟨b,0,none⟩) (some ⟨c,0,none⟩) n n (AG n f) (AG n f) W (Dm h1) (Dm h2) (by rw[Ah];omega);rw[Ah,decide_eq_true rfl]at h;exact h
section
variable (s:SR) (Ap Ac Av Af:Option Addr) (cp cc cv cf:Nat) (F:List Int) (W:World) (hE:Env W) (hs:StIn W s Ap Ac Av) (hc3:s.cap.length≤300) (hF:InInt W Af F) (hFl:F.length≤140737488355328) (hg:(soundB s=true∧listB s.ps.length F=true)∧tooMany s.ps.length (edges s) (toN F)=false)
include hE hs hc3 hF hFl hg
theorem Um:Calls Tryz.prog 20 #[.agg #[.slice Ap s.ps.length cp,.slice Ac s.cap.length cc,.slice Av s.vot.length cv],.slice Af F.length cf] W fun e w'=>(∃b,e=.returned (.tuple #[.slice (some ⟨b,0,none⟩) s.ps.length s.ps.length,.int .i64 0])∧RowB w' b s.ps.length (fun p=>rq (ev s F p))∧W.heap.size≤b)∧Below W.heap.size W w' :=
 (FP s Ap Ac Av Af cp cc cv cf F W hE hs hc3 hF hFl).mono fun e w' h=>by
   obtain⟨h1,h2⟩:=h;rw[if_pos hg.1,if_neg (by rw[hg.2];decide)]at h1;obtain⟨b,e1,e2,e3⟩:=h1;exact⟨⟨b,e1,e3,e2⟩,h2⟩
theorem RM:Calls Tryz.prog 35 #[.agg #[.slice Ap s.ps.length cp,.slice Ac s.cap.length cc,.slice Av s.vot.length cv],.slice Af F.length cf] W fun e w'=>(∃b,e=.returned (.tuple #[.slice (some ⟨b,0,none⟩) s.ps.length s.ps.length,.int .i64 0])∧RoI w' b s.ps.length (rk (edges s) (toN F))∧W.heap.size≤b)∧Below W.heap.size W w' :=
 (DX s Ap Ac Av Af cp cc cv cf F W hE hs hc3 hF hFl).mono fun e w' h=>by
   obtain⟨h1,h2⟩:=h;rw[if_pos hg.1]at h1;obtain⟨b,e1,e2,e3⟩:=h1;exact⟨⟨b,e1,e3,e2⟩,h2⟩
theorem OX {ea ra:Nat} (h1:RowB W ea s.ps.length fun p=>rq (ev s F p)) (h2:RoI W ra s.ps.length (rk (edges s) (toN F))) :
 Calls Tryz.prog 18 #[.agg #[.slice Ap s.ps.length cp,.slice Ac s.cap.length cc,.slice Av s.vot.length cv],.slice Af F.length cf,.agg #[.bool false,.slice (some ⟨ea,0,none⟩) s.ps.length s.ps.length,.slice (some ⟨ra,0,none⟩) s.ps.length s.ps.length]] W fun e w'=>e=.returned (.bool true)∧Below W.heap.size W w':=by
 have hl:((List.range s.ps.length).map (rk (edges s) (toN F))).length=s.ps.length:=by simp
 have h:=CC s Ap Ac Av Af (some ⟨ea,0,none⟩) (some ⟨ra,0,none⟩) cp cc cv cf s.ps.length s.ps.length F false (AG s.ps.length (ev s F)) ((List.range s.ps.length).map (rk (edges s) (toN F))) W hE hs hc3 hF hFl (RJ hg.1.1 hg.2 (by have:=hs.np;omega) h1 h2.inInt (by rw[hl];have:=hs.np;omega));rw[Ah,hl]at h;refine h.mono fun e w' hh=>?_;obtain⟨⟨r,e1,e2⟩,hb⟩:=hh;rw[e2.2 (RL hg.1.1 hg.1.2 hg.2)]at e1;exact⟨e1,hb⟩
theorem OY {ea:Nat} (h1:RowB W ea s.ps.length fun p=>rq (ev s F p)) :
 Calls Tryz.prog 18 #[.agg #[.slice Ap s.ps.length cp,.slice Ac s.cap.length cc,.slice Av s.vot.length cv],.slice Af F.length cf,.agg #[.bool true,.slice (some ⟨ea,0,none⟩) s.ps.length s.ps.length,.slice none 0 0]] W fun e w'=>e=.returned (.bool true)∧Below W.heap.size W w':=by
 have h:=CC s Ap Ac Av Af (some ⟨ea,0,none⟩) none cp cc cv cf s.ps.length 0 F true (AG s.ps.length (ev s F)) [] W hE hs hc3 hF hFl (RJ hg.1.1 hg.2 (by have:=hs.np;omega) h1 (Nv _) (by decide));rw[Ah]at h;refine h.mono fun e w' hh=>?_;obtain⟨⟨r,e1,e2⟩,hb⟩:=hh;rw[e2.2 (RK hg.1.1 hg.1.2 hg.2)]at e1;exact⟨e1,hb⟩
end
end Bd
end
end Go.Proofs.YtilodknkildkbaaGreatDoor

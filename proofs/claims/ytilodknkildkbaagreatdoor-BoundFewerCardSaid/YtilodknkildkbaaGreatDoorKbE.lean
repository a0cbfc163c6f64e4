/- Texts that the proof needs: LinB, LinC, LinD, LinWrap, BndFit, BndIn, BndIter, ShaNum, ShaDet, ShaElim. -/
import Derived.BigRegion
import Derived.RegionTactic
import Derived.Deep.QuietTactic
import Derived.BigQuiet
import Derived.Deep.RegionHeld3
import Derived.IntWalk
import Derived.Deep.OwnRows
import Derived.Deep.Slices
import Derived.WideKeyArgs
import Derived.RangeFuncNested
import Derived.RangeFuncBound
import Derived.RangeFuncCalls
import Derived.RangeFuncLeaves
import Derived.OrdersHeld
import Derived.OrdersIn
import Derived.TacticsIn
import Derived.Deep.RegionHeld
import Derived.Shelf.Abstract
import Derived.Shelf.RegionOpen
import Derived.OwnWalkIn
import Derived.TacticsInMore
import Derived.LoopNIn
import Derived.LoopIn
import Derived.Test.YtilodknkildkbaaGreatDoorKbA
import Derived.Test.YtilodknkildkbaaGreatDoorKbB
import Derived.Test.YtilodknkildkbaaGreatDoorKbC
import Derived.Test.YtilodknkildkbaaGreatDoorKbD
set_option maxHeartbeats 16000000
set_option maxRecDepth 1000000
namespace Go.Proofs.YtilodknkildkbaaGreatDoor
theorem tkbE{P:Program}{md:Region.Mode}{ops:Array Oper}{Q:Exit→Act→World→Prop}{S:World→Prop}{oi:Oper}{v:Value}{fuel:Nat}{listed:Array Bool}{a:Act}{w:World}(i:Nat)(hi:ops[i]?=some oi)(hS:S w)(hy:YieldsIf P ops S oi v a)(h:wpAnyH P md ops Q S fuel (listed.setIfInBounds i true) (a.put oi.dst v) w)(hs:Region.noSelect ops=true:=by kernel_rfl)(hf:Region.free md ops listed i=true:=by kernel_rfl)(hr:(Region.ready md ops listed).contains i=true:=by kernel_rfl)(hQ:∀c a w,Q (.panic c) (a.put oi.dst v) w→Q (.panic c) a w:=by exact fun _ _ _ h=>h):wpAnyH P md ops Q S (fuel+1) listed a w:=wpAnyH_take hi hs hf hr hQ hy hS h
section
open Go.RowKit Go.Shelf
namespace Nt
def CO:Code→List Code
 | .loop c=>c::CO c
 | .seq a b=>CO a++CO b
 | .block _ c=>CO c
 | .scope c=>CO c
 | .cond _ a b=>CO a++CO b
 | _=>[]
noncomputable def UC:Code:=((Tryz.f56.body.map CO).bind fun l=>l[2]?).getD .skip
def SQ (q:Rat):Bool:=decide (ShortQ q)
def ID (n:Nat) (M0:Mx) (w:World) (e:Ending) (w':World):Prop :=
 Below w.heap.size w w'∧((∃M v,Ax SQ n n M0=.ok M∧e=.returned (.tuple #[v,.int .i64 0])∧w'.ownsRow w.heap.size 40 3 v n (AF n fun i=>rq (M i n)))∨(∃er:Int,Ax SQ n n M0=.error er∧e=.returned (.tuple #[.slice none 0 0,.int .i64 er])))
theorem Ga {S:Rat→Bool} {n k:Nat} {M0 M:Mx} {e:Int} (h:Ax S n k M0=.ok M) (hs:CK S n k M=.error e) (hk:k<n):Ax S n n M0=.error e:=by
 have key:∀m,k+1≤m→Ax S n m M0=.error e:=by
  intro m
  induction m with
  | zero=>intro h;omega
  | succ m ih =>
    intro hm;unfold Ax
    by_cases e1:m=k
    · rw[e1,h];exact hs
    · rw[ih (by omega)];rfl
 exact key n hk
theorem IE {P:Nat→Prop} {k n:Nat} (h:¬∀j,k≤j→j≤n→P j):∃t,k≤t∧t≤n∧(∀j,k≤j→j<t→P j)∧¬P t:=by
 have key : ∀m,(∀j,k≤j→j<m→P j)∨∃t,k≤t∧t<m∧(∀j,k≤j→j<t→P j)∧¬P t:=by
  intro m
  induction m with
  | zero=>exact .inl fun j _ h=>absurd h (by omega)
  | succ m ih =>
    rcases ih with ih | ⟨t,a,b,c,d⟩
    · by_cases hm:k≤m
      · by_cases hp:P m
        · refine .inl fun j h1 h2=>?_
          by_cases e:j=m
          · rw[e];exact hp
          · exact ih j h1 (by omega)
        · exact .inr ⟨m,hm,by omega,ih,hp⟩
      · exact .inl fun j h1 h2=>ih j h1 (by omega)
    · exact .inr ⟨t,a,by omega,c,d⟩
 rcases key (n+1) with h1 | ⟨t,a,b,c,d⟩
 · exact absurd (fun j a b=>h1 j a (by omega)) h
 · exact⟨t,a,by omega,c,d⟩
theorem On {n k:Nat} {M:Mx} (h:Hp SQ n k M=false):∃t,k≤t∧t≤n∧(∀j,k≤j→j<t→ShortQ (M k j)∧ShortQ (M k k))∧¬(ShortQ (M k t)∧ShortQ (M k k)):=by
 refine IE fun h2=>?_;have:Hp SQ n k M=true:=(EL SQ).2 fun j a b=>⟨decide_eq_true (h2 j a b).1,decide_eq_true (h2 j a b).2⟩;rw[h]at this;cases this
theorem Oo {n k i:Nat} {M:Mx} (h:Hq SQ n k i M=false):∃t,k≤t∧t≤n∧(∀j,k≤j→j<t→ShortQ (M i k)∧ShortQ (M k j)∧ShortQ (M i j)∧ShortQ (M i k*M k j))∧¬(ShortQ (M i k)∧ShortQ (M k t)∧ShortQ (M i t)∧ShortQ (M i k*M k t)):=by
 refine IE fun h2=>?_;have:Hq SQ n k i M=true:=(EM SQ).2 fun j a b=>⟨decide_eq_true (h2 j a b).1,decide_eq_true (h2 j a b).2.1,decide_eq_true (h2 j a b).2.2.1,decide_eq_true (h2 j a b).2.2.2⟩;rw[h]at this;cases this
theorem MatW.drewN {W:World} {B R n:Nat} {bl:Nat→Nat} {M:Mx} (h:MatW W B R n bl M) (q:Nat):MatW (W.drewN q) B R n bl M:=⟨h.lt,h.hd,h.fr,h.rows,h.inj,h.ne,h.lowR,h.low⟩
theorem Oq {S:Rat→Bool} {n k i m:Nat} {M:Mx} (him:i≤m) (h:AC S n k i M=none):AC S n k m M=none:=by
 induction m with
 | zero=>rw[show i=0 by omega]at h;exact h
 | succ m ih =>
   by_cases e:i=m+1
   · rw[←e];exact h
   · unfold AC;rw[ih (by omega)];rfl
def Qz (w:World) (R n k kb vb:Nat) (bl:Nat→Nat) (M2:Mx) (y:Nat) (wq:World):Prop :=
 ∃M3:Mx,Hid (AC SQ n k y M2=some M3)∧Hid (MatW wq w.heap.size R n bl M3)∧Hid (∀i j,i<n→j≤n→OkQ (M3 i j))∧Hid (Below w.heap.size w wq)∧Hid (Int1 wq w.heap.size n)∧Hid (Int1 wq kb k)∧Hid (Blk1 wq vb (.slice (some ⟨bl k,k*3,none⟩) (n+1-k) (n+1-k)))
theorem LU {c0 c1 c2 c3 c6 c7 c8 c10 c12 c13 c18 c19 c20 c21 c22 c23 c24 c25 c26 c27 c28 c29 c30 c31 c32 c33 c34 c35 c36 c37 c38 c39 c40 c41 c42 c43 c44 c45 c46 c47 c48 c49 c50 c51 c52 c53 c54 c55 c56 c57 c58 c59 c60 c61 c62 c63 c64 c65 c66 c67 c68 c69 c70 c71 c72 c73 c74 c75 c76 c77 c78 c79 c80 c81 c82 c83 c84 c85 c86 c87 c88 c89 c90 c91 c92 c93 c94 c95 c96 c97 c98 c99 c100 c101 c102 c103 c104 c105 c106 c107 c108 c109 c110 c111 c112 c113 c114 c115 c116 c145 c146 c147 c148 c149 c150 c151 c152 c153 c154 c155 c156 c157 c158 c159 c160 a4 a5 a14 a15 a16 a17 a120 a121 a122 a123 a124 a125 a126 a127 a128 a129 a130 a131 a132 a133 a134 a135 a136 a137 a138 a139 a140 a141 a142 a143 a144:Value} {Q:Exit→Act→World→Prop} (R n k kb vb:Nat) (bl:Nat→Nat) (M2:Mx) (w w0:World) (hE:Env w) (hn8:n≤8) (hk:k<n) (hst:Qz w R n k kb vb bl M2 0 w0)
 (hx:∀(u4 u5 u14 u15 u16 u17 u119 u120 u121 u122 u123 u124 u125 u126 u127 u128 u129 u130 u131 u132 u133 u134 u135 u136 u137 u138 u139 u140 u141 u142 u143 u144:Value) (wq:World),Qz w R n k kb vb bl M2 n wq→Q (.exit 4) ⟨#[c0,c1,c2,c3,u4,u5,c6,c7,c8,.pointer (some ⟨kb,0,none⟩),c10,.pointer (some ⟨vb,0,none⟩),c12,c13,u14,u15,u16,u17,c18,c19,c20,c21,c22,c23,c24,c25,c26,c27,c28,c29,c30,c31,c32,c33,c34,c35,c36,c37,c38,c39,c40,c41,c42,c43,c44,c45,c46,c47,c48,c49,c50,c51,c52,c53,c54,c55,c56,c57,c58,c59,c60,c61,c62,c63,c64,c65,c66,c67,c68,c69,c70,c71,c72,c73,c74,c75,c76,c77,c78,c79,c80,c81,c82,c83,c84,c85,c86,c87,c88,c89,c90,c91,c92,c93,c94,c95,c96,c97,c98,c99,c100,c101,c102,c103,c104,c105,c106,c107,c108,c109,c110,c111,c112,c113,c114,c115,c116,.slice (some ⟨R,0,none⟩) n n,.int .i64 (n:Int),u119,u120,u121,u122,u123,u124,u125,u126,u127,u128,u129,u130,u131,u132,u133,u134,u135,u136,u137,u138,u139,u140,u141,u142,u143,u144,c145,c146,c147,c148,c149,c150,c151,c152,c153,c154,c155,c156,c157,c158,c159,c160],[]⟩ wq)
 (hr:∀(u14 u15 u16 u17 u119 u120 u121 u122 u123 u124 u125 u126 u127 u128 u129 u130 u131 u132 u133 u134 u135 u136 u137 u138 u139 u140 u141 u142 u143 u144:Value) (wq:World),Below w.heap.size w wq→AC SQ n k n M2=none→Q .ret ⟨#[c0,c1,c2,c3,.slice none 0 0,.int .i64 2,c6,c7,c8,.pointer (some ⟨kb,0,none⟩),c10,.pointer (some ⟨vb,0,none⟩),c12,c13,u14,u15,u16,u17,c18,c19,c20,c21,c22,c23,c24,c25,c26,c27,c28,c29,c30,c31,c32,c33,c34,c35,c36,c37,c38,c39,c40,c41,c42,c43,c44,c45,c46,c47,c48,c49,c50,c51,c52,c53,c54,c55,c56,c57,c58,c59,c60,c61,c62,c63,c64,c65,c66,c67,c68,c69,c70,c71,c72,c73,c74,c75,c76,c77,c78,c79,c80,c81,c82,c83,c84,c85,c86,c87,c88,c89,c90,c91,c92,c93,c94,c95,c96,c97,c98,c99,c100,c101,c102,c103,c104,c105,c106,c107,c108,c109,c110,c111,c112,c113,c114,c115,c116,.slice (some ⟨R,0,none⟩) n n,.int .i64 (n:Int),u119,u120,u121,u122,u123,u124,u125,u126,u127,u128,u129,u130,u131,u132,u133,u134,u135,u136,u137,u138,u139,u140,u141,u142,u143,u144,c145,c146,c147,c148,c149,c150,c151,c152,c153,c154,c155,c156,c157,c158,c159,c160],[]⟩ wq) :
 Code.wp Tryz.prog (Code.loop UC) Q ⟨#[c0,c1,c2,c3,a4,a5,c6,c7,c8,.pointer (some ⟨kb,0,none⟩),c10,.pointer (some ⟨vb,0,none⟩),c12,c13,a14,a15,a16,a17,c18,c19,c20,c21,c22,c23,c24,c25,c26,c27,c28,c29,c30,c31,c32,c33,c34,c35,c36,c37,c38,c39,c40,c41,c42,c43,c44,c45,c46,c47,c48,c49,c50,c51,c52,c53,c54,c55,c56,c57,c58,c59,c60,c61,c62,c63,c64,c65,c66,c67,c68,c69,c70,c71,c72,c73,c74,c75,c76,c77,c78,c79,c80,c81,c82,c83,c84,c85,c86,c87,c88,c89,c90,c91,c92,c93,c94,c95,c96,c97,c98,c99,c100,c101,c102,c103,c104,c105,c106,c107,c108,c109,c110,c111,c112,c113,c114,c115,c116,.slice (some ⟨R,0,none⟩) n n,.int .i64 (n:Int),.int .i64 0,a120,a121,a122,a123,a124,a125,a126,a127,a128,a129,a130,a131,a132,a133,a134,a135,a136,a137,a138,a139,a140,a141,a142,a143,a144,c145,c146,c147,c148,c149,c150,c151,c152,c153,c154,c155,c156,c157,c158,c159,c160],[]⟩ w0:=by
 conv=>arg 2;arg 1;whnf
 conv=>arg 4;zeta
 have hkn:k≤8:=by omega
 replace hE:=zh hE;replace hst:=zh hst;replace hx:=zh hx;replace hr:=zh hr
 go_loopw [119] (fun i wq=>∃y:Nat,y≤n∧i=.int .i64 (y:Int)∧Hid (Qz w R n k kb vb bl M2 y wq)) (fun i _=>n-(intOf i).toNat)
 case atStart=>exact⟨0,Nat.zero_le _,rfl,hst.out⟩
 case round =>
  obtain⟨i,hi,rfl,hI⟩:=hrel
  by_cases hlt2:i<n
  · obtain ⟨M3,hel,hM,hO,hBq,hIq,hkq,hvq⟩:=hI.out;clear hI;have c1:=hM.out.hd i hlt2;have c2:=hM.out.lt;have c3:=hkq.out.cell;have c4:=hkq.out.lt;obtain⟨e1,e2,e3⟩:=(hM.out.rows i hlt2).cell (j:=k) (by omega);have e4:=(hM.out.rows i hlt2).lt;have s2:(k:Int)<(n:Int)+1:=by omega
    have s3:(0:Int)≤(k:Int):=by omega
    obtain⟨fg,fn,fd,hfq⟩:=CF (M3 i k);rw[hfq]at e1 e2 e3;have hM4:=zh (hM.out.alloc (.cells #[.bool fg,.string fn,.string fd] 40));have hk4:=zh (hkq.out.alloc (.cells #[.bool fg,.string fn,.string fd] 40));have hI4:=zh (hIq.out.alloc (.cells #[.bool fg,.string fn,.string fd] 40));have hv4:=zh (hvq.out.alloc (.cells #[.bool fg,.string fn,.string fd] 40));have hB4:=zh (hBq.out.alloc hBq.out.size (.cells #[.bool fg,.string fn,.string fd] 40));have hf4:=zh (B3.new wr fg fn fd)
    by_cases hik:i=k
    · have h1:(i==k)=true:=by rw[beq_iff_eq];exact hik
      have h2:((i:Int)==(k:Int))=true:=by rw[beq_iff_eq];omega
      have hel2:Hid (AC SQ n k (i+1) M2=some M3):=by
       show AC SQ n k (i+1) M2=some M3
       unfold AC;rw[hel.out]
       show BB SQ n k i M3=some M3
       unfold BB;rw[if_pos (.inl hik)]
      replace hik:=zh hik;replace hfq:=zh hfq
      go_wp2_with fail
      go_quiet (fail)
      go_wp2
      go_roundw
      case rel=>exact⟨i+1,by omega,by go_num,M3,hel2,hM4.out.drewN nq,hO,BZ hB4.out nq,hI4.out,hk4.out,hv4.out⟩
      case measure=>simp[intOf];omega
    · have h1:(i==k)=false:=by rw[beq_eq_false_iff_ne];exact hik
      have h2:((i:Int)==(k:Int))=false:=by rw[beq_eq_false_iff_ne];omega
      have kz:=zh Hr;obtain⟨g1,g2,g3,g4,g5,g6⟩:=hf4.out.facts;have k1:=hk4.out.cell;have k2:=hk4.out.lt;have k3:=hf4.out.lt;have hcc:Hid ((wr.alloc (.cells #[.bool fg,.string fn,.string fd] 40)).cell? ⟨kb,0,none⟩=some (.int .i64 (k:Int))∧(wr.alloc (.cells #[.bool fg,.string fn,.string fd] 40)).cell? ⟨wr.heap.size,0,none⟩=some (.bool fg)∧(wr.alloc (.cells #[.bool fg,.string fn,.string fd] 40)).cell? ⟨wr.heap.size,1,none⟩=some (.string fn)∧(wr.alloc (.cells #[.bool fg,.string fn,.string fd] 40)).cell? ⟨wr.heap.size,2,none⟩=some (.string fd)):=⟨k1,g1,g2,g3⟩;obtain⟨w4,hw4⟩:∃W,W=wr.alloc (.cells #[.bool fg,.string fn,.string fd] 40):=⟨_,rfl⟩;rw[←hw4]at hM4 hk4 hI4 hv4 hB4 hf4 hcc k1 k2 k3 g1 g2 g3 g4 g5 g6;obtain⟨fb,hfb⟩:∃x,x=wr.heap.size:=⟨_,rfl⟩;rw[←hfb]at hf4 hcc k3 g1 g2 g3 g4 g5 g6;replace hw4:=zh hw4;replace hfb:=zh hfb;replace hik:=zh hik
      go_wp2_with fail
      rw[←hw4.out,←hfb.out];clear c1 c2 c3 c4 e1 e2 e3 e4 hM hkq hvq hIq hBq hw4 hfb
      by_cases h0:M3 i k=0
      · have hel2:Hid (AC SQ n k (i+1) M2=some M3):=by
         show AC SQ n k (i+1) M2=some M3
         unfold AC;rw[hel.out]
         show BB SQ n k i M3=some M3
         unfold BB;rw[if_pos (.inr h0)]
        obtain ⟨rfl,rfl,rfl⟩:fg=false∧fn=⟨#[48]⟩∧fd=⟨#[49]⟩:=by
         rw[h0,rq_zero]at hfq;injection hfq with a1 a2;injection a2 with a3 a4;exact⟨a1.symm,a3.symm,a4.symm⟩
        replace hfq:=zh hfq;replace h0:=zh h0
        go_region_held3 (fun w'=>w'.cell? ⟨kb,0,none⟩=some (.int .i64 (k:Int))∧w'.cell? ⟨fb,0,none⟩=some (.bool false)∧w'.cell? ⟨fb,1,none⟩=some (.string ⟨#[48]⟩)∧w'.cell? ⟨fb,2,none⟩=some (.string ⟨#[49]⟩)) (first | (with_reducible exact hcc.out) | (exact⟨(hb5.cell (p:=⟨kb,0,none⟩) k2).trans k1,(hb5.cell (p:=⟨fb,0,none⟩) k3).trans g1,(hb5.cell (p:=⟨fb,1,none⟩) k3).trans g2,(hb5.cell (p:=⟨fb,2,none⟩) k3).trans g3⟩) | go_keep)
         (first
           | (go_at_call 103;refine(kz.out _).mono ?_;rintro e w5 ⟨rfl,hb5⟩;replace hb5:Below w4.heap.size w4 w5:=(Below.refl _ w4).drew.trans hb5;have hM5:=zh (hM4.out.below hb5);have hk5:=zh (hk4.out.below hb5);have hI5:=zh (hI4.out.below hb5);have hv5:=zh (hv4.out.below hb5);have hf5:=zh (hf4.out.below hb5);have hB5:=zh (hB4.out.trans (hb5.mono hB4.out.size))))
        all_goals (
         go_wp2
         go_roundw
         case rel=>exact⟨i+1,by omega,by go_num,M3,hel2,hM5.out,hO,hB5.out,hI5.out,hk5.out,hv5.out⟩
         case measure=>simp[intOf];omega
         )
      · have hz:(fn.toList==[48])=false:=by
         have:=Qv h0
         rwa [hfq]at this
        replace hfq:=zh hfq
        go_region_held3 (fun w'=>w'.cell? ⟨kb,0,none⟩=some (.int .i64 (k:Int))∧w'.cell? ⟨fb,0,none⟩=some (.bool fg)∧w'.cell? ⟨fb,1,none⟩=some (.string fn)∧w'.cell? ⟨fb,2,none⟩=some (.string fd)) (first | (with_reducible exact hcc.out) | (exact⟨(hb5.cell (p:=⟨kb,0,none⟩) k2).trans k1,(hb5.cell (p:=⟨fb,0,none⟩) k3).trans g1,(hb5.cell (p:=⟨fb,1,none⟩) k3).trans g2,(hb5.cell (p:=⟨fb,2,none⟩) k3).trans g3⟩) | go_keep)
         (first
           | (go_at_call 103;refine(kz.out _).mono ?_;rintro e w5 ⟨rfl,hb5⟩;replace hb5:Below w4.heap.size w4 w5:=(Below.refl _ w4).drew.trans hb5;have hM5:=zh (hM4.out.below hb5);have hk5:=zh (hk4.out.below hb5);have hI5:=zh (hI4.out.below hb5);have hv5:=zh (hv4.out.below hb5);have hf5:=zh (hf4.out.below hb5);have hB5:=zh (hB4.out.trans (hb5.mono hB4.out.size))))
        clear g1 g2 g3 g4 g5 g6 k1 k2 k3 hcc hM4 hk4 hI4 hv4 hB4 hf4 h1 h2;have hrow:=zh (hM5.out.rows i hlt2);have hlo:=zh (hM5.out.low i hlt2);have hfne:=zh (hf5.out.ne_row hrow.out (by omega));have hvne:=zh (hv5.out.ne_row hrow.out);have hkne:=zh (hk5.out.ne_row hrow.out);have hIne:=zh (hI5.out.ne_row hrow.out);have hcb:Hid (bl k≠bl i):=fun e=>hik.out (hM5.out.inj k i hk hlt2 e).symm;have hS:=zh (hM5.out.rows k hk);have hEB:=zh ((EnvB.of hE.out).below hB5.out);have hf5':Hid (B3 w5 fb (rq (M3 i k)).1 (rq (M3 i k)).2.1 (rq (M3 i k)).2.2):=by rw[hfq.out];exact hf5.out
        have k1:=hk5.out.cell;have s4:¬n+1=k:=by omega
        cases hsub:Hq SQ n k i M3 with
        | true =>
          have hok:=(EM SQ).1 hsub
          have kd:=zh (fun cap=>LQ w.heap.size (bl i) k (n+1) cap (fun j=>M3 i j) (M3 i k) (fun j=>M3 k j) fb vb (bl k) (n+1-k) w5 hEB.out hlo.out hrow.out (by omega) (by omega) hf5'.out hfne.out hv5.out hvne.out hS.out hcb.out fun j a b=>by
           obtain⟨x1,x2,x3,x4⟩:=hok j a (by omega);exact⟨of_decide_eq_true x1,of_decide_eq_true x2,of_decide_eq_true x3,of_decide_eq_true x4⟩)
          have hel2:Hid (AC SQ n k (i+1) M2=some (Di k i M3)):=by
           show AC SQ n k (i+1) M2=some (Di k i M3)
           unfold AC;rw[hel.out]
           show BB SQ n k i M3=some (Di k i M3)
           unfold BB;rw[if_neg (by rintro(h | h);(· exact hik.out h);(· exact h0 h)),if_pos hsub]
          have hO6:Hid (∀i' j,i'<n→j≤n→OkQ (Di k i M3 i' j)):=fun i' j hi' hj=>by
           unfold Di
           split
           · rename_i hc;obtain⟨x1,x2,x3,x4⟩:=hok j hc.2 hj;exact MV (of_decide_eq_true x3) (of_decide_eq_true x4)
           · exact hO.out i' j hi' hj
          replace h0:=zh h0;clear hok hsub hz
          all_goals (
           go_wp2_with fail
           refine(kd.out _).mono ?_;rintro e w6 ⟨rfl,hg,hrr⟩;have hB6:=zh (hB5.out.trans (AR hg hlo.out hB5.out.size))
           have hM6:=zh (hM5.out.change hlt2 hg (M':=Di k i M3) (hrr.congr fun j hj=>by
            unfold Di
            by_cases a1:k≤j
            · rw[if_pos a1,if_pos ⟨rfl,a1⟩]
            · rw[if_neg a1,if_neg fun h=>a1 h.2]) (fun i' hi' hne=>by funext j;unfold Di;rw[if_neg fun h=>hne h.1]))
           have hk6:=zh (hk5.out.grown hg hkne.out);have hI6:=zh (hI5.out.grown hg hIne.out);have hv6:=zh (hv5.out.grown hg hvne.out);clear hg hrr k1;go_wp2
           go_roundw
           case rel=>exact⟨i+1,by omega,by go_num,_,hel2,hM6,hO6,hB6,hI6,hk6,hv6⟩
           case measure=>simp[intOf];omega
           )
        | false =>
          obtain⟨t,t1,t2,t3,t4⟩:=Oo hsub;have kd:=zh (fun cap=>LR w.heap.size (bl i) k (n+1) cap (fun j=>M3 i j) (M3 i k) (fun j=>M3 k j) fb vb (bl k) (n+1-k) w5 hEB.out hlo.out hrow.out (by omega) (by omega) hf5'.out hfne.out hv5.out hvne.out hS.out hcb.out t t1 (by omega) t3 t4 (fun j a b=>⟨hO.out i j hlt2 (by omega),hO.out k j hk (by omega)⟩) (hO.out i k hlt2 (by omega)))
          have hel2:Hid (AC SQ n k n M2=none):=by
           refine Oq (i:=i+1) (by omega) ?_;unfold AC;rw[hel.out]
           show BB SQ n k i M3=none
           unfold BB;rw[if_neg (by rintro(h | h);(· exact hik.out h);(· exact h0 h)),if_neg (by rw[hsub];simp)]
          replace h0:=zh h0;clear t1 t2 t3 t4 hsub hz
          all_goals (
           go_wp2_with fail
           refine(kd.out _).mono ?_;rintro e w6 ⟨rfl,hg⟩;have hB6:=zh (hB5.out.trans (AR hg hlo.out hB5.out.size));clear hg k1;go_wp2;apply hr.out
           · exact hB6.out
           · exact hel2.out
           )
  · obtain rfl:n=i:=by omega
    go_wp2;apply hx.out;exact hI.out
end Nt
end
section
open Go.RowKit Go.Shelf
namespace Nt
def Bt:Code→List Code
 | .loop c=>Bt c
 | .seq a b=>Bt a++Bt b
 | .block _ c=>Bt c
 | .scope c=>Bt c
 | .cond _ a b=>Bt a++Bt b
 | .region a b c=>[.region a b c]
 | _=>[]
noncomputable def UD:Code:=((Tryz.f56.body.map Bt).bind fun l=>l[20]?).getD .skip
theorem FB {w:World} {p q:Addr} {x y:Value} (hp:w.cell? p=some x) (hq:w.cell? q=some y) (v:Value):∃u,(w.setCell p v).cell? q=some u:=by
 by_cases e:q=p
 · rw[e];exact⟨v,World.cell?_setCell_same w _ _ hp⟩
 · exact⟨y,(World.cell?_setCell_other w _ _ _ (fun e2=>e (by first | exact e2 | exact e2.symm))).trans hq⟩
theorem Q0 {c0 d1 d2 d3 d4 d5 c6 c8 c11 c12 c13 c14 c15 c16 c17 c18 c19 c20 c21 c22 c23 c24 c25 c26 c27 c28 c29 c30 c31 c32 c33 c34 c35 c36 c37 c38 c39 c40 c41 c42 c43 c44 c45 c46 c47 c48 c49 c50 c51 c52 c53 c54 c55 c56 c57 c58 c59 c60 c61 c62 c63 c64 c65 c66 c67 c68 c69 c70 c71 c72 c73 c74 c75 c76 c77 c78 c79 c80 c81 c82 c83 c84 c85 c86 c87 c88 c89 c90 c91 c92 c93 c94 c95 c96 c97 c98 c99 c100 c101 c102 c103 c104 c105 c106 c107 c108 c109 c110 c111 c112 c113 c114 c115 c116 c117 c118 c119 c120 c121 c122 c123 c124 c125 c126 c127 c128 c129 c130 c131 c132 c133 c134 c135 c136 c137 c138 c139 c140 c141 c142 c143 c144 c145 c146 c147 c148 c149 c150 c151 c152 c153 c154 c155 c156 c157 c158 c159 c160:Value} {Q:Exit→Act→World→Prop} (R n k f kb:Nat) (bl:Nat→Nat) (w3:World)
 (c1:w3.cell? ⟨kb,0,none⟩=some (.int .i64 (k:Int)))
 (c2:w3.cell? ⟨R,k+f,none⟩=some (.slice (some ⟨bl (k+f),0,none⟩) (n+1) (n+1)))
 (c3:w3.cell? ⟨R,k,none⟩=some (.slice (some ⟨bl k,0,none⟩) (n+1) (n+1)))
 (c4:w3.frozen? ⟨R,k+f,none⟩=false) (c5:w3.frozen? ⟨R,k,none⟩=false)
 (hkR:kb≠R) (hn8:n≤8) (hlt:k<n) (hp2:k+f<n)
 (h:∀u84 u85 u86 u87 u88 u89 u90 u91 u92 u93 u94 u95 u96 u97 u98 u99 u100 u101:Value,Q .normal ⟨#[c0,d1,d2,d3,d4,d5,c6,.slice (some ⟨R,0,none⟩) n n,c8,.pointer (some ⟨kb,0,none⟩),.int .i64 (f:Int),c11,c12,c13,c14,c15,c16,c17,c18,c19,c20,c21,c22,c23,c24,c25,c26,c27,c28,c29,c30,c31,c32,c33,c34,c35,c36,c37,c38,c39,c40,c41,c42,c43,c44,c45,c46,c47,c48,c49,c50,c51,c52,c53,c54,c55,c56,c57,c58,c59,c60,c61,c62,c63,c64,c65,c66,c67,c68,c69,c70,c71,c72,c73,c74,c75,c76,c77,c78,c79,c80,c81,c82,c83,u84,u85,u86,u87,u88,u89,u90,u91,u92,u93,u94,u95,u96,u97,u98,u99,u100,u101,c102,c103,c104,c105,c106,c107,c108,c109,c110,c111,c112,c113,c114,c115,c116,c117,c118,c119,c120,c121,c122,c123,c124,c125,c126,c127,c128,c129,c130,c131,c132,c133,c134,c135,c136,c137,c138,c139,c140,c141,c142,c143,c144,c145,c146,c147,c148,c149,c150,c151,c152,c153,c154,c155,c156,c157,c158,c159,c160],[]⟩ (((w3.setCell ⟨R,k,none⟩ (.slice (some ⟨bl (k+f),0,none⟩) (n+1) (n+1))).setCell ⟨R,k+f,none⟩ (.slice (some ⟨bl k,0,none⟩) (n+1) (n+1))).drew)) :
 Code.wp Tryz.prog UD Q ⟨#[c0,d1,d2,d3,d4,d5,c6,.slice (some ⟨R,0,none⟩) n n,c8,.pointer (some ⟨kb,0,none⟩),.int .i64 (f:Int),c11,c12,c13,c14,c15,c16,c17,c18,c19,c20,c21,c22,c23,c24,c25,c26,c27,c28,c29,c30,c31,c32,c33,c34,c35,c36,c37,c38,c39,c40,c41,c42,c43,c44,c45,c46,c47,c48,c49,c50,c51,c52,c53,c54,c55,c56,c57,c58,c59,c60,c61,c62,c63,c64,c65,c66,c67,c68,c69,c70,c71,c72,c73,c74,c75,c76,c77,c78,c79,c80,c81,c82,c83,c84,c85,c86,c87,c88,c89,c90,c91,c92,c93,c94,c95,c96,c97,c98,c99,c100,c101,c102,c103,c104,c105,c106,c107,c108,c109,c110,c111,c112,c113,c114,c115,c116,c117,c118,c119,c120,c121,c122,c123,c124,c125,c126,c127,c128,c129,c130,c131,c132,c133,c134,c135,c136,c137,c138,c139,c140,c141,c142,c143,c144,c145,c146,c147,c148,c149,c150,c151,c152,c153,c154,c155,c156,c157,c158,c159,c160],[]⟩ w3:=by
 have s0:(0:Int)≤(f:Int):=by omega
 have s7:(0:Int)≤(k:Int):=by omega
 have s1:(0:Int)≤(k:Int)+(f:Int):=by omega
 have s2:(k:Int)+(f:Int)<(n:Int):=by omega
 have s3:(k:Int)<(n:Int):=by omega
 have s4:IntKind.i64.wrap ((k:Int)+(f:Int))=(k:Int)+(f:Int):=IntWalk.i64_in _ (by omega);have s5:((k:Int)+(f:Int)).toNat=k+f:=by omega
 obtain⟨v1,hv1⟩:∃u,(w3.setCell ⟨R,k,none⟩ (.slice (some ⟨bl (k+f),0,none⟩) (n+1) (n+1))).cell? ⟨R,k+f,none⟩=some u:=FB c3 c2 _;obtain⟨v2,hv2⟩:∃u,(w3.setCell ⟨R,k+f,none⟩ (.slice (some ⟨bl k,0,none⟩) (n+1) (n+1))).cell? ⟨R,k,none⟩=some u:=FB c2 c3 _
 conv=>arg 2;whnf
 conv=>arg 4;zeta
 replace h:=zh h;have y1:(w3.setCell ⟨R,k,none⟩ (.slice (some ⟨bl (k+f),0,none⟩) (n+1) (n+1))).cell? ⟨kb,0,none⟩=some (.int .i64 (k:Int)):=(World.cell?_setCell_other w3 _ _ _ (fun e=>hkR (congrArg Addr.block e).symm)).trans c1;have y2:((w3.setCell ⟨R,k,none⟩ (.slice (some ⟨bl (k+f),0,none⟩) (n+1) (n+1))).setCell ⟨R,k+f,none⟩ (.slice (some ⟨bl k,0,none⟩) (n+1) (n+1))).cell? ⟨kb,0,none⟩=some (.int .i64 (k:Int)):=(World.cell?_setCell_other _ _ _ _ (fun e=>hkR (congrArg Addr.block e).symm)).trans y1;have hcc:Hid (w3.cell? ⟨kb,0,none⟩=some (.int .i64 (k:Int))∧(w3.setCell ⟨R,k,none⟩ (.slice (some ⟨bl (k+f),0,none⟩) (n+1) (n+1))).cell? ⟨kb,0,none⟩=some (.int .i64 (k:Int))∧((w3.setCell ⟨R,k,none⟩ (.slice (some ⟨bl (k+f),0,none⟩) (n+1) (n+1))).setCell ⟨R,k+f,none⟩ (.slice (some ⟨bl k,0,none⟩) (n+1) (n+1))).cell? ⟨kb,0,none⟩=some (.int .i64 (k:Int))):=⟨c1,y1,y2⟩;have z0:w3.drew.cell? ⟨kb,0,none⟩=some (.int .i64 (k:Int)):=c1;have z1:(w3.setCell ⟨R,k,none⟩ (.slice (some ⟨bl (k+f),0,none⟩) (n+1) (n+1))).drew.cell? ⟨kb,0,none⟩=some (.int .i64 (k:Int)):=y1;have z2:((w3.setCell ⟨R,k,none⟩ (.slice (some ⟨bl (k+f),0,none⟩) (n+1) (n+1))).setCell ⟨R,k+f,none⟩ (.slice (some ⟨bl k,0,none⟩) (n+1) (n+1))).drew.cell? ⟨kb,0,none⟩=some (.int .i64 (k:Int)):=y2;clear y1 y2;refine wp_region_noPanic ?_;refine wp_region_held_drew (S:=(fun w'=>w'.cell? ⟨kb,0,none⟩=some (.int .i64 (k:Int)))) (by kernel_rfl) z0 (fun hHeld=>?_);refine tkbE (v:=?_) 0 rfl (by assumption) (Or.inl ⟨by rfl,?_⟩) ?_;rotate_left
 · (intro w hSw;(try dsimp only at hSw);go_simp<;>with_reducible rfl)
 simp only[Act.put,List.setIfInBounds_toArray];refine tkbE (v:=?_) 1 rfl (by assumption) (Or.inl ⟨by rfl,?_⟩) ?_;rotate_left
 · (intro w hSw;(try dsimp only at hSw);go_simp<;>with_reducible rfl)
 simp only[Act.put];refine tkbE (v:=?_) 2 rfl (by assumption) (Or.inl ⟨by rfl,?_⟩) ?_;rotate_left
 · (intro w hSw;(try dsimp only at hSw);go_simp<;>with_reducible rfl)
 simp only[Act.put];refine tkbE (v:=?_) 3 rfl (by assumption) (Or.inl ⟨by rfl,?_⟩) ?_;rotate_left
 · (intro w hSw;(try dsimp only at hSw);go_simp<;>with_reducible rfl)
 simp only[Act.put];refine tkbE (v:=?_) 4 rfl (by assumption) (Or.inl ⟨by rfl,?_⟩) ?_;rotate_left
 · (intro w hSw;(try dsimp only at hSw);go_simp<;>with_reducible rfl)
 simp only[Act.put];refine tkbE (v:=?_) 5 rfl (by assumption) (Or.inl ⟨by rfl,?_⟩) ?_;rotate_left
 · (intro w hSw;(try dsimp only at hSw);go_simp<;>with_reducible rfl)
 simp only[Act.put];refine tkbE (v:=?_) 6 rfl (by assumption) (Or.inl ⟨by rfl,?_⟩) ?_;rotate_left
 · (intro w hSw;(try dsimp only at hSw);go_simp<;>with_reducible rfl)
 simp only[Act.put];refine tkbE (v:=?_) 7 rfl (by assumption) (Or.inl ⟨by rfl,?_⟩) ?_;rotate_left
 · (intro w hSw;(try dsimp only at hSw);go_simp<;>with_reducible rfl)
 simp only[Act.put];refine tkbE (v:=?_) 8 rfl (by assumption) (Or.inl ⟨by rfl,?_⟩) ?_;rotate_left
 · (intro w hSw;(try dsimp only at hSw);go_simp<;>with_reducible rfl)
 simp only[Act.put];refine tkbE (v:=?_) 9 rfl (by assumption) (Or.inl ⟨by rfl,?_⟩) ?_;rotate_left
 · (intro w hSw;(try dsimp only at hSw);go_simp<;>with_reducible rfl)
 simp only[Act.put];refine tkbE (v:=?_) 10 rfl (by assumption) (Or.inl ⟨by rfl,?_⟩) ?_;rotate_left
 · (intro w hSw;(try dsimp only at hSw);go_simp<;>with_reducible rfl)
 simp only[Act.put];refine tkbE (v:=?_) 12 rfl (by assumption) (Or.inl ⟨by rfl,?_⟩) ?_;rotate_left
 · (intro w hSw;(try dsimp only at hSw);go_simp<;>with_reducible rfl)
 simp only[Act.put];refine tkbE (v:=?_) 13 rfl (by assumption) (Or.inl ⟨by rfl,?_⟩) ?_;rotate_left
 · (intro w hSw;(try dsimp only at hSw);go_simp<;>with_reducible rfl)
 simp only[Act.put];refine tkbE (v:=?_) 14 rfl (by assumption) (Or.inl ⟨by rfl,?_⟩) ?_;rotate_left
 · (intro w hSw;(try dsimp only at hSw);go_simp<;>with_reducible rfl)
 simp only[Act.put];refine wpAnyH_ready (rs:=[11,15]) (by kernel_rfl) (by simp) ?_;refine AllReadyH.cons (o:=_) rfl (fun K hK=>?_) ?_
 · go_simp;refine hK.out _ _ (by with_reducible exact z0) (fun hHeld2=>?_);clear hK K hHeld;have hHeld:=hHeld2;clear hHeld2
   try simp only[Act.put,List.setIfInBounds_toArray,List.set_cons_zero,List.set_cons_succ]
   refine wpAnyH_ready (rs:=[15]) (by kernel_rfl) (by simp) ?_;refine AllReadyH.cons (o:=_) rfl (fun K hK=>?_) ?_
   · go_simp;refine hK.out _ _ (by with_reducible exact z0) (fun hHeld2=>?_);clear hK K hHeld;have hHeld:=hHeld2;clear hHeld2
     try simp only[Act.put,List.setIfInBounds_toArray,List.set_cons_zero,List.set_cons_succ]
     refine tkbE (v:=?_) 16 rfl (by assumption) (Or.inl ⟨by rfl,?_⟩) ?_;rotate_left
     · (intro w hSw;(try dsimp only at hSw);go_simp<;>with_reducible rfl)
     simp only[Act.put,List.setIfInBounds_toArray];refine wpAnyH_ready (rs:=[17]) (by kernel_rfl) (by simp) ?_;refine AllReadyH.cons (o:=_) rfl (fun K hK=>?_) ?_
     · go_simp;refine hK.out _ _ (by with_reducible exact z1) (fun hHeld2=>?_);clear hK K hHeld;have hHeld:=hHeld2;clear hHeld2
       try simp only[Act.put,List.setIfInBounds_toArray,List.set_cons_zero,List.set_cons_succ]
       refine tkbE (v:=?_) 18 rfl (by assumption) (Or.inl ⟨by rfl,?_⟩) ?_;rotate_left
       · (intro w hSw;(try dsimp only at hSw);go_simp<;>with_reducible rfl)
       simp only[Act.put,List.setIfInBounds_toArray];refine wpAnyH_ready (rs:=[19]) (by kernel_rfl) (by simp) ?_;refine AllReadyH.cons (o:=_) rfl (fun K hK=>?_) ?_
       · go_simp;refine hK.out _ _ (by with_reducible exact z2) (fun hHeld2=>?_);clear hK K hHeld;have hHeld:=hHeld2;clear hHeld2
         try simp only[Act.put,List.setIfInBounds_toArray,List.set_cons_zero,List.set_cons_succ]
         refine wpAnyH_done (by kernel_rfl) ?_ _;refine NoPanic.normal ?_;exact h.out ..
       exact AllReadyH.nil
     exact AllReadyH.nil
   exact AllReadyH.nil
 refine AllReadyH.cons (o:=_) rfl (fun K hK=>?_) ?_
 · go_simp;refine hK.out _ _ (by with_reducible exact z0) (fun hHeld2=>?_);clear hK K hHeld;have hHeld:=hHeld2;clear hHeld2
   try simp only[Act.put,List.setIfInBounds_toArray,List.set_cons_zero,List.set_cons_succ]
   refine wpAnyH_ready (rs:=[11]) (by kernel_rfl) (by simp) ?_;refine AllReadyH.cons (o:=_) rfl (fun K hK=>?_) ?_
   · go_simp;refine hK.out _ _ (by with_reducible exact z0) (fun hHeld2=>?_);clear hK K hHeld;have hHeld:=hHeld2;clear hHeld2
     try simp only[Act.put,List.setIfInBounds_toArray,List.set_cons_zero,List.set_cons_succ]
     refine tkbE (v:=?_) 16 rfl (by assumption) (Or.inl ⟨by rfl,?_⟩) ?_;rotate_left
     · (intro w hSw;(try dsimp only at hSw);go_simp<;>with_reducible rfl)
     simp only[Act.put,List.setIfInBounds_toArray];refine wpAnyH_ready (rs:=[17]) (by kernel_rfl) (by simp) ?_;refine AllReadyH.cons (o:=_) rfl (fun K hK=>?_) ?_
     · go_simp;refine hK.out _ _ (by with_reducible exact z1) (fun hHeld2=>?_);clear hK K hHeld;have hHeld:=hHeld2;clear hHeld2
       try simp only[Act.put,List.setIfInBounds_toArray,List.set_cons_zero,List.set_cons_succ]
       refine tkbE (v:=?_) 18 rfl (by assumption) (Or.inl ⟨by rfl,?_⟩) ?_;rotate_left
       · (intro w hSw;(try dsimp only at hSw);go_simp<;>with_reducible rfl)
       simp only[Act.put,List.setIfInBounds_toArray];refine wpAnyH_ready (rs:=[19]) (by kernel_rfl) (by simp) ?_;refine AllReadyH.cons (o:=_) rfl (fun K hK=>?_) ?_
       · go_simp;refine hK.out _ _ (by with_reducible exact z2) (fun hHeld2=>?_);clear hK K hHeld;have hHeld:=hHeld2;clear hHeld2
         try simp only[Act.put,List.setIfInBounds_toArray,List.set_cons_zero,List.set_cons_succ]
         refine wpAnyH_done (by kernel_rfl) ?_ _;refine NoPanic.normal ?_;exact h.out ..
       exact AllReadyH.nil
     exact AllReadyH.nil
   exact AllReadyH.nil
 exact AllReadyH.nil
end Nt
end
section
open Go.RowKit Go.Shelf
namespace Nt
noncomputable def UE:Code:=((Tryz.f56.body.map CO).bind fun l=>l[1]?).getD .skip
def LV (w:World) (R n:Nat) (M0:Mx) (y:Nat) (wq:World):Prop :=
 ∃(bl:Nat→Nat) (M:Mx),Hid (Ax SQ n y M0=.ok M)∧Hid (MatW wq w.heap.size R n bl M)∧Hid (∀i j,i<n→j≤n→OkQ (M i j))∧Hid (Below w.heap.size w wq)∧Hid (Int1 wq w.heap.size n)
theorem LW {c0 c1 c2 c3 c6 c8 c18 c19 c20 c21 c22 c23 c24 c25 c26 c27 c28 c29 c30 c31 c32 c33 c34 c35 c36 c37 c38 c39 c40 c41 c42 c43 c44 c45 c46 c47 c48 c49 c50 c51 c52 c53 c54 c55 c56 c57 c58 c59 c60 c61 c62 c63 c64 c65 c66 c67 c68 c69 c70 c71 c72 c146 c147 c148 c149 c150 c151 c152 c153 c154 c155 c156 c157 c158 c159 c160 a4 a5 a9 a10 a11 a12 a13 a14 a15 a16 a17 a75 a76 a77 a78 a79 a80 a81 a82 a83 a84 a85 a86 a87 a88 a89 a90 a91 a92 a93 a94 a95 a96 a97 a98 a99 a100 a101 a102 a103 a104 a105 a106 a107 a108 a109 a110 a111 a112 a113 a114 a115 a116 a117 a118 a119 a120 a121 a122 a123 a124 a125 a126 a127 a128 a129 a130 a131 a132 a133 a134 a135 a136 a137 a138 a139 a140 a141 a142 a143 a144 a145:Value} {Q:Exit→Act→World→Prop} (R n:Nat) (M0:Mx) (w w0:World) (hE:Env w) (hn8:n≤8) (hnR:w.heap.size≠R) (hst0:LV w R n M0 0 w0)
 (hx:∀(u4 u5 u9 u10 u11 u12 u13 u14 u15 u16 u17 u74 u75 u76 u77 u78 u79 u80 u81 u82 u83 u84 u85 u86 u87 u88 u89 u90 u91 u92 u93 u94 u95 u96 u97 u98 u99 u100 u101 u102 u103 u104 u105 u106 u107 u108 u109 u110 u111 u112 u113 u114 u115 u116 u117 u118 u119 u120 u121 u122 u123 u124 u125 u126 u127 u128 u129 u130 u131 u132 u133 u134 u135 u136 u137 u138 u139 u140 u141 u142 u143 u144 u145:Value) (wq:World),LV w R n M0 n wq→Q (.exit 2) ⟨#[c0,c1,c2,c3,u4,u5,c6,.slice (some ⟨R,0,none⟩) n n,c8,u9,u10,u11,u12,u13,u14,u15,u16,u17,c18,c19,c20,c21,c22,c23,c24,c25,c26,c27,c28,c29,c30,c31,c32,c33,c34,c35,c36,c37,c38,c39,c40,c41,c42,c43,c44,c45,c46,c47,c48,c49,c50,c51,c52,c53,c54,c55,c56,c57,c58,c59,c60,c61,c62,c63,c64,c65,c66,c67,c68,c69,c70,c71,c72,.int .i64 (n:Int),u74,u75,u76,u77,u78,u79,u80,u81,u82,u83,u84,u85,u86,u87,u88,u89,u90,u91,u92,u93,u94,u95,u96,u97,u98,u99,u100,u101,u102,u103,u104,u105,u106,u107,u108,u109,u110,u111,u112,u113,u114,u115,u116,u117,u118,u119,u120,u121,u122,u123,u124,u125,u126,u127,u128,u129,u130,u131,u132,u133,u134,u135,u136,u137,u138,u139,u140,u141,u142,u143,u144,u145,c146,c147,c148,c149,c150,c151,c152,c153,c154,c155,c156,c157,c158,c159,c160],[]⟩ wq)
 (hr:∀(er:Int) (u9 u10 u11 u12 u13 u14 u15 u16 u17 u74 u75 u76 u77 u78 u79 u80 u81 u82 u83 u84 u85 u86 u87 u88 u89 u90 u91 u92 u93 u94 u95 u96 u97 u98 u99 u100 u101 u102 u103 u104 u105 u106 u107 u108 u109 u110 u111 u112 u113 u114 u115 u116 u117 u118 u119 u120 u121 u122 u123 u124 u125 u126 u127 u128 u129 u130 u131 u132 u133 u134 u135 u136 u137 u138 u139 u140 u141 u142 u143 u144 u145:Value) (wq:World),Below w.heap.size w wq→Ax SQ n n M0=.error er→Q .ret ⟨#[c0,c1,c2,c3,.slice none 0 0,.int .i64 er,c6,.slice (some ⟨R,0,none⟩) n n,c8,u9,u10,u11,u12,u13,u14,u15,u16,u17,c18,c19,c20,c21,c22,c23,c24,c25,c26,c27,c28,c29,c30,c31,c32,c33,c34,c35,c36,c37,c38,c39,c40,c41,c42,c43,c44,c45,c46,c47,c48,c49,c50,c51,c52,c53,c54,c55,c56,c57,c58,c59,c60,c61,c62,c63,c64,c65,c66,c67,c68,c69,c70,c71,c72,.int .i64 (n:Int),u74,u75,u76,u77,u78,u79,u80,u81,u82,u83,u84,u85,u86,u87,u88,u89,u90,u91,u92,u93,u94,u95,u96,u97,u98,u99,u100,u101,u102,u103,u104,u105,u106,u107,u108,u109,u110,u111,u112,u113,u114,u115,u116,u117,u118,u119,u120,u121,u122,u123,u124,u125,u126,u127,u128,u129,u130,u131,u132,u133,u134,u135,u136,u137,u138,u139,u140,u141,u142,u143,u144,u145,c146,c147,c148,c149,c150,c151,c152,c153,c154,c155,c156,c157,c158,c159,c160],[]⟩ wq) :
 Code.wp Tryz.prog (Code.loop UE) Q ⟨#[c0,c1,c2,c3,a4,a5,c6,.slice (some ⟨R,0,none⟩) n n,c8,a9,a10,a11,a12,a13,a14,a15,a16,a17,c18,c19,c20,c21,c22,c23,c24,c25,c26,c27,c28,c29,c30,c31,c32,c33,c34,c35,c36,c37,c38,c39,c40,c41,c42,c43,c44,c45,c46,c47,c48,c49,c50,c51,c52,c53,c54,c55,c56,c57,c58,c59,c60,c61,c62,c63,c64,c65,c66,c67,c68,c69,c70,c71,c72,.int .i64 (n:Int),.int .i64 0,a75,a76,a77,a78,a79,a80,a81,a82,a83,a84,a85,a86,a87,a88,a89,a90,a91,a92,a93,a94,a95,a96,a97,a98,a99,a100,a101,a102,a103,a104,a105,a106,a107,a108,a109,a110,a111,a112,a113,a114,a115,a116,a117,a118,a119,a120,a121,a122,a123,a124,a125,a126,a127,a128,a129,a130,a131,a132,a133,a134,a135,a136,a137,a138,a139,a140,a141,a142,a143,a144,a145,c146,c147,c148,c149,c150,c151,c152,c153,c154,c155,c156,c157,c158,c159,c160],[]⟩ w0:=by
 conv=>arg 2;arg 1;whnf
 conv=>arg 4;zeta
 replace hE:=zh hE;replace hst0:=zh hst0;replace hx:=zh hx;replace hr:=zh hr;replace hnR:=zh hnR
 go_loopw [74] (fun i wq=>∃y:Nat,y≤n∧i=.int .i64 (y:Int)∧Hid (LV w R n M0 y wq)) (fun i _=>n-(intOf i).toNat)
 case atStart=>exact⟨0,Nat.zero_le _,rfl,hst0.out⟩
 case round =>
  obtain⟨k,hk,rfl,hI⟩:=hrel;have hI9:=hI.out;obtain⟨bl,M,hS,hM,hO,hBr,hIr⟩:=hI9
  by_cases hlt:k<n
  · have hkb:Hid (Int1 (wr.alloc (.cells #[.int .i64 (k:Int)] 3)) wr.heap.size k):=Int1.new wr k;have hMk:=zh (hM.out.alloc (.cells #[.int .i64 (k:Int)] 3));have kx:=zh (fun c=>Qw w.heap.size R n k c wr.heap.size bl M (wr.alloc (.cells #[.int .i64 (k:Int)] 3)) hlt (by omega) hMk.out hkb.out);have k0:(0:Int)≤(k:Int):=by omega
    have k1:(k:Int)≤(n:Int):=by omega
    have k2:¬n=k:=by omega
    cases hp:CJ n k M (n-k) with
    | none =>
      have hpi:Is n k M=-1:=by unfold Is;rw[hp]
      have hst:CK SQ n k M=.error 12:=by unfold CK;rw[hp]
      have hE9:=zh (Ga hS.out hst hlt);replace kx:=kx.out;rw[hpi]at kx;replace kx:=zh kx;clear hp hpi hst
      go_wp2_with fail
      refine(kx.out _).mono ?_;rintro e w3 ⟨rfl,hb⟩;have hB3:=zh ((hBr.out.alloc hBr.out.size _).trans (hb.mono (hBr.out.alloc hBr.out.size _).size));clear hb;go_wp2;apply hr.out 12
      · exact hB3.out
      · exact hE9.out
    | some p =>
      obtain⟨hp1,hp2,hp3,_⟩:=Fr (by omega) hp;obtain⟨f,rfl⟩:∃f,p=k+f:=⟨p-k,by omega⟩;have hpi:Is n k M=(f:Int):=by unfold Is;rw[hp];show ((k+f-k:Nat):Int)=f;rw[Nat.add_sub_cancel_left]
      replace kx:=kx.out;rw[hpi]at kx;replace kx:=zh kx;replace hp:=zh hp;replace hp3:=zh hp3;clear hpi
      go_wp2_with fail
      refine(kx.out _).mono ?_;rintro e w3 ⟨rfl,hb⟩;have hB3:=zh ((hBr.out.alloc hBr.out.size _).trans (hb.mono (hBr.out.alloc hBr.out.size _).size));have hM3:=zh (hMk.out.below hb);have hk3:=zh (hkb.out.below hb);have hI3:=zh ((hIr.out.alloc (.cells #[.int .i64 (k:Int)] 3)).below hb);clear hb;have c1:=hk3.out.cell;have c2:=hM3.out.hd (k+f) hp2;have c3:=hM3.out.hd k hlt;have c4:=hM3.out.fr (k+f);have c5:=hM3.out.fr k;have c6:=hM3.out.lt;have s0:(0:Int)≤(f:Int):=by omega
      have s1:(0:Int)≤(k:Int)+(f:Int):=by omega
      have s2:(k:Int)+(f:Int)<(n:Int):=by omega
      have s3:(k:Int)<(n:Int):=by omega
      have s4:IntKind.i64.wrap ((k:Int)+(f:Int))=(k:Int)+(f:Int):=IntWalk.i64_in _ (by omega);have s5:((k:Int)+(f:Int)).toNat=k+f:=by omega
      have hkR:wr.heap.size≠R:=Nat.ne_of_gt hM.out.lt;obtain⟨u1,hu1⟩:∃u,(w3.setCell ⟨R,k,none⟩ (.slice (some ⟨bl (k+f),0,none⟩) (n+1) (n+1))).cell? ⟨R,k+f,none⟩=some u:=FB c3 c2 _;obtain⟨u2,hu2⟩:∃u,(w3.setCell ⟨R,k+f,none⟩ (.slice (some ⟨bl k,0,none⟩) (n+1) (n+1))).cell? ⟨R,k,none⟩=some u:=FB c2 c3 _
      go_wp2_with fail
      refine Q0 R n k f wr.heap.size bl w3 c1 c2 c3 c4 c5 hkR hn8 hlt hp2 ?_;intro v84 v85 v86 v87 v88 v89 v90 v91 v92 v93 v94 v95 v96 v97 v98 v99 v100 v101;have hkk:Hid (wr.heap.size≠R∧w.heap.size≠R):=⟨hkR,hnR.out⟩;have hM4:Hid (MatW (((w3.setCell ⟨R,k,none⟩ (.slice (some ⟨bl (k+f),0,none⟩) (n+1) (n+1))).setCell ⟨R,k+f,none⟩ (.slice (some ⟨bl k,0,none⟩) (n+1) (n+1))).drew) w.heap.size R n (G1 k (k+f) bl) (Bg k (k+f) M)):=(hM3.out.swap hlt hp2).drew;have hk4:Hid (Int1 (((w3.setCell ⟨R,k,none⟩ (.slice (some ⟨bl (k+f),0,none⟩) (n+1) (n+1))).setCell ⟨R,k+f,none⟩ (.slice (some ⟨bl k,0,none⟩) (n+1) (n+1))).drew) wr.heap.size k):=(hk3.out.far (p:=⟨R,k,none⟩) hkk.out.1 _).far (p:=⟨R,k+f,none⟩) hkk.out.1 _;have hI4:Hid (Int1 (((w3.setCell ⟨R,k,none⟩ (.slice (some ⟨bl (k+f),0,none⟩) (n+1) (n+1))).setCell ⟨R,k+f,none⟩ (.slice (some ⟨bl k,0,none⟩) (n+1) (n+1))).drew) w.heap.size n):=(hI3.out.far (p:=⟨R,k,none⟩) hkk.out.2 _).far (p:=⟨R,k+f,none⟩) hkk.out.2 _;have hB4:Hid (Below w.heap.size w (((w3.setCell ⟨R,k,none⟩ (.slice (some ⟨bl (k+f),0,none⟩) (n+1) (n+1))).setCell ⟨R,k+f,none⟩ (.slice (some ⟨bl k,0,none⟩) (n+1) (n+1))).drew)):=((hB3.out.setCell hM3.out.lowR _).setCell hM3.out.lowR _).drew;obtain⟨w4,hw4⟩:∃W,W=((w3.setCell ⟨R,k,none⟩ (.slice (some ⟨bl (k+f),0,none⟩) (n+1) (n+1))).setCell ⟨R,k+f,none⟩ (.slice (some ⟨bl k,0,none⟩) (n+1) (n+1))).drew:=⟨_,rfl⟩;rw[←hw4]at hM4 hk4 hI4 hB4 ⊢;clear hw4 hu1 hu2 c1 c2 c3 c4 c5 c6 s0 s1 s2 s4 s5 hkR hM3 hk3 hI3 hB3 hMk hkb kx
      have hO4:Hid (∀i j,i<n→j≤n→OkQ (Bg k (k+f) M i j)):=fun i j hi hj=>by
       unfold Bg
       split
       · exact hO.out _ _ hp2 hj
       · split
         · exact hO.out _ _ hlt hj
         · exact hO.out _ _ hi hj
      have hpv:Bg k (k+f) M k k≠0:=by unfold Bg;rw[if_pos rfl];exact hp3.out
      have hst:CK SQ n k M=if Hp SQ n k (Bg k (k+f) M)=true then (match AC SQ n k n (Ba k (Bg k (k+f) M)) with | some M'=>.ok M' | none=>.error 2) else .error 2:=by
       unfold CK;rw[hp.out];try rfl
      replace hst:=zh hst;generalize Bg k (k+f) M=M1 at *;generalize G1 k (k+f) bl=bl1 at *;replace hpv:=zh hpv;clear hp3 hp u1 u2;have c1:=hk4.out.cell;have c2:=hM4.out.hd k hlt;have c3:=hM4.out.lt;have c4:=hk4.out.lt;have s0:(k:Int)≤(n:Int)+1:=by omega
      have s1:¬n+1=k:=by omega
      have hcc:Hid (w4.cell? ⟨wr.heap.size,0,none⟩=some (.int .i64 (k:Int))∧w4.cell? ⟨R,k,none⟩=some (.slice (some ⟨bl1 k,0,none⟩) (n+1) (n+1))):=⟨c1,c2⟩
      go_wp2_with fail
      go_region_held3 (fun w'=>w'.cell? ⟨wr.heap.size,0,none⟩=some (.int .i64 (k:Int))∧w'.cell? ⟨R,k,none⟩=some (.slice (some ⟨bl1 k,0,none⟩) (n+1) (n+1))) (first | (with_reducible exact hcc.out) | go_keep) (fail)
      have hv5:Hid (Blk1 (w4.alloc (.cells #[.slice (some ⟨bl1 k,k*3,none⟩) (n+1-k) (n+1-k)] 27)).drew w4.heap.size (.slice (some ⟨bl1 k,k*3,none⟩) (n+1-k) (n+1-k))):=heap_alloc_new w4 _;have hM5:Hid (MatW (w4.alloc (.cells #[.slice (some ⟨bl1 k,k*3,none⟩) (n+1-k) (n+1-k)] 27)).drew w.heap.size R n bl1 M1):=(hM4.out.alloc _).drew;have hk5:Hid (Int1 (w4.alloc (.cells #[.slice (some ⟨bl1 k,k*3,none⟩) (n+1-k) (n+1-k)] 27)).drew wr.heap.size k):=hk4.out.alloc _;have hI5:Hid (Int1 (w4.alloc (.cells #[.slice (some ⟨bl1 k,k*3,none⟩) (n+1-k) (n+1-k)] 27)).drew w.heap.size n):=hI4.out.alloc _;have hB5:Hid (Below w.heap.size w (w4.alloc (.cells #[.slice (some ⟨bl1 k,k*3,none⟩) (n+1-k) (n+1-k)] 27)).drew):=(hB4.out.alloc hB4.out.size _).drew;obtain⟨w5,hw5⟩:∃W,W=(w4.alloc (.cells #[.slice (some ⟨bl1 k,k*3,none⟩) (n+1-k) (n+1-k)] 27)).drew:=⟨_,rfl⟩;rw[←hw5]at hv5 hM5 hk5 hI5 hB5 ⊢;clear hw5 hM4 hk4 hI4 hB4 c1 c2 c3 c4 s0 hcc hM hBr hIr;generalize w4.heap.size=vb at *;generalize wr.heap.size=kb at *;obtain⟨pg,pn,pd,hpq⟩:=CF (M1 k k);have e0:=(hM5.out.rows k hlt).cell (j:=k) (by omega);rw[hpq]at e0;obtain⟨e1,e2,e3⟩:=e0;have e4:=(hM5.out.rows k hlt).lt;have v1:=hv5.out.cell;have v2:=hv5.out.lt;have v3:0<n+1-k:=by omega
      replace hpq:=zh hpq;have hM6:=zh (hM5.out.alloc (.cells #[.bool pg,.string pn,.string pd] 40));have hk6:=zh (hk5.out.alloc (.cells #[.bool pg,.string pn,.string pd] 40));have hI6:=zh (hI5.out.alloc (.cells #[.bool pg,.string pn,.string pd] 40));have hv6:=zh (hv5.out.alloc (.cells #[.bool pg,.string pn,.string pd] 40));have hB6:=zh (hB5.out.alloc hB5.out.size (.cells #[.bool pg,.string pn,.string pd] 40));have hp6:Hid (B3 (w5.alloc (.cells #[.bool pg,.string pn,.string pd] 40)) w5.heap.size (rq (M1 k k)).1 (rq (M1 k k)).2.1 (rq (M1 k k)).2.2):=by rw[hpq.out];exact B3.new w5 _ _ _
      have hpb:=zh (hp6.out.ne_row (hM6.out.rows k hlt) (by omega))
      cases hd:Hp SQ n k M1 with
      | false =>
        obtain⟨t,t1,t2,t3,t4⟩:=On hd;have kd:=zh (fun c=>LO w.heap.size (bl1 k) k (n+1) c (fun j=>M1 k j) (M1 k k) w5.heap.size _ ((EnvB.of hE.out).below hB6.out) (hM6.out.low k hlt) (hM6.out.rows k hlt) (by omega) (by omega) hp6.out hpb.out hpv.out t t1 (by omega) t3 t4 (fun j _ h2=>hO4.out k j hlt (by omega)) (hO4.out k k hlt (by omega)));rw[hd,if_neg (by simp)]at hst;have hE9:=zh (Ga hS.out hst.out hlt);have hlo:=zh (hM6.out.low k hlt);clear t1 t2 t3 t4 hd
        go_wp2_with fail
        refine(kd.out _).mono ?_;rintro e w7 ⟨rfl,hg⟩;have hB7:=zh (hB6.out.trans (AR hg hlo.out hB6.out.size));clear hg e1 e2 e3 e4 v1 v2;go_wp2;apply hr.out 2
        · exact hB7.out
        · exact hE9.out
      | true =>
        have hok:=(EL SQ).1 hd;have kd:=zh (fun c=>LN w.heap.size (bl1 k) k (n+1) c (fun j=>M1 k j) (M1 k k) w5.heap.size _ ((EnvB.of hE.out).below hB6.out) (hM6.out.low k hlt) (hM6.out.rows k hlt) (by omega) (by omega) hp6.out hpb.out hpv.out fun j h1 h2=>⟨of_decide_eq_true (hok j h1 (by omega)).1,of_decide_eq_true (hok j h1 (by omega)).2⟩);rw[hd,if_pos rfl]at hst
        have hO7:Hid (∀i j,i<n→j≤n→OkQ (Ba k M1 i j)):=fun i j hi hj=>by
         unfold Ba
         split
         · rename_i hc;exact MW (of_decide_eq_true (hok j hc.2 hj).1) (of_decide_eq_true (hok j hc.2 hj).2) hpv.out
         · exact hO4.out i j hi hj
        have hlo:=zh (hM6.out.low k hlt);clear hd hok
        go_wp2_with fail
        refine(kd.out _).mono ?_;rintro e w7 ⟨rfl,hg,hr⟩;have hB7:=zh (hB6.out.trans (AR hg hlo.out hB6.out.size))
        have hM7:=zh (hM6.out.change hlt hg (M':=Ba k M1) (hr.congr fun j hj=>by
         unfold Ba
         by_cases h1:k≤j
         · rw[if_pos h1,if_pos ⟨rfl,h1⟩]
         · rw[if_neg h1,if_neg fun h=>h1 h.2]) (fun i hi hne=>by funext j;unfold Ba;rw[if_neg fun h=>hne h.1]))
        have hk7:=zh (hk6.out.grown hg (hk6.out.ne_row (hM6.out.rows k hlt)));have hI7:=zh (hI6.out.grown hg (hI6.out.ne_row (hM6.out.rows k hlt)));have hv7:=zh (hv6.out.grown hg (hv6.out.ne_row (hM6.out.rows k hlt)));clear hg hr e1 e2 e3 e4 v1 v2 kd hM6 hk6 hI6 hv6 hB6 hp6 hpb hM5 hk5 hI5 hv5 hB5 hlo;generalize Ba k M1=M2 at *;go_wp2;clear hpq hO4 hpv;refine LU R n k kb vb bl1 M2 w w7 hE.out hn8 hlt ⟨M2,rfl,hM7,hO7,hB7,hI7,hk7,hv7⟩ ?_ ?_
        · intro z4 z5 z14 z15 z16 z17 z119 z120 z121 z122 z123 z124 z125 z126 z127 z128 z129 z130 z131 z132 z133 z134 z135 z136 z137 z138 z139 z140 z141 z142 z143 z144 wq hq;obtain⟨M3,hel,hM3,hO3,hBq,hIq,hkq,hvq⟩:=hq
          have hst2:Hid (Ax SQ n (k+1) M0=.ok M3):=by
           show Ax SQ n (k+1) M0=.ok M3
           unfold Ax;rw[hS.out]
           show CK SQ n k M=.ok M3
           rw[hst.out,hel.out]
          clear hM7 hO7 hB7 hI7 hk7 hv7;go_wp2
          go_roundw
          case rel=>exact⟨k+1,by omega,by go_num,bl1,M3,hst2,hM3,hO3,hBq,hIq⟩
          case measure=>simp[intOf];omega
        · intro z14 z15 z16 z17 z119 z120 z121 z122 z123 z124 z125 z126 z127 z128 z129 z130 z131 z132 z133 z134 z135 z136 z137 z138 z139 z140 z141 z142 z143 z144 wq hbq hnone;have hE9:=zh (Ga hS.out (show CK SQ n k M=.error 2 by rw[hst.out,hnone]) hlt);replace hbq:=zh hbq;replace hnone:=zh hnone;clear hM7 hO7 hB7 hI7 hk7 hv7;go_wp2;apply hr.out 2
          · exact hbq.out
          · exact hE9.out
  · obtain rfl:n=k:=by omega
    go_wp2;apply hx.out;exact hI.out
end Nt
end
section
open Go.RowKit Go.Shelf
namespace Nt
theorem Q1:(Tryz.prog.info? 27).map (fun i=>(i.zero,i.size,i.bytes))=some (some (.slice none 0 0),1,24):=by kernel_rfl
structure MatP (W:World) (B R n i:Nat) (bl:Nat→Nat) (M:Mx):Prop where
 lt:R<W.heap.size
 hd:∀x,x<i→W.cell? ⟨R,x,none⟩=some (.slice (some ⟨bl x,0,none⟩) (n+1) (n+1))
 hz:∀x,i≤x→x<n→W.cell? ⟨R,x,none⟩=some (.slice none 0 0)
 fr:∀x,W.frozen? ⟨R,x,none⟩=false
 rows:∀x,x<i→RowB W (bl x) (n+1) fun j=>rq (M x j)
 inj:∀x y,x<i→y<i→bl x=bl y→x=y
 ne:∀x,x<i→bl x≠R
 lowR:B≤R
 low:∀x,x<i→B≤bl x
theorem MatP.start (w:World) {B:Nat} (hB:B≤w.heap.size) (n:Nat) (M:Mx):MatP (w.alloc (.cells (madeCells #[.slice none 0 0] n) 27)) B w.heap.size n 0 (fun _=>0) M:=by
 have h:=heap_alloc_new w (.cells (madeCells #[(.slice none 0 0:Value)] n) 27);refine⟨by simp,fun x h=>absurd h (by omega),fun x _ hx=>?_,fun x=>by simp only[World.frozen?,h];simp,fun x h=>absurd h (by omega),fun x _ h=>absurd h (by omega),fun x h=>absurd h (by omega),hB,fun x h=>absurd h (by omega)⟩;simp only[World.cell?,h];simp[madeCells,hx];rw[Nat.mod_one];rfl
theorem MatP.done {W:World} {B R n:Nat} {bl:Nat→Nat} {M:Mx} (h:MatP W B R n n bl M):MatW W B R n bl M:=⟨h.lt,h.hd,h.fr,h.rows,h.inj,h.ne,h.lowR,h.low⟩
structure Laid (W W':World) (R i:Nat) (v:Value) (m:Nat) (r:Nat→Raw):Prop where
 os:W'.os=W.os
 tape:W'.tape=W.tape
 output:W'.output=W.output
 size:W.heap.size<W'.heap.size
 hd:∀x,W'.cell? ⟨R,x,none⟩=if x=i then some v else W.cell? ⟨R,x,none⟩
 fr:∀x,W'.frozen? ⟨R,x,none⟩=W.frozen? ⟨R,x,none⟩
 new:RowB W' W.heap.size m r
 block:∀k,k<W.heap.size→k≠R→W'.heap[k]? = W.heap[k]?
theorem Laid.start {W:World} {R i m:Nat} {v u:Value} {r:Nat→Raw} (hc:W.cell? ⟨R,i,none⟩=some u) (hR:R<W.heap.size):Laid W ((W.setCell ⟨R,i,none⟩ v).alloc (.cells (AF m r).toArray 40)) R i v m r:=by
 have hsz:(W.setCell ⟨R,i,none⟩ v).heap.size=W.heap.size:=by simp
 refine⟨rfl,rfl,rfl,by simp,fun x=>?_,fun x=>?_,?_,fun k hk hne=>?_⟩
 · rw[World.cell?_alloc_lt _ _ _ (by rw[hsz];exact hR)]
   by_cases e:x=i
   · rw[if_pos e,e];exact World.cell?_setCell_same W _ _ hc
   · rw[if_neg e,World.cell?_setCell_other _ _ _ _ (by intro e2;injection e2 with _ e3;first | exact e e3 | exact e e3.symm)]
 · have h1:=World.frozen?_of_block (w:=W.setCell ⟨R,i,none⟩ v) (w':=(W.setCell ⟨R,i,none⟩ v).alloc (.cells (AF m r).toArray 40)) (a:=⟨R,x,none⟩) (Below.heap_alloc _ _ R (by rw[hsz];exact hR));rw[h1];simp
 · have h:=heap_alloc_new (W.setCell ⟨R,i,none⟩ v) (.cells (AF m r).toArray 40);rw[hsz]at h;exact h
 · exact(Below.heap_alloc _ _ k (by rw[hsz];exact hk)).trans (Below.heap_setCell _ _ _ _ hne)
theorem Laid.drew {W W':World} {R i m:Nat} {v:Value} {r:Nat→Raw} (h:Laid W W' R i v m r):Laid W W'.drew R i v m r:=⟨h.os,h.tape,h.output,h.size,h.hd,h.fr,h.new,h.block⟩
theorem Laid.cell {W W':World} {R i m:Nat} {v:Value} {r:Nat→Raw} (h:Laid W W' R i v m r) {p:Addr} (hp:p.block<W.heap.size) (hne:p.block≠R):W'.cell? p=W.cell? p:=World.cell?_of_block (h.block _ hp hne)
theorem LX {W:World} {b o n:Nat} {r:Nat→Raw} (h:∀j,j<n→W.cell? ⟨b,o+j*3,none⟩=some (.bool (r j).1)∧W.cell? ⟨b,o+j*3+1,none⟩=some (.string (r j).2.1)∧W.cell? ⟨b,o+j*3+2,none⟩=some (.string (r j).2.2)) :
 ∀t v,(AF n r)[t]? = some v→W.cell? ((⟨b,o,none⟩:Addr).add t)=some v:=by
 intro t v hv;have hl:=A6 n r;have ht:t<n*3:=by rw[←hl];exact(List.getElem?_eq_some_iff.1 hv).1
 have h1:=CB r (m:=n) (j:=t/3) (by omega) (t%3) (by omega);rw[show t/3*3+t%3=t by omega,hv]at h1;have ha:(⟨b,o,none⟩:Addr).add t=⟨b,o+t,none⟩:=by unfold Addr.add;split<;>simp_all
 rw[ha];obtain⟨c1,c2,c3⟩:=h (t/3) (by omega);have h6:t%3=0∨t%3=1∨t%3=2:=by omega
 rcases h6 with h6 | h6 | h6
 · rw[h6]at h1;rw[show t=t/3*3 by omega,c1];simpa [E7] using h1.symm
 · rw[h6]at h1;rw[show o+t=o+t/3*3+1 by omega,c2];simpa [E7] using h1.symm
 · rw[h6]at h1;rw[show o+t=o+t/3*3+2 by omega,c3];simpa [E7] using h1.symm
theorem Q2 (n:Nat) (r:Nat→Raw):∀v∈AF n r,v.oneCell'=true:=by
 intro v hv;unfold AF at hv;rw[List.mem_flatMap]at hv;obtain⟨j,_,hj⟩:=hv;simp only[E7,List.mem_cons,List.not_mem_nil,or_false]at hj
 rcases hj with rfl | rfl | rfl<;>rfl
theorem Ot (n:Nat) (r:Nat→Raw) (z:Raw):AF n r++(AF (n+1) fun _=>z).drop (AF n r).length=AF (n+1) fun j=>if j<n then r j else z:=by
 have h1:=A6 n r;have h2:=A6 n fun _=>z;rw[BR n fun _=>z,BR,h1,←h2,List.drop_left,if_neg (by omega)]
 congr 1
 exact Fs fun j hj=>(if_pos hj).symm
theorem Laid.copy {W W':World} {R i n:Nat} {v:Value} {z:Raw} (h:Laid W W' R i v (n+1) fun _=>z) (hR:R<W.heap.size) (r:Nat→Raw) :
 Laid W (W'.setRow W.heap.size (AF n r++(AF (n+1) fun _=>z).drop (AF n r).length).toArray) R i v (n+1) fun j=>if j<n then r j else z:=by
 have hne:R≠W.heap.size:=by omega
 have ho:=setRow_other W' W.heap.size R (AF n r++(AF (n+1) fun _=>z).drop (AF n r).length).toArray hne;refine⟨h.os,h.tape,h.output,by have:=h.size;simpa [World.setRow] using this,fun x=>?_,fun x=>?_,?_,fun k hk hkR=>?_⟩
 · exact(World.cell?_of_block (a:=⟨R,x,none⟩) ho).trans (h.hd x)
 · exact(World.frozen?_of_block (a:=⟨R,x,none⟩) ho).trans (h.fr x)
 · have:=setRow_heap W' W.heap.size (AF (n+1) fun _=>z).toArray (AF n r++(AF (n+1) fun _=>z).drop (AF n r).length).toArray 40 (0,0) h.new;unfold RowB;rw[this,Ot]
 · exact(setRow_other W' W.heap.size k _ (by omega)).trans (h.block k hk hkR)
theorem Laid.store {W W':World} {R i n:Nat} {v:Value} {r:Nat→Raw} (h:Laid W W' R i v (n+1) r) (hR:R<W.heap.size) (x:Raw) :
 Laid W ((((W'.setCell ⟨W.heap.size,n*3,none⟩ (.bool x.1)).setCell ⟨W.heap.size,n*3+1,none⟩ (.string x.2.1)).setCell ⟨W.heap.size,n*3+2,none⟩ (.string x.2.2)).drew) R i v (n+1) fun j=>if j=n then x else r j:=by
 have ho:∀k,k≠W.heap.size→(((W'.setCell ⟨W.heap.size,n*3,none⟩ (.bool x.1)).setCell ⟨W.heap.size,n*3+1,none⟩ (.string x.2.1)).setCell ⟨W.heap.size,n*3+2,none⟩ (.string x.2.2)).drew.heap[k]? = W'.heap[k]?:=fun k hk =>
  ((Below.heap_setCell _ _ _ _ (by exact hk)).trans (Below.heap_setCell _ _ _ _ (by exact hk))).trans (Below.heap_setCell _ _ _ _ (by exact hk))
 refine⟨h.os,h.tape,h.output,by have:=h.size;simpa using this,fun y=>?_,fun y=>?_,h.new.set (by omega) x,fun k hk hkR=>?_⟩
 · exact(World.cell?_of_block (a:=⟨R,y,none⟩) (ho R (by omega))).trans (h.hd y)
 · exact(World.frozen?_of_block (a:=⟨R,y,none⟩) (ho R (by omega))).trans (h.fr y)
 · exact(ho k (by omega)).trans (h.block k hk hkR)
theorem Laid.congr {W W':World} {R i m:Nat} {v:Value} {r s:Nat→Raw} (h:Laid W W' R i v m r) (e:∀j,j<m→r j=s j):Laid W W' R i v m s:=⟨h.os,h.tape,h.output,h.size,h.hd,h.fr,h.new.congr e,h.block⟩
theorem Laid.bel {w W W':World} {R i m:Nat} {v:Value} {r:Nat→Raw} (h:Laid W W' R i v m r) (hb:Below w.heap.size w W) (hR:w.heap.size≤R):Below w.heap.size w W' :=
 ⟨h.os.trans hb.os,h.tape.trans hb.tape,h.output.trans hb.output,by have:=hb.size;have:=h.size;omega,fun k hk=>(h.block k (by have:=hb.size;omega) (by omega)).trans (hb.block k hk)⟩
theorem MatP.step {W W':World} {B R n i:Nat} {bl:Nat→Nat} {M:Mx} (h:MatP W B R n i bl M) (hB:B≤W.heap.size)
 (hL:Laid W W' R i (.slice (some ⟨W.heap.size,0,none⟩) (n+1) (n+1)) (n+1) fun j=>rq (M i j)):MatP W' B R n (i+1) (fun x=>if x=i then W.heap.size else bl x) M:=by
 have hlt:∀x,x<i→bl x<W.heap.size:=fun x hx=>(h.rows x hx).lt;refine⟨by have:=h.lt;have:=hL.size;omega,fun x hx=>?_,fun x h1 h2=>?_,fun x=>(hL.fr x).trans (h.fr x),fun x hx=>?_,fun x y hx hy e=>?_,fun x hx=>?_,h.lowR,fun x hx=>?_⟩
 · rw[hL.hd]
   by_cases e:x=i
   · rw[if_pos e,if_pos e]
   · rw[if_neg e,if_neg e];exact h.hd x (by omega)
 · rw[hL.hd,if_neg (by omega)];exact h.hz x (by omega) h2
 · by_cases e:x=i
   · rw[if_pos e,e];exact hL.new
   · rw[if_neg e];exact(hL.block _ (hlt x (by omega)) (h.ne x (by omega))).trans (h.rows x (by omega))
 · by_cases e1:x=i
   · by_cases e2:y=i
     · omega
     · rw[if_pos e1,if_neg e2]at e;have:=hlt y (by omega);omega
   · by_cases e2:y=i
     · rw[if_neg e1,if_pos e2]at e;have:=hlt x (by omega);omega
     · rw[if_neg e1,if_neg e2]at e;exact h.inj x y (by omega) (by omega) e
 · by_cases e:x=i
   · rw[if_pos e];have:=h.lt;omega
   · rw[if_neg e];exact h.ne x (by omega)
 · by_cases e:x=i
   · rw[if_pos e];exact hB
   · rw[if_neg e];exact h.low x (by omega)
theorem SD (w:World) (a:Bool) (b c:ByteArray) (t:TypeId):∀j u,(E7 (a,b,c))[j]? = some u→(w.alloc (.cells #[.bool a,.string b,.string c] t)).cell? (Addr.add ⟨w.heap.size,0,none⟩ j)=some u:=by
 intro j u hj
 match j,hj with
 | 0,hj=>simp[E7]at hj;subst hj;simp[Addr.add]
 | 1,hj=>simp[E7]at hj;subst hj;simp[Addr.add]
 | 2,hj=>simp[E7]at hj;subst hj;simp[Addr.add]
 | j+3,hj=>simp[E7]at hj
theorem Kw (x:Raw):∀u∈E7 x,u.oneCell'=true:=by
 intro u hu;simp[E7]at hu
 rcases hu with rfl | rfl | rfl<;>rfl
theorem Q3 {w:World} {B B':Nat} {t:TypeId} {size:Nat} {v:Value} {n:Nat} {xs:List Value} (hb:B≤B') (h:w.ownsRow B' t size v n xs):w.ownsRow B t size v n xs:=by
 obtain⟨h1,h2⟩:=h;refine⟨h1,?_⟩
 rcases h2 with h2 | ⟨g,cap,cur,hv,hg,hh⟩
 · exact .inl h2
 · exact .inr ⟨g,cap,cur,hv,Nat.le_trans hb hg,hh⟩
theorem Ou (Aa Ab:Option Addr) (n ca cb:Nat) (la:List RowH) (lb:List Raw) (M0:Mx) (w:World) (hE:Env w) (ha:la.length=n) (hb0:lb.length=n) (hs:SysIn w Aa Ab la lb) (hv:allV lb=true) (hm:D0 n la=true) (hn8:n≤8)
 (hMa:∀i (h:i<la.length),la[i].2.2.length=n∧∀j (h2:j<la[i].2.2.length),la[i].2.2[j]=rq (M0 i j)) (hMb:∀i (h:i<lb.length),lb[i]=rq (M0 i n)) (hOk:∀i j,i<n→j≤n→OkQ (M0 i j)) :
 Calls Tryz.prog 56 #[.slice Aa n ca,.slice Ab n cb] w (ID n M0 w):=by
 have kv:=Dj Ab cb lb (nW w n) (hE.below (Bv _ _)) (hs.below (Bv _ _)).mb hs.nb hs.zb;have ka:=fun W (h1:Env W) (h2:Int1 W w.heap.size n) (h3:SysIn W Aa Ab la lb)=>FZ n Aa ca la w.heap.size W h1 h2 h3.ma h3.na h3.za;have hmk:=run_make_row' (P:=Tryz.prog) 73 27 (.slice none 0 0) 24 Tryz.underlying73 Q1 rfl .i64 .i64 n (by omega) (by omega);rw[hv,hb0]at kv;rw[hm,ha]at ka;replace kv:=zh kv;replace ka:=zh ka;replace hs:=zh hs;replace hE:=zh hE;replace hMa:=zh hMa;replace hOk:=zh hOk;replace hMb:=zh hMb;replace ha:=zh ha;replace hb0:=zh hb0;clear hv hm;go_enter Tryz.func56,Tryz.ntmps56
 go_wp2_with fail
 refine kv.out.mono ?_;rintro e w1 ⟨rfl,hb⟩;have hB:=zh ((Bv w n).trans (hb.mono (by simp)));have hn:=zh ((Int1.new w n).below hb);clear hb
 go_wp2_with fail
 refine(ka.out _ (hE.out.below hB.out) hn.out (hs.out.below hB.out)).mono ?_;rintro e w2 ⟨rfl,hb⟩;have hB2:=zh (hB.out.trans (hb.mono hB.out.size));have hn2:=zh (hn.out.below hb);have c1:=hn2.out.cell;have c2:=hn2.out.lt;have c3:Hid (Int1 (w2.alloc (.cells (madeCells #[(.slice none 0 0:Value)] n) 27)) w.heap.size n):=hn2.out.alloc _;have hP:Hid (MatP (w2.alloc (.cells (madeCells #[(.slice none 0 0:Value)] n) 27)) w.heap.size w2.heap.size n 0 (fun _=>0) M0):=MatP.start w2 hB2.out.size n M0;have hB3:Hid (Below w.heap.size w (w2.alloc (.cells (madeCells #[(.slice none 0 0:Value)] n) 27))):=hB2.out.alloc hB2.out.size _;clear hb;go_wp2;obtain⟨R,hR⟩:∃R,R=w2.heap.size:=⟨_,rfl⟩;rw[←hR]at hP ⊢;have hnR:Hid (w.heap.size≠R):=by rw[hR];exact Nat.ne_of_lt c2
 clear hmk c1 c2;replace hR:=zh hR;have hmk2:=Ft 27 Tryz.underlying27 (n+1) (by omega);rw[show ((n+1:Nat):Int)=(n:Int)+1 by omega]at hmk2
 go_loopw [43] (fun i wr=>∃(y:Nat) (bl:Nat→Nat),y≤n∧i=.int .i64 (y:Int)∧Hid (MatP wr w.heap.size R n y bl M0)∧Hid (Below w.heap.size w wr)∧Hid (Int1 wr w.heap.size n)) (fun i _=>n-(intOf i).toNat)
 case atStart=>exact⟨0,_,Nat.zero_le _,rfl,hP,hB3,c3⟩
 case round =>
  obtain⟨i,bl,hi,rfl,hQ,hBr,hIr⟩:=hrel
  by_cases hlt:i<n
  · obtain ⟨ba,oa,rfl,hba,hca⟩:=hs.out.ma (by rw[ha.out];omega);obtain⟨bb,ob,rfl,hbb,hcb⟩:=hs.out.mb (by rw[hb0.out];omega);obtain⟨a1,hrow⟩:=hca i (by rw[ha.out];exact hlt);obtain⟨b1,b2,b3⟩:=hcb i (by rw[hb0.out];exact hlt);clear hca hcb;obtain⟨hl,hlj⟩:=hMa.out i (by rw[ha.out];exact hlt);obtain⟨bx,ox,hax,hbx,hcx⟩:=hrow (by rw[hl];omega);rw[hl,hax]at a1
    have hcx2:Hid (∀j,j<n→w.cell? ⟨bx,ox+j*3,none⟩=some (.bool (rq (M0 i j)).1)∧w.cell? ⟨bx,ox+j*3+1,none⟩=some (.string (rq (M0 i j)).2.1)∧w.cell? ⟨bx,ox+j*3+2,none⟩=some (.string (rq (M0 i j)).2.2)):=fun j hj=>by
     have h1:=hcx j (by rw[hl];exact hj);rw[hlj j (by rw[hl];exact hj)]at h1;exact h1
    rw[hMb.out i (by rw[hb0.out];exact hlt)]at b1 b2 b3;clear hl hlj hax hcx hrow;generalize (la[i]'(by rw[ha.out];exact hlt)).2.1=ci at *;replace a1:=(hBr.out.cell (p:=⟨ba,oa+i,none⟩) hba).trans a1;replace b1:=(hBr.out.cell (p:=⟨bb,ob+i*3,none⟩) hbb).trans b1;replace b2:=(hBr.out.cell (p:=⟨bb,ob+i*3+1,none⟩) hbb).trans b2;replace b3:=(hBr.out.cell (p:=⟨bb,ob+i*3+2,none⟩) hbb).trans b3;have i0:(0:Int)≤(i:Int):=by omega
    have i1:(i:Int)<(n:Int):=by omega
    have r1:=hQ.out.hz i (Nat.le_refl _) hlt;have r2:=hQ.out.fr i;have r3:=hQ.out.lt;have n1:=hIr.out.cell;have n2:=hIr.out.lt
    go_wp2_with fail
    obtain⟨W1,hW1⟩:∃W,W=(wr.setCell ⟨R,i,none⟩ (.slice (some ⟨wr.heap.size,0,none⟩) (n+1) (n+1))).alloc (.cells (AF (n+1) fun _=>zraw).toArray 40):=⟨_,rfl⟩;rw[←hW1];have hP1:Hid (Laid wr W1 R i (.slice (some ⟨wr.heap.size,0,none⟩) (n+1) (n+1)) (n+1) fun _=>zraw):=by rw[hW1];exact Laid.start r1 r3
    have hlow:=hQ.out.lowR;have d1:W1.cell? ⟨R,i,none⟩=some (.slice (some ⟨wr.heap.size,0,none⟩) (n+1) (n+1)):=(hP1.out.hd i).trans (if_pos rfl);have hsz:=hBr.out.size;have d2:=(hP1.out.cell (p:=⟨ba,oa+i,none⟩) (by show ba<_;omega) (by show ba≠R;omega)).trans a1
    have hcp:∀ty,(Builtin.copy_ #[27,27] ty #[.slice (some ⟨wr.heap.size,0,none⟩) (n+1) (n+1),.slice (some ⟨bx,ox,none⟩) n ci]).run Tryz.prog W1.drew=.ok (goInt n) (W1.drew.setRow wr.heap.size (AF n (fun j=>rq (M0 i j))++(AF (n+1) fun _=>zraw).drop (AF n (fun j=>rq (M0 i j))).length).toArray):=fun ty =>
     LK W1.drew _ _ ty wr.heap.size (n+1) (n+1) ⟨bx,ox,none⟩ n ci (AF (n+1) fun _=>zraw) (AF n fun j=>rq (M0 i j)) Tryz.underlying27 hP1.out.drew.new (A6 _ _) (by omega)
      (LX fun j hj=>by
        obtain⟨k1,k2,k3⟩:=hcx2.out j hj;have q:∀o,W1.drew.cell? ⟨bx,o,none⟩=w.cell? ⟨bx,o,none⟩:=fun o=>(hP1.out.cell (p:=⟨bx,o,none⟩) (by show bx<_;omega) (by show bx≠R;omega)).trans (hBr.out.cell (p:=⟨bx,o,none⟩) hbx);exact⟨(q _).trans k1,(q _).trans k2,(q _).trans k3⟩) (by rw[A6,A6];omega) (Q2 _ _)
    have hP2:=zh (hP1.out.drew.copy r3 (fun j=>rq (M0 i j)));clear hW1 hmk2 a1 r1 r2;generalize (AF n (fun j=>rq (M0 i j))++(AF (n+1) fun _=>zraw).drop (AF n (fun j=>rq (M0 i j))).length).toArray=cells2 at *;go_region;obtain⟨W2,hW2⟩:∃W,W=W1.drew.setRow wr.heap.size cells2:=⟨_,rfl⟩;rw[←hW2]at hP2 ⊢;clear hW2 hcp d1 d2;have d1:W2.cell? ⟨R,i,none⟩=some (.slice (some ⟨wr.heap.size,0,none⟩) (n+1) (n+1)):=(hP2.out.hd i).trans (if_pos rfl);have d2:=hP2.out.block w.heap.size (by omega) hnR.out;have hI2:Hid (Int1 W2 w.heap.size n):=d2.trans hIr.out;clear d2 n1;have n1:=hI2.out.cell;replace b1:=(hP2.out.cell (p:=⟨bb,ob+i*3,none⟩) (by show bb<_;omega) (by show bb≠R;omega)).trans b1;replace b2:=(hP2.out.cell (p:=⟨bb,ob+i*3+1,none⟩) (by show bb<_;omega) (by show bb≠R;omega)).trans b2;replace b3:=(hP2.out.cell (p:=⟨bb,ob+i*3+2,none⟩) (by show bb<_;omega) (by show bb≠R;omega)).trans b3;obtain⟨z1,z2,z3⟩:=hP2.out.new.cell (j:=n) (by omega);rw[if_neg (by omega)]at z1 z2 z3;have f1:=hP2.out.new.frozen (n*3);have f2:=hP2.out.new.frozen (n*3+1);have f3:=hP2.out.new.frozen (n*3+2);have j0:(0:Int)≤(n:Int):=by omega
    have j1:(n:Int)<(n:Int)+1:=by omega
    have l1:=hP2.out.new.lt
    go_wp2_with fail
    go_region
    have hP3:=zh ((hP2.out.store r3 (rq (M0 i n))).congr (s:=fun j=>rq (M0 i j)) fun j hj=>by
     by_cases e:j=n
     · rw[if_pos e,e]
     · rw[if_neg e,if_pos (by omega)])
    have hQ3:=zh (hQ.out.step hsz hP3.out);have hB9:=zh (hP3.out.bel hBr.out hlow);have hI3:=zh ((hP3.out.block w.heap.size (by omega) hnR.out).trans hIr.out);go_wp2
    go_roundw
    case rel=>exact⟨i+1,_,by omega,by go_num,hQ3,hB9,hI3⟩
    case measure=>simp[intOf];omega
  · obtain rfl:n=i:=by omega
    have hM0:=zh hQ.out.done;clear hQ;go_wp2;have hn8:n≤8:=hn8;clear hP hB3 c3 hlt hmk2;refine LW R n M0 w _ hE.out hn8 hnR.out ⟨bl,M0,rfl,hM0,hOk,hBr,hIr⟩ ?_ ?_
    · intro u4 u5 u9 u10 u11 u12 u13 u14 u15 u16 u17 u74 u75 u76 u77 u78 u79 u80 u81 u82 u83 u84 u85 u86 u87 u88 u89 u90 u91 u92 u93 u94 u95 u96 u97 u98 u99 u100 u101 u102 u103 u104 u105 u106 u107 u108 u109 u110 u111 u112 u113 u114 u115 u116 u117 u118 u119 u120 u121 u122 u123 u124 u125 u126 u127 u128 u129 u130 u131 u132 u133 u134 u135 u136 u137 u138 u139 u140 u141 u142 u143 u144 u145 wq hq;clear hM0 hBr hIr;obtain⟨bl2,M,hS,hM,hO,hBr,hIr⟩:=hq;have hnw:=hBr.out.size;have hIc:=hIr.out.cell;have hIl:=hIr.out.lt;have hRl:=hM.out.lt;obtain⟨i0,hi0,hzz⟩:=Option.map_eq_some_iff.1 infoQ;simp only[Prod.mk.injEq]at hzz;obtain⟨hz0,hz1,hz2⟩:=hzz;go_wp2;replace hi0:=zh hi0;replace hz0:=zh hz0;replace hz1:=zh hz1;replace hz2:=zh hz2
      go_loopw [18,148] (fun v i wz=>∃y:Nat,y≤n∧i=.int .i64 (y:Int)∧Hid (wz.ownsRow wq.heap.size 40 3 v y (AF y fun i=>rq (M i n)))∧Hid (Below wq.heap.size wq wz)) (fun _ i _=>n-(intOf i).toNat)
      case atStart=>exact⟨0,Nat.zero_le _,rfl,World.ownsRow_nil _ _ _ _,Below.refl _ _⟩
      case round =>
       obtain⟨y,hy,rfl,hown,hbz⟩:=hrel
       by_cases hlt9:y<n
       · have g1:=(hbz.out.cell (p:=⟨R,y,none⟩) hRl).trans (hM.out.hd y hlt9);obtain⟨e1,e2,e3⟩:=(hM.out.rows y hlt9).cell (j:=n) (by omega);have e4:=(hM.out.rows y hlt9).lt;replace e1:=(hbz.out.cell (p:=⟨bl2 y,n*3,none⟩) e4).trans e1;replace e2:=(hbz.out.cell (p:=⟨bl2 y,n*3+1,none⟩) e4).trans e2;replace e3:=(hbz.out.cell (p:=⟨bl2 y,n*3+2,none⟩) e4).trans e3;have g2:=(hbz.out.cell (p:=⟨w.heap.size,0,none⟩) hIl).trans hIc;have g3:(n:Int)<(n:Int)+1:=by omega
         have g4:(0:Int)≤(n:Int):=by omega
         have g5:(0:Int)≤(y:Int):=by omega
         have g6:(y:Int)<(n:Int):=by omega
         have hszz:=hbz.out.size;clear e4 hnw hIc hIl hRl;obtain⟨rv,hrv⟩:∃x,x=rq (M y n):=⟨_,rfl⟩;rw[←hrv]at e1 e2 e3;obtain⟨ra,rb,rc⟩:=rv;replace hrv:=zh hrv;replace e1:wr.cell? ⟨bl2 y,n*3,none⟩=some (.bool ra):=e1;replace e2:wr.cell? ⟨bl2 y,n*3+1,none⟩=some (.string rb):=e2;replace e3:wr.cell? ⟨bl2 y,n*3+2,none⟩=some (.string rc):=e3
         go_wp2_with (at_builtin;refine wpList_append_own _ rfl _ _ 27 rfl wq.heap.size 40 i0 (.agg #[.bool false,.string ⟨#[]⟩,.string ⟨#[]⟩]) 3 40 Tryz.underlying27 hi0.out hz0.out hz1.out hz2.out rfl (by decide) u18 y (AF y fun i=>rq (M i n)) rfl (hown.out.alloc _) ⟨wr.heap.size,0,none⟩ 1 1 (E7 (ra,rb,rc)) rfl rfl (SD _ _ _ _ _) (Kw _) (by unfold maxLen;omega) (by omega) (by simp;omega) ?_;intro v2 w2 hown2 hgr2 _)
         refine⟨⟨y+1,by omega,by go_num,?_,(hbz.out.alloc hszz _).grown hgr2 (by simp;omega) (fun b e=>(hown.out.lt b e).1)⟩,by simp only[intOf];omega⟩;rw[BR,←hrv.out];exact hown2
       · obtain rfl:n=y:=by omega
         clear hIc hIl hRl;go_wp2;go_ret2;exact⟨hBr.out.trans (hbz.out.mono hnw),.inl ⟨M,_,hS.out,rfl,Q3 hnw hown.out⟩⟩
    · intro er u9 u10 u11 u12 u13 u14 u15 u16 u17 u74 u75 u76 u77 u78 u79 u80 u81 u82 u83 u84 u85 u86 u87 u88 u89 u90 u91 u92 u93 u94 u95 u96 u97 u98 u99 u100 u101 u102 u103 u104 u105 u106 u107 u108 u109 u110 u111 u112 u113 u114 u115 u116 u117 u118 u119 u120 u121 u122 u123 u124 u125 u126 u127 u128 u129 u130 u131 u132 u133 u134 u135 u136 u137 u138 u139 u140 u141 u142 u143 u144 u145 wq hb9 he9;replace hb9:=zh hb9;replace he9:=zh he9;go_ret2;exact⟨hb9.out,.inr ⟨er,he9.out,rfl⟩⟩
end Nt
end
section
open Go.RowKit Go.Shelf
namespace Nt
theorem MY {a b:ByteArray} (h:a.toList=b.toList):a=b:=by
 rw[Lib.toList_data,Lib.toList_data]at h
 cases a;cases b;exact congrArg ByteArray.mk (Array.toList_inj.1 h)
end Nt
end
section
open Go.RowKit Go.Shelf
namespace Nt
end Nt
end
section
open Go.RowKit Go.Shelf
namespace Nt
def mx (l:List (List Rat)):Mx:=fun i j=>(l.getD i []).getD j 0
def UX (n:Nat) (l:List (List Rat)) (x:List Rat):Bool :=
 match Ax SQ n n (mx l) with
 | .ok M=>(List.range n).map (fun i=>M i n)==x
 | .error _=>false
theorem MZ:UX 1 [[2,1]] [1/2]=true:=by decide +kernel
end Nt
end
section
open Go.RowKit Go.Shelf
namespace Nt
def vq (x:Raw):Rat:=mkRat (sg x.1 (val x.2.1)) (val x.2.2)
theorem G2 (q:Rat):vq (rq q)=q:=by
 show mkRat (sg (decide (q.num<0)) (val (T (some q.num.natAbs)))) (val (T (some q.den)))=q
 have h:∀n,val (T (some n))=n:=fun n=>Bm n;rw[h,h,BW];exact Rat.mkRat_self q
theorem Fu {x:Raw} (h:DP x=true):rq (vq x)=x∧OkQ (vq x):=by
 obtain⟨q,hq,h1,h2,h3⟩:=Kl h
 have e:x=rq q:=by
  obtain⟨a,b,c⟩:=x;simp only[rq];simp only at h1 h2 h3;rw[h1,h2,h3]
 rw[e,G2];exact⟨rfl,hq⟩
theorem Jy {q:Rat} (h:OkQ q):DP (rq q)=true:=AI h
def GJ (A:List (List Raw)) (b:List Raw):Mx:=fun i j=>if j=b.length then vq (b.getD i zraw) else vq ((A.getD i []).getD j zraw)
def Bw (la:List RowH):List (List Raw):=la.map (·.2.2)
theorem C5 (la:List RowH):(Bw la).length=la.length:=by simp[Bw]
theorem Hs (la:List RowH) (i:Nat) (h:i<la.length):(Bw la)[i]'(by simpa [Bw] using h)=la[i].2.2:=by simp[Bw]
def Ov (n:Nat) (A:List (List Raw)):Bool:=A.all fun r=>rowOk n r
theorem Gb (n:Nat) (la:List RowH):Ov n (Bw la)=D0 n la:=by
 unfold Ov Bw D0;rw[List.all_map];rfl
theorem IF {n:Nat} {l:List Raw}:rowOk n l=true↔l.length=n∧allV l=true:=by
 unfold rowOk;rw[Bool.and_eq_true,decide_eq_true_eq]
theorem Kx {n:Nat} {A:List (List Raw)}:Ov n A=true↔∀i (h:i<A.length),A[i].length=n∧allV A[i]=true:=by
 unfold Ov;rw[List.all_eq_true];constructor
 · intro h i hi;exact IF.1 (h _ (List.getElem_mem hi))
 · intro h x hx;obtain⟨i,hi,rfl⟩:=List.getElem_of_mem hx;exact IF.2 (h i hi)
theorem E8 {l:List Raw}:allV l=true↔∀i (h:i<l.length),DP l[i]=true:=by
 unfold allV;rw[List.all_eq_true];constructor
 · intro h i hi;exact h _ (List.getElem_mem hi)
 · intro h x hx;obtain⟨i,hi,rfl⟩:=List.getElem_of_mem hx;exact h i hi
def AG (n:Nat) (f:Nat→Rat):List Raw:=(List.range n).map fun i=>rq (f i)
theorem Ah (n:Nat) (f:Nat→Rat):(AG n f).length=n:=by simp[AG]
theorem B7 (n:Nat) (f:Nat→Rat) (i:Nat) (h:i<(AG n f).length):(AG n f)[i]=rq (f i):=by simp[AG]
theorem LY {n:Nat} {f g:Nat→Rat} (h:∀i,i<n→f i=g i):AG n f=AG n g:=by
 unfold AG;exact List.map_congr_left fun i hi=>by rw[h i (List.mem_range.1 hi)]
def DF (A:List (List Raw)) (b:List Raw):Except Int (List Raw) :=
 if A.length=b.length∧allV b=true∧Ov b.length A=true then
  (if b.length≤8 then (match Ax SQ b.length b.length (GJ A b) with | .ok M=>.ok (AG b.length fun i=>M i b.length) | .error e=>.error e) else .error 2)
 else .error 1
theorem FC {w:World} {base:Nat} {v:Value} {n:Nat} {r:Nat→Raw} (h:w.ownsRow base 40 3 v n (AF n r)) :
 ∃A c,v=.slice A n c∧InRow w A ((List.range n).map r):=by
 rcases h.2 with⟨rfl,rfl⟩ | ⟨g,cap,cur,rfl,hb,hg,h4,h5,h6,h7⟩
 · exact⟨none,0,rfl,fun h0=>absurd h0 (by simp)⟩
 · refine⟨some ⟨g,0,none⟩,cap,rfl,fun h0=>⟨g,0,rfl,(Array.getElem?_eq_some_iff.1 hg).1,fun j hj=>?_⟩⟩;have hj':j<n:=by simpa using hj
   have hc:=h.cells (g:=g) (by simp[Value.ownBlock]);have hadd:∀o,(⟨g,0,none⟩:Addr).add o=⟨g,o,none⟩:=fun o=>by unfold Addr.add;split<;>simp_all
   have h0:=CB r hj' 0 (by omega);have h1:=CB r hj' 1 (by omega);have h2:=CB r hj' 2 (by omega);have c0:=hc (j*3+0) _ h0;have c1:=hc (j*3+1) _ h1;have c2:=hc (j*3+2) _ h2;rw[hadd]at c0 c1 c2;simp only[List.getElem_map,List.getElem_range,Nat.zero_add];exact⟨c0,c1,c2⟩
theorem Ej {α:Type} {l:List α} {d:α} {i:Nat} (h:i<l.length):l.getD i d=l[i]:=by
 rw[List.getD_eq_getElem?_getD,List.getElem?_eq_getElem h,Option.getD_some]
theorem IG (Aa Ab:Option Addr) (ca cb:Nat) (la:List RowH) (lb:List Raw) (w:World) (hE:Env w) (hs:SysIn w Aa Ab la lb) (h1:la.length=lb.length) (h2:allV lb=true) (h3:D0 lb.length la=true) (h8:lb.length≤8) :
 Calls Tryz.prog 56 #[.slice Aa lb.length ca,.slice Ab lb.length cb] w (ID lb.length (GJ (Bw la) lb) w):=by
 have hb:=E8.1 h2
 have ha':∀i (hi:i<la.length),la[i].2.2.length=lb.length∧allV la[i].2.2=true:=fun i hi=>by
  have hi2:i<(Bw la).length:=by rw[C5];exact hi
  have:=Kx.1 ((Gb lb.length la).trans h3) i hi2
  rwa [Hs la i hi]at this
 have hg:∀i (hi:i<la.length),(Bw la).getD i []=la[i].2.2:=fun i hi=>by
  rw[Ej (by rw[C5];exact hi),Hs la i hi]
 refine Ou Aa Ab lb.length ca cb la lb (GJ (Bw la) lb) w hE h1 rfl hs h2 h3 h8 (fun i hi=>⟨(ha' i hi).1,fun j hj=>?_⟩) (fun i hi=>?_) (fun i j hi hj=>?_)
 · have hj2:j≠lb.length:=by have:=(ha' i hi).1;omega
   unfold GJ;rw[if_neg hj2,hg i hi,Ej hj];exact(Fu (E8.1 (ha' i hi).2 j hj)).1.symm
 · unfold GJ;rw[if_pos rfl,Ej hi];exact(Fu (hb i hi)).1.symm
 · unfold GJ
   by_cases e:j=lb.length
   · rw[if_pos e,Ej hi];exact(Fu (hb i hi)).2
   · have hi2:i<la.length:=by omega
     have hj2:j<la[i].2.2.length:=by have:=(ha' i hi2).1;omega
     rw[if_neg e,hg i hi2,Ej hj2];exact(Fu (E8.1 (ha' i hi2).2 j hj2)).2
theorem Q4 (Aa Ab:Option Addr) (ca cb:Nat) (la:List RowH) (lb xs:List Raw) (w:World) (hE:Env w) (hs:SysIn w Aa Ab la lb) (h:DF (Bw la) lb=.ok xs) :
 Calls Tryz.prog 56 #[.slice Aa la.length ca,.slice Ab lb.length cb] w fun e w'=>(∃p c,e=.returned (.tuple #[.slice p xs.length c,.int .i64 0])∧InRow w' p xs)∧Below w.heap.size w w':=by
 unfold DF at h;rw[C5,Gb]at h
 split at h
 · rename_i hc;obtain⟨h1,h2,h3⟩:=hc
   split at h
   · rename_i h8;have key:=IG Aa Ab ca cb la lb w hE hs h1 h2 h3 h8;rw[h1];refine key.mono fun e w' ⟨hB,hr⟩=>⟨?_,hB⟩
     rcases hr with⟨M,v,hM,he,hown⟩ | ⟨er,hM,he⟩
     · rw[hM]at h;simp only[Except.ok.injEq]at h;obtain⟨p,c,rfl,hin⟩:=FC hown;refine⟨p,c,?_,by rw[←h];exact hin⟩;rw[he,←h,Ah]
     · rw[hM]at h
       cases h
   · cases h
 · cases h
theorem Q5 (Aa Ab:Option Addr) (ca cb:Nat) (la:List RowH) (lb:List Raw) (er:Int) (w:World) (hE:Env w) (hs:SysIn w Aa Ab la lb) (h:DF (Bw la) lb=.error er) :
 Calls Tryz.prog 56 #[.slice Aa la.length ca,.slice Ab lb.length cb] w fun e w'=>e=.returned (.tuple #[.slice none 0 0,.int .i64 er])∧Below w.heap.size w w':=by
 unfold DF at h;rw[C5,Gb]at h
 split at h
 · rename_i hc;obtain⟨h1,h2,h3⟩:=hc
   split at h
   · rename_i h8;have key:=IG Aa Ab ca cb la lb w hE hs h1 h2 h3 h8;rw[h1];refine key.mono fun e w' ⟨hB,hr⟩=>⟨?_,hB⟩
     rcases hr with⟨M,v,hM,he,hown⟩ | ⟨er2,hM,he⟩
     · rw[hM]at h
       cases h
     · rw[hM]at h;simp only[Except.error.injEq]at h;rw[he,h]
   · rename_i h8;simp only[Except.error.injEq]at h;rw[←h];exact Om Aa Ab ca cb la lb w hE h1 hs h2 h3 (by omega)
 · rename_i hc;simp only[Except.error.injEq]at h;rw[←h]
   by_cases h1:la.length=lb.length
   · cases h2:allV lb
     · exact Qx Aa Ab ca cb la lb w hE h1 hs h2
     · cases h3:D0 lb.length la
       · exact Qy Aa Ab ca cb la lb w hE h1 hs h2 h3
       · exact absurd ⟨h1,h2,h3⟩ hc
   · exact Ol Aa Ab ca cb la lb w h1 hs
end Nt
end
section
open Go.RowKit Go.Shelf
namespace Nt
def InM (n:Nat) (M N:Mx):Prop:=∀i,i<n→∀j,j≤n→M i j=N i j
section
variable {n:Nat} {M N:Mx}
theorem InM.sol (h:InM n M N) (y r:Nat→Rat):Sol n M y r↔Sol n N y r:=by
 have e:∀i,i<n→Am n (fun j=>M i j*y j)=Am n (fun j=>N i j*y j):=fun i hi=>Ao fun j hj=>by rw[h i hi j (by omega)]
 exact⟨fun k i hi=>(e i hi).symm.trans (k i hi),fun k i hi=>(e i hi).trans (k i hi)⟩
theorem InM.rhs (h:InM n M N) {y:Nat→Rat}:Sol n M y (fun i=>M i n)↔Sol n N y (fun i=>N i n) :=
 ⟨fun k=>((h.sol y _).1 k).congr fun i hi=>h i hi n (Nat.le_refl n),fun k=>((h.sol y _).2 k).congr fun i hi=>(h i hi n (Nat.le_refl n)).symm⟩
end
def ent (A:List (List Raw)) (i j:Nat):Rat:=vq ((A.getD i []).getD j zraw)
def rhs (b:List Raw) (i:Nat):Rat:=vq (b.getD i zraw)
def TS:Except Int (List Raw)→List Raw
 | .ok l=>l
 | .error _=>[]
def UY:Except Int (List Raw)→Int
 | .ok _=>0
 | .error e=>e
end Nt
end
section
open Go.RowKit Go.Shelf
namespace Nt
end Nt
end
section
open Go.RowKit Go.Shelf
namespace Nt
theorem InRow.at {W:World} {A:Option Addr} {l:List Raw} (h:InRow W A l) {j:Nat} (hj:j<l.length):∃b o,A=some ⟨b,o,none⟩∧b<W.heap.size∧W.cell? ⟨b,o+j*3,none⟩=some (.bool l[j].1)∧W.cell? ⟨b,o+j*3+1,none⟩=some (.string l[j].2.1)∧W.cell? ⟨b,o+j*3+2,none⟩=some (.string l[j].2.2):=by
 obtain⟨b,o,e,hl,hc⟩:=h (by omega);exact⟨b,o,e,hl,hc j hj⟩
end Nt
end
section
open Go.RowKit Go.Shelf
namespace Nt
theorem Ky {q:Rat} (h:OkQ q):Ez (rq q):=by
 have:=AM (AI h);unfold Ez rq;exact⟨by have:=this.1;dsimp only;omega,by have:=this.2;dsimp only;omega⟩
theorem DQ {w w':World} {B:Nat} {t:TypeId} {size:Nat} {v:Value} {n:Nat} {xs:List Value} (h:w.ownsRow B t size v n xs) (hb:Below w.heap.size w w'):w'.ownsRow B t size v n xs :=
 h.kept (row:=none) ⟨hb.os,hb.tape,hb.output,hb.size,fun k hk _=>hb.block k hk⟩ (by cases hv:v.ownBlock<;>simp)
end Nt
end
section
open Go.RowKit Go.Shelf
namespace Nt
theorem LZ {n k i:Nat} {M M':Mx} (hO:∀a b,a<n→b≤n→OkQ (M a b)) (h:BB SQ n k i M=some M'):∀a b,a<n→b≤n→OkQ (M' a b):=by
 unfold BB at h
 split at h
 · simp only[Option.some.injEq]at h;rw[←h];exact hO
 · split at h
   · rename_i hs;simp only[Option.some.injEq]at h;rw[←h];have hk:=(EM SQ).1 hs;intro a b ha hb;unfold Di
     split
     · rename_i hc;obtain⟨h1,h2,h3,h4⟩:=hk b hc.2 hb;exact MV (of_decide_eq_true h3) (of_decide_eq_true h4)
     · exact hO a b ha hb
   · cases h
theorem Ow {n k:Nat} {M:Mx} (hO:∀a b,a<n→b≤n→OkQ (M a b)):∀{i:Nat} {M':Mx},i≤n→AC SQ n k i M=some M'→∀a b,a<n→b≤n→OkQ (M' a b):=by
 intro i
 induction i with
 | zero=>intro M' _ h;simp only[AC,Option.some.injEq]at h;rw[←h];exact hO
 | succ i ih =>
   intro M' hi h;simp only[AC,Option.bind_eq_some_iff]at h;obtain⟨M1,h1,h2⟩:=h;exact LZ (ih (by omega) h1) h2
theorem Kz {n k:Nat} {M M':Mx} (hk:k<n) (hO:∀a b,a<n→b≤n→OkQ (M a b)) (h:CK SQ n k M=.ok M'):∀a b,a<n→b≤n→OkQ (M' a b):=by
 unfold CK at h
 split at h
 · cases h
 · rename_i p hp;obtain⟨p1,p2,p3,_⟩:=Fr (by omega) hp
   have hsw:∀a b,a<n→b≤n→OkQ (Bg k p M a b):=fun a b ha hb=>by
    unfold Bg
    split
    · exact hO p b p2 hb
    · split
      · exact hO k b hk hb
      · exact hO a b ha hb
   split at h
   · rename_i hd;have hd2:=(EL SQ).1 hd;have hne:Bg k p M k k≠0:=by unfold Bg;rw[if_pos rfl];exact p3
     have hdv:∀a b,a<n→b≤n→OkQ (Ba k (Bg k p M) a b):=fun a b ha hb=>by
      unfold Ba
      split
      · rename_i hc;obtain⟨h1,h2⟩:=hd2 b hc.2 hb;exact MW (of_decide_eq_true h1) (of_decide_eq_true h2) hne
      · exact hsw a b ha hb
     split at h
     · rename_i M2 h2;simp only[Except.ok.injEq]at h;rw[←h];exact Ow hdv (Nat.le_refl n) h2
     · cases h
   · cases h
end Nt
end
section
open Go.RowKit Go.Shelf
namespace Nt
def Apart (u v:Value):Prop:=∀b,u.ownBlock=some b→v.ownBlock≠some b
theorem Apart.symm {u v:Value} (h:Apart u v):Apart v u:=fun b h1 h2=>h b h2 h1
section
variable {w w':World} {base:Nat} {e:TypeId} {size:Nat} {u v v':Value} {n:Nat} {xs:List Value}
theorem B9 {P:Program} (t ty e:TypeId) (i:TypeInfo) (z:Value) (size bytes:Nat) (ht:P.underlying t=some (.slice e)) (hi:P.info? e=some i) (hz:i.zero=some z)
 (hsize:i.size=size) (hby:i.bytes=bytes) (v:Value) (n:Nat) (xs:List Value) (hown:w.ownsRow base e size v n xs)
 (a:Addr) (m c:Nat) (news:List Value) (hl:news.length=m*size) (hnews:∀j u,news[j]? = some u→w.cell? (a.add j)=some u) (h1:∀u∈news,u.oneCell'=true) (hm:0<m)
 (h63:n+m≤maxLen) (hbytes:(n+m)*bytes≤140737488355328) {v':Value} {w':World} (hr:(Builtin.append_ #[t,t] ty #[v,.slice (some a) m c]).run P w=.ok v' w') :
 v'.ownBlock=v.ownBlock∨v'.ownBlock=some w.heap.size:=by
 subst hsize;subst hby;have hsmall:n+m≤9223372036854775807:=by simp only[maxLen]at h63;omega
 rcases hown.2 with⟨rfl,rfl⟩ | ⟨g,cap,cur,rfl,_,hg,_,hcm,hcs,_⟩
 · have hr2:=run_append_nil (P:=P) w t ty e i z ht hi hz a m c news hl hnews (by omega) (by omega) (by have hb:=hbytes;simp only[Nat.zero_add]at hb;omega);rw[hr2]at hr;simp only[Result.ok.injEq]at hr;rw[←hr.1];exact .inr rfl
 · by_cases hroom:n+m≤cap
   · have hfit:n*i.size+news.length≤cur.size:=by rw[hl,hcs,←Nat.add_mul];exact Nat.mul_le_mul_right _ hroom
     have hr2:=run_append_room (P:=P) w t ty e i ht hi g n cap cur hg a m c news hl hnews h1 hroom hfit;rw[hr2]at hr;simp only[Result.ok.injEq]at hr;rw[←hr.1];exact .inl rfl
   · have holds:∀j u,xs[j]? = some u→w.cell? ((⟨g,0,none⟩:Addr).add j)=some u:=hown.cells (g:=g) rfl;have hr2:=run_append_grow (P:=P) w t ty e i z ht hi hz ⟨g,0,none⟩ n cap xs hown.1 holds a m c news hl hnews (by omega) (by omega) (growslice_fits (by omega) hbytes);rw[hr2]at hr;simp only[Result.ok.injEq]at hr;rw[←hr.1];exact .inr rfl
end
theorem wpList_append_new {P:Program} (w:World) {ops:Array Oper} {rest:List Oper} {o:Oper} {a:Act} {Q:Exit→Act→World→Prop} (hgd:o.guard=none) (s x:Operand) (t:TypeId)
 (ho:o.op=.call { callee:=.builtin .append,args:=#[s,x],argTypes:=#[t,t] })
 (base:Nat) (e:TypeId) (i:TypeInfo) (z:Value) (size bytes:Nat) (ht:P.underlying t=some (.slice e)) (hi:P.info? e=some i) (hz:i.zero=some z)
 (hsize:i.size=size) (hby:i.bytes=bytes) (hzs:z.cells.size=size) (hsz:0<size)
 (v:Value) (n:Nat) (xs:List Value) (hs:a.eval s=v) (hown:w.ownsRow base e size v n xs)
 (ad:Addr) (m c:Nat) (news:List Value) (hx:a.eval x=.slice (some ad) m c) (hl:news.length=m*size) (hnews:∀j u,news[j]? = some u→w.cell? (ad.add j)=some u) (h1:∀u∈news,u.oneCell'=true) (hm:0<m)
 (h63:n+m≤maxLen) (hbytes:(n+m)*bytes≤140737488355328) (hbase:base≤w.heap.size)
 (h:∀v' w',w'.ownsRow base e size v' (n+m) (xs++news)→w.grownBy w' v.ownBlock→(v'.ownBlock=v.ownBlock∨v'.ownBlock=some w.heap.size)→wpList P ops Q rest (a.put o.dst v') w'):wpList P ops Q (o::rest) a w :=
 wpList_plain hgd fun _ hK=>by
  obtain⟨v',w',hr,h2,h3,_⟩:=run_append_own (P:=P) w base t o.type e i z size bytes ht hi hz hsize hby hzs hsz v n xs hown ad m c news hl hnews h1 h63 hbytes hbase;have h5:=B9 (P:=P) t o.type e i z size bytes ht hi hz hsize hby v n xs hown ad m c news hl hnews h1 hm h63 hbytes hr;unfold Oper.wp execOp;simp only[ho,resolve,invoke,builtin,Sem.run_bind,Sem.run_pure,Result.andThen_ok,List.map_toArray,List.map_cons,List.map_nil,hs,hx,hr];exact hK _ _ (h v' w' h2 h3 h5)
theorem AU (v:Value) (h:v.oneCell'=true):∀u∈[v],u.oneCell'=true:=fun u hu=>by rw[List.mem_singleton.1 hu];exact h
theorem Cf (w:World) (v:Value) (t:TypeId):∀j u,[v][j]? = some u→(w.alloc (.cells #[v] t)).cell? (Addr.add ⟨w.heap.size,0,none⟩ j)=some u:=by
 intro j u hj
 match j,hj with
 | 0,hj=>simp at hj;subst hj;simp[Addr.add]
 | j+1,hj=>simp at hj
end Nt
end
section
open Go.RowKit Go.Shelf
namespace Nt
def hdr (x:RowH):Value:=.slice x.1 x.2.2.length x.2.1
def Q6:RowH:=(none,0,[])
structure Qd (W:World) (B n:Nat) (la:List RowH) (lb:List Raw) (y7 y9 y8 z:Nat) (v7 v8 v9 v11:Value) (R:Nat→Value):Prop where
 o7:W.ownsRow B 27 1 v7 y7 ((List.range y7).map fun i=>hdr (la.getD (n-1-i) Q6))
 o9:W.ownsRow B 40 3 v9 y9 (AF y9 fun i=>lb.getD (n-1-i) zraw)
 o8:W.ownsRow B 27 1 v8 y8 ((List.range y8).map R)
 oR:∀i,i<y8→W.ownsRow B 40 3 (R i) n (AF n fun j=>(la.getD i Q6).2.2.getD (n-1-j) zraw)
 o11:W.ownsRow B 40 3 v11 z (AF z fun j=>(la.getD y8 Q6).2.2.getD (n-1-j) zraw)
 a78:Apart v7 v8
 a79:Apart v7 v9
 a89:Apart v8 v9
 a17:Apart v11 v7
 a18:Apart v11 v8
 a19:Apart v11 v9
 r7:∀i,i<y8→Apart (R i) v7
 r8:∀i,i<y8→Apart (R i) v8
 r9:∀i,i<y8→Apart (R i) v9
 r1:∀i,i<y8→Apart (R i) v11
section
variable {W W':World} {B n:Nat} {la:List RowH} {lb:List Raw} {y7 y9 y8 z:Nat} {v7 v8 v9 v11 v':Value} {R:Nat→Value}
theorem Qd.below (h:Qd W B n la lb y7 y9 y8 z v7 v8 v9 v11 R) (hb:Below W.heap.size W W'):Qd W' B n la lb y7 y9 y8 z v7 v8 v9 v11 R :=
 ⟨DQ h.o7 hb,DQ h.o9 hb,DQ h.o8 hb,fun i hi=>DQ (h.oR i hi) hb,DQ h.o11 hb,h.a78,h.a79,h.a89,h.a17,h.a18,h.a19,h.r7,h.r8,h.r9,h.r1⟩
theorem Qd.alloc (h:Qd W B n la lb y7 y9 y8 z v7 v8 v9 v11 R) (o:Obj):Qd (W.alloc o) B n la lb y7 y9 y8 z v7 v8 v9 v11 R:=h.below ((Below.refl _ W).alloc (Nat.le_refl _) o)
end
theorem inMat_of_own {w:World} {base:Nat} {v:Value} {L:List RowH} (h:w.ownsRow base 27 1 v L.length (L.map hdr)) (hr:∀x∈L,InRow w x.1 x.2.2) :
 ∃A c,v=.slice A L.length c∧InMat w A L:=by
 rcases h.2 with⟨rfl,h0⟩ | ⟨g,cap,cur,rfl,hb,hg,h4,h5,h6,h7⟩
 · exact⟨none,0,by rw[h0],fun h=>absurd h (by omega)⟩
 · refine⟨some ⟨g,0,none⟩,cap,rfl,fun h0=>⟨g,0,rfl,(Array.getElem?_eq_some_iff.1 hg).1,fun j hj=>?_⟩⟩;have hc:=h.cells (g:=g) (by simp[Value.ownBlock]) j (hdr L[j]) (by simp[hj]);have hadd:∀o,(⟨g,0,none⟩:Addr).add o=⟨g,o,none⟩:=fun o=>by unfold Addr.add;split<;>simp_all
   rw[hadd]at hc;rw[Nat.zero_add];exact⟨hc,hr _ (List.getElem_mem hj)⟩
theorem SE (Aa Ab:Option Addr) (ca cb:Nat) (la:List RowH) (lb:List Raw) (w:World) (hE:Env w) (hs:SysIn w Aa Ab la lb) :
 Calls Tryz.prog 56 #[.slice Aa la.length ca,.slice Ab lb.length cb] w fun e w'=>(∃p c,e=.returned (.tuple #[.slice p (TS (DF (Bw la) lb)).length c,.int .i64 (UY (DF (Bw la) lb))])∧InRow w' p (TS (DF (Bw la) lb)))∧Below w.heap.size w w':=by
 cases h:DF (Bw la) lb with
 | ok xs=>exact Q4 Aa Ab ca cb la lb xs w hE hs h
 | error er=>exact(Q5 Aa Ab ca cb la lb er w hE hs h).mono fun e w' h=>⟨⟨none,0,h.1,fun h=>absurd h (by simp[TS])⟩,h.2⟩
end Nt
end
section
open Go.RowKit Go.Shelf
namespace Nt
theorem E9 {W:World} {base:Nat} {e:TypeId} {size:Nat} {v:Value} {n:Nat} {xs:List Value} (h:W.ownsRow base e size v n xs) (hn:0<n) :
 ∃g cap,v=.slice (some ⟨g,0,none⟩) n cap∧base≤g∧g<W.heap.size∧(∀j,W.frozen? ⟨g,j,none⟩=false)∧∀j u,xs[j]? = some u→W.cell? ⟨g,j,none⟩=some u:=by
 rcases h.2 with⟨rfl,h0⟩ | ⟨g,cap,cur,rfl,hb,hg,_⟩
 · omega
 · refine⟨g,cap,rfl,hb,(Array.getElem?_eq_some_iff.1 hg).1,fun j=>by simp[World.frozen?,hg],fun j u hj=>?_⟩;have hc:=h.cells (g:=g) (by simp[Value.ownBlock]) j u hj;have hadd:∀o,(⟨g,0,none⟩:Addr).add o=⟨g,o,none⟩:=fun o=>by unfold Addr.add;split<;>simp_all
   rwa [hadd]at hc
theorem AS {P:Program} (w:World) {o:Oper} {a:Act} {K:Act→World→Prop} {Q:Exit→Act→World→Prop} (s x:Operand) (t:TypeId)
 (ho:o.op=.call { callee:=.builtin .append,args:=#[s,x],argTypes:=#[t,t] })
 (base:Nat) (e:TypeId) (i:TypeInfo) (z:Value) (size bytes:Nat) (ht:P.underlying t=some (.slice e)) (hi:P.info? e=some i) (hz:i.zero=some z)
 (hsize:i.size=size) (hby:i.bytes=bytes) (hzs:z.cells.size=size) (hsz:0<size)
 (v:Value) (n:Nat) (xs:List Value) (hs:a.eval s=v) (hown:w.ownsRow base e size v n xs)
 (ad:Addr) (m c:Nat) (news:List Value) (hx:a.eval x=.slice (some ad) m c) (hl:news.length=m*size) (hnews:∀j u,news[j]? = some u→w.cell? (ad.add j)=some u) (h1:∀u∈news,u.oneCell'=true) (hm:0<m)
 (h63:n+m≤maxLen) (hbytes:(n+m)*bytes≤140737488355328) (hbase:base≤w.heap.size)
 (h:∀v' w',w'.ownsRow base e size v' (n+m) (xs++news)→w.grownBy w' v.ownBlock→(v'.ownBlock=v.ownBlock∨v'.ownBlock=some w.heap.size)→K (a.put o.dst v') w'):o.wp P a w K Q:=by
 obtain⟨v',w',hr,h2,h3,_⟩:=run_append_own (P:=P) w base t o.type e i z size bytes ht hi hz hsize hby hzs hsz v n xs hown ad m c news hl hnews h1 h63 hbytes hbase;have h5:=B9 (P:=P) t o.type e i z size bytes ht hi hz hsize hby v n xs hown ad m c news hl hnews h1 hm h63 hbytes hr;unfold Oper.wp execOp;simp only[ho,resolve,invoke,builtin,Sem.run_bind,Sem.run_pure,Result.andThen_ok,List.map_toArray,List.map_cons,List.map_nil,hs,hx,hr];exact h v' w' h2 h3 h5
end Nt
end
section
open Go.ChangeShapes Go.WideShapes Go.ChangeAt Go.RowKit Go.Shelf Go.Joins Go.Deep
namespace Nt
def qD {H:Type} (x:Raw):DataW H:=.agg [.lit (.bool x.1),.lit (.string x.2.1.data.toList),.lit (.string x.2.2.data.toList)]
def Ma {H:Type} (l:List Raw) (d:DataW H):Prop:=(d=.nil∧l=[])∨∃rest,d=.slice (l.map qD) rest
section
variable {H:Type} {enc:TypeId×Value→H} {w:World} {base:Nat} {held:Bool}
theorem Q7 {b o k:Nat}:(⟨b,o,none⟩:Addr).add k=⟨b,o+k,none⟩:=by unfold Addr.add;split<;>simp_all
theorem SF {fuel:Nat} {cs:List Value} {x:DataW H×List MemPlace} (h:DataW.trod enc Tryz.prog w base (fun _=>true) held fuel 27 cs=some x) :
 ∃(A:Option Addr) (cap:Nat) (l:List Raw),cs=[.slice A l.length cap]∧Ma l x.1∧InRow w A l:=by
 rcases open_slice Tryz.underlying27 h with⟨h1,h2⟩ | ⟨a,len,cap,m,n,D,Pl,hcs,hb,hl,hm,hmm,hx,hi⟩
 · exact⟨none,0,[],h1,.inl ⟨by rw[h2],rfl⟩,fun h=>absurd h (by simp)⟩
 · simp only[if_true]at hmm;subst hmm
   have each:∀i,i<m→∃y:Raw,D i=qD y∧w.cell? (a.add (i*3))=some (.bool y.1)∧w.cell? (a.add (i*3+1))=some (.string y.2.1)∧w.cell? (a.add (i*3+2))=some (.string y.2.2):=by
    intro i him;obtain⟨cs',hc,ht'⟩:=hi i him;rw[Sp]at hc;obtain⟨y0,y1,y2,n',hy,_,t0,t1,t2⟩:=trod_struct3 Tryz.underlying40 ht';obtain⟨_,hcl,hat⟩:=World.cells?_some hc
    match cs',hcl with
    | [c0,c1,c2],_ =>
      have g0:=hat 0 (by omega);have g1:=hat 1 (by omega);have g2:=hat 2 (by omega);rw[Go.Deep.add_add]at g0 g1 g2;obtain⟨g,e0,k0⟩:=DataW.trod_bool Tryz.underlying4 t0;obtain⟨s1,e1,k1,_⟩:=DataW.trod_string Tryz.underlying9 t1;obtain⟨s2,e2,k2,_⟩:=DataW.trod_string Tryz.underlying9 t2;simp only[Prod.mk.injEq]at hy;have b0:c0=.bool g:=by simpa [show Tryz.prog.cellsOf 4=1 by kernel_rfl,show Tryz.prog.cellsOf 9=1 by kernel_rfl] using e0
      have b1:c1=.string s1:=by simpa [show Tryz.prog.cellsOf 4=1 by kernel_rfl,show Tryz.prog.cellsOf 9=1 by kernel_rfl] using e1
      have b2:c2=.string s2:=by simpa [show Tryz.prog.cellsOf 4=1 by kernel_rfl,show Tryz.prog.cellsOf 9=1 by kernel_rfl] using e2
      subst b0 b1 b2;refine⟨(g,s1,s2),?_,?_,?_,?_⟩
      · rw[hy.1,k0,k1,k2];rfl
      · simpa using g0
      · simpa using g1
      · simpa using g2
   obtain⟨Y,hY⟩:=choose_lt each;refine⟨some a,m,(List.range len).map Y,by simpa using hcs,.inr ⟨_,by rw[hx,List.map_map];simp only[];congr 1;exact List.map_congr_left fun i hi2=>(hY i (by have:=List.mem_range.1 hi2;omega)).1⟩,fun h0=>?_⟩;simp only[List.length_map,List.length_range]at h0;have hsp:=World.cell?_spot (hY 0 (by omega)).2.1;obtain⟨b,o,s⟩:=a;have hs:s=none:=by simpa [Addr.add] using hsp
   subst hs;refine⟨b,o,rfl,?_,fun j hj=>?_⟩
   · have:=World.block_lt_of_cell? w _ (hY 0 (by omega)).2.1
     simpa [Q7] using this
   · have hj':j<len:=by simpa using hj
     obtain⟨_,k0,k1,k2⟩:=hY j (by omega);rw[Q7]at k0 k1 k2;simp only[List.getElem_map,List.getElem_range];exact⟨k0,k1,k2⟩
end
section
variable {H:Type}
theorem Dh {P:Program} {e:TypeId} {d:DataW H}:∀{l:List (DataW H)},d∈l→∀m∈d.weights P e,m∈DataW.weightsAll P e l:=by
 intro l
 induction l with
 | nil=>intro h;cases h
 | cons a l ih =>
   intro h m hm;rw[DataW.weightsAll,List.mem_append]
   rcases List.mem_cons.1 h with rfl | h
   · exact .inl hm
   · exact .inr (ih h m hm)
theorem Q8 {l:List Raw} {d:DataW H} (h:Ma l d) (hw:∀m∈d.weights Tryz.prog 27,m≤140737488351232):l.length≤140737488355328∧∀x∈l,Ez x:=by
 rcases h with⟨_,rfl⟩ | ⟨rest,rfl⟩
 · exact⟨by simp,fun x h=>absurd h (by simp)⟩
 · have e:(DataW.slice (l.map qD) rest).weights Tryz.prog 27=((l.map (qD (H:=H))).length+rest.length)*Tryz.prog.bytesOf 40::(DataW.weightsAll Tryz.prog 40 (l.map (qD (H:=H)))++DataW.weightsAll Tryz.prog 40 rest):=by
    simp[DataW.weights,Tryz.underlying27]
   rw[e]at hw;have h1:=hw _ (List.mem_cons_self ..);rw[show Tryz.prog.bytesOf 40=40 by kernel_rfl,List.length_map]at h1;refine⟨by omega,fun x hx=>?_⟩;have hm:=Dh (P:=Tryz.prog) (e:=40) (List.mem_map_of_mem (f:=qD (H:=H)) hx)
   have z:∀s:ByteArray,s.data.toList.length∈(qD (H:=H) x).weights Tryz.prog 40→s.size≤140737488355328:=fun s hs=>by
    have:=hw _ (List.mem_cons_of_mem _ (List.mem_append_left _ (hm _ hs)));have z1:s.size=s.data.toList.length:=Lib.size_eq _;omega
   exact⟨z _ (by simp[qD,DataW.weights,DataW.weightsEach,Tryz.underlying40]),z _ (by simp[qD,DataW.weights,DataW.weightsEach,Tryz.underlying40])⟩
theorem Bl {enc:TypeId×Value→H} {P:Program} {W W':World} {base:Nat} {sp':Nat→Bool} (hl:laidOutB P=true):∀{ts:List TypeId} {vs:List Value} {ds:List (DataW H)} {ps:List MemPlace},
 (∀t∈ts,P.readableRec t=true∧t<P.types.size)→DataW.TrodAll enc P W base (fun _=>true) true ts vs ds ps→(∀p∈ps,W.sameAt W' p)→(∀p∈ps,sp' p.block=true)→DataW.TrodAll enc P W' base sp' true ts vs ds ps
 | [],[],[],_,_,h,_,_=>h
 | _ :: _,_::_,_::_,_,hT,⟨p,q,h1,h2,e⟩,hs,hb =>
   ⟨p,q,WideElems.Trod_stays hl (hT _ (List.mem_cons.2 (.inl rfl))).1 (hT _ (List.mem_cons.2 (.inl rfl))).2 h1 (fun x hx=>hs x (by rw[e];exact List.mem_append_left _ hx)) (fun x hx=>hb x (by rw[e];exact List.mem_append_left _ hx)),
     Bl hl (fun t ht=>hT t (List.mem_cons.2 (.inr ht))) h2 (fun x hx=>hs x (by rw[e];exact List.mem_append_right _ hx)) (fun x hx=>hb x (by rw[e];exact List.mem_append_right _ hx)),e⟩
end
section
variable {H:Type} {enc:TypeId×Value→H} {w:World} {base:Nat} {held:Bool}
theorem Bu {ts:List TypeId} {ds:List (DataW H)} {j:Nat} {t:TypeId} {d:DataW H} (hsz:(DataW.weightsEach Tryz.prog ts ds).all (·≤reachBytes)=true) (ht:ts[j]? = some t) (hd:ds[j]? = some d):∀m∈d.weights Tryz.prog t,m≤140737488351232:=fun m hm =>
 of_decide_eq_true (List.all_eq_true.1 hsz _ (DataW.weights_mem_each (P:=Tryz.prog) ht hd m hm))
end
end Nt
end
section
open Go.RowKit Go.Shelf
namespace Bd
open Nt Ci
def B4 (m d:Nat):Nat:=m*(d/Nat.gcd m d)
def Gc:Nat→List Raw→Bool
 | _,[]=>true
 | m,x::t=>DP x&&(!x.1&&(decide (x.2.1.size≤65)&&(decide (x.2.2.size≤65)&&(decide ((T (some (B4 m (vq x).den))).size≤65)&&Gc (B4 m (vq x).den) t))))
theorem Ge (m:Nat) (x:Raw) (t:List Raw):Gc m (x::t)=(DP x&&(!x.1&&(decide (x.2.1.size≤65)&&(decide (x.2.2.size≤65)&&(decide ((T (some (B4 m (vq x).den))).size≤65)&&Gc (B4 m (vq x).den) t))))):=rfl
def D1 (l:List Raw):Bool:=Gc 1 l
theorem BG {n k:Nat} (hk:0<k):(T (some n)).size≤k↔n<10^k:=by
 have e:(T (some n)).size=(Lib.decDigits n).length:=by rw[Lib.size_eq];rfl
 rw[e];exact Cc n k hk
theorem Q9:10^65*10^65≤Lim:=by
 rw[←Nat.pow_add];exact Nat.pow_le_pow_right (by decide) (by rw[Eb];decide)
theorem Gf {m d:Nat} (hm:0<m) (hd:0<d):0<B4 m d :=
 Nat.mul_pos hm (Nat.div_pos (Nat.le_of_dvd hd (Nat.gcd_dvd_right m d)) (Nat.gcd_pos_of_pos_right m hd))
theorem K0 (A:Option Addr) (ca:Nat) (l:List Raw) (w:World) (hE:Env w) (hl:InRow w A l) (h63:l.length≤140737488355328) (hsz:∀k (h:k<l.length),l[k].2.1.size≤140737488355328∧l[k].2.2.size≤140737488355328) :
 Calls Tryz.prog 38 #[.slice A l.length ca] w fun e w'=>e=.returned (.bool (D1 l))∧Below w.heap.size w w':=by
 have hB0:Hid (Below w.heap.size w w):=Below.refl _ _;have hI0:Hid (D1 l=Gc 1 (l.drop 0)):=rfl;have hm0:Hid (0<1∧1<10^65):=⟨by decide,Nat.one_lt_pow (by decide) (by decide)⟩;replace hE:=zh hE;replace hl:=zh hl;replace hsz:=zh hsz;generalize D1 l=fin at hI0 ⊢;have hT1:Value.string ⟨#[49]⟩=.string (T (some 1)):=by kernel_rfl
 go_enter Tryz.func38,Tryz.ntmps38;go_wp2
 go_loopw [3,13] (fun mv ix wr=>∃(k m:Nat),k≤l.length∧ix=.int .i64 (k:Int)∧mv=.string (T (some m))∧Hid (fin=Gc m (l.drop k))∧Hid (0<m∧m<10^65)∧Hid (Below w.heap.size w wr)) (fun _ ix _=>l.length-(intOf ix).toNat)
 case atStart=>exact⟨0,1,Nat.zero_le _,rfl,hT1,hI0,hm0,hB0⟩
 case round =>
  clear hI0 hm0 hB0 hT1;obtain⟨k,m,hk,rfl,rfl,hI,hm,hB⟩:=hrel;obtain⟨wz,rfl⟩:∃z,z=wr:=⟨_,rfl⟩;have j0:(0:Int)≤(k:Int):=by omega
  by_cases hlt:k<l.length
  · have j1 : (k:Int)<(l.length:Int):=by omega
    obtain⟨b,o,rfl,hbl,hc⟩:=(hl.out.below hB.out (Nat.le_refl _)) (by omega);obtain⟨e0,e1,e2⟩:=hc k hlt;have hs:=hsz.out k hlt;have hdr:l.drop k=l[k]::l.drop (k+1):=List.drop_eq_getElem_cons hlt;rw[hdr]at hI;have hvx:∀x:Raw,DP x=At x.1 x.2.1 x.2.2:=fun _=>rfl;obtain⟨x,hx⟩:∃x,x=l[k]:=⟨_,rfl⟩;rw[←hx]at e0 e1 e2 hs hI;obtain⟨gg,nn,dd⟩:=x;dsimp only at e0 e1 e2 hs;obtain⟨vb,hvb⟩:∃r,r=At gg nn dd:=⟨_,rfl⟩;have hIv:Hid (DP (gg,nn,dd)=vb):=hvb.symm;have kv:Hid (∀W,Env W→Calls Tryz.prog 83 #[.agg #[.bool gg,.string nn,.string dd]] W fun e w'=>e=.returned (.bool vb)∧Below W.heap.size W w'):=fun W hW=>by rw[hvb];exact AE gg nn dd W hW hs.1 hs.2
    have hB1:Hid (Below w.heap.size w (wz.alloc (.cells #[.bool gg,.string nn,.string dd] 40))):=hB.out.alloc hB.out.size _;have hX1:Hid (Bk (wz.alloc (.cells #[.bool gg,.string nn,.string dd] 40)) wz.heap.size 40 [.bool gg,.string nn,.string dd]):=Bk.new _ _ _;have kv1:=zh (kv.out _ (hE.out.below hB1.out));replace hvb:=zh hvb;replace hx:=zh hx;replace hs:=zh hs;clear hc hdr hvx kv
    go_wp2_with fail
    refine kv1.out.mono ?_;rintro e w2 ⟨rfl,hb⟩;have hB2:=zh (hB1.out.trans (hb.mono hB1.out.size));have hX2:=zh (hX1.out.below hb);clear hb hB1 hX1 kv1 e0 e1 e2 hbl hB;have u0:=hX2.out.c0;have u1:=hX2.out.c1;have u2:=hX2.out.c2;have u9:=hX2.out.lt
    cases vb with
    | false =>
      have hf:fin=false:=by rw[hI.out];unfold Gc;rw[hIv.out];rfl
      subst hf;go_wp2;go_ret;exact⟨rfl,hB2.out⟩
    | true =>
      cases gg with
      | true =>
        have hf:fin=false:=by rw[hI.out];unfold Gc;rw[hIv.out];rfl
        subst hf;go_wp2;go_ret;exact⟨rfl,hB2.out⟩
      | false =>
        have hq:=Fu (x:=(false,nn,dd)) (by exact hIv.out);obtain⟨q,hqv⟩:∃q,q=vq (false,nn,dd):=⟨_,rfl⟩;rw[←hqv]at hq;have hdn:dd=T (some q.den):=(congrArg (·.2.2) hq.1).symm;have hdl:q.den<Lim:=hq.2.2
        have hI2:Hid (fin=(decide (nn.size≤65)&&(decide (dd.size≤65)&&(decide ((T (some (B4 m q.den))).size≤65)&&Gc (B4 m q.den) (l.drop (k+1)))))):=by
         rw[hI.out,Ge,hIv.out,←hqv,Bool.true_and];exact Bool.true_and _
        have hqp:Hid (0<q.den):=q.den_pos;replace hq:=zh hq;replace hqv:=zh hqv;clear hI hIv
        by_cases h1:65<nn.size∨65<dd.size
        · have hf:fin=false:=by
           rw[hI2.out]
           rcases h1 with h | h
           · rw[decide_eq_false (by omega)];rfl
           · rw[decide_eq_false (p:=dd.size≤65) (by omega)];simp
          subst hf;have m1:decide ((65:Int)<max (nn.size:Int) (dd.size:Int))=true:=decide_eq_true (by omega);have m2:decide (65<max nn.size dd.size)=true:=decide_eq_true (by omega);replace h1:=zh h1;replace hdn:=zh hdn;go_wp2;go_ret;exact⟨rfl,hB2.out⟩
        · have m1:decide ((65:Int)<max (nn.size:Int) (dd.size:Int))=false:=decide_eq_false (by omega);have m2:decide (65<max nn.size dd.size)=false:=decide_eq_false (by omega)
          have hI3:Hid (fin=(decide ((T (some (B4 m q.den))).size≤65)&&Gc (B4 m q.den) (l.drop (k+1)))):=by
           rw[hI2.out,decide_eq_true (by omega),decide_eq_true (p:=dd.size≤65) (by omega)];rfl
          have hmL:m<Lim:=Nat.lt_of_lt_of_le hm.out.2 (Nat.le_trans (Nat.le_mul_of_pos_right _ (Nat.pow_pos (by decide))) Q9);have hd65:q.den<10^65:=(BG (by decide)).1 (by rw[←hdn];omega);have hg0:0<Nat.gcd m q.den:=Nat.gcd_pos_of_pos_left _ hm.out.1;obtain⟨gd,hgd⟩:∃g,g=Nat.gcd m q.den:=⟨_,rfl⟩;have hgl:gd<Lim:=by rw[hgd];exact F5 hmL hdl
          rw[←hgd]at hg0;have hql:q.den/gd<Lim:=Nat.lt_of_le_of_lt (Nat.div_le_self _ _) hdl;have hp:B4 m q.den=m*(q.den/gd):=by unfold B4;rw[hgd]
          have hpl:m*(q.den/gd)<Lim:=Nat.lt_of_lt_of_le (Nat.lt_of_le_of_lt (Nat.mul_le_mul_left _ (Nat.le_trans (Nat.div_le_self _ _) (Nat.le_of_lt hd65))) (Nat.mul_lt_mul_of_pos_right hm.out.2 (Nat.pow_pos (by decide)))) Q9
          have k1:Hid (∀W,Env W→Calls Tryz.prog 84 #[.string (T (some m)),.string dd] W fun e w'=>e=.returned (.tuple #[.string (T (some gd)),.int .i64 0])∧Below W.heap.size W w'):=fun W hW=>by
           have h:=PD (some m) (some q.den) W hW (Ak hmL) (Ak hdl)
           have e:L0 (some m) (some q.den)=some gd∧L2 (some m) (some q.den)=0:=by
            have:=F5 hmL hdl;rw[hgd];exact⟨by simp only[L0,apO,Jr,if_pos this],by simp only[L2,apE,if_pos this]⟩
           rw[e.1,e.2,←hdn]at h;exact h
          have k2:Hid (∀W,Env W→Calls Tryz.prog 85 #[.string dd,.string (T (some gd))] W fun e w'=>(∃r,e=.returned (.tuple #[.string (T (some (q.den/gd))),.string r,.int .i64 0]))∧Below W.heap.size W w'):=fun W hW=>by
           have h:=L3 (some q.den) (some gd) W hW (Ak hdl) (Ak hgl)
           have e:NI (some q.den) (some gd)=some (q.den/gd)∧NJ (some q.den) (some gd)=0:=by
            have:¬gd=0:=by omega
            exact⟨by simp only[NI,if_neg this],by simp only[NJ,if_neg this]⟩
           rw[e.1,e.2,←hdn]at h;exact h.mono fun e w' h=>⟨⟨_,h.1⟩,h.2⟩
          have k3:Hid (∀W,Env W→Calls Tryz.prog 86 #[.string (T (some m)),.string (T (some (q.den/gd)))] W fun e w'=>e=.returned (.tuple #[.string (T (some (B4 m q.den))),.int .i64 0])∧Below W.heap.size W w'):=fun W hW=>by
           have h:=Uv (some m) (some (q.den/gd)) W hW (Ak hmL) (Ak hql)
           have e:P9 (some m) (some (q.den/gd))=some (B4 m q.den)∧PA (some m) (some (q.den/gd))=0:=by
            rw[hp];exact⟨by simp only[P9,apO,Jr,if_pos hpl],by simp only[PA,apE,if_pos hpl]⟩
           rw[e.1,e.2]at h;exact h
          have hnp:Hid (0<B4 m q.den):=Gf hm.out.1 hqp.out;have hnz:Hid ((T (some (B4 m q.den))).size≤65→B4 m q.den<10^65):=(BG (by decide)).1;generalize q.den/gd=qd at k2 k3 hp hql hpl;generalize B4 m q.den=mm at k3 hp hI3 hnp hnz;replace h1:=zh h1;clear hdn hdl hqp hmL hd65 hg0 hgd hgl hql hp hpl hI2
          go_wp2_with fail
          refine(k1.out _ (hE.out.below hB2.out)).mono ?_;rintro e w3 ⟨rfl,hb⟩;have hB3:=zh (hB2.out.trans (hb.mono hB2.out.size));have hX3:=zh (hX2.out.below hb);clear hb k1 u0 u1 u2 u9 hX2 hB2;have u2:=hX3.out.c2;have u9:=hX3.out.lt
          go_wp2_with fail
          refine(k2.out _ (hE.out.below hB3.out)).mono ?_;rintro e w4 ⟨⟨r,rfl⟩,hb⟩;have hB4:=zh (hB3.out.trans (hb.mono hB3.out.size));clear hb k2 u2 u9 hX3 hB3
          go_wp2_with fail
          refine(k3.out _ (hE.out.below hB4.out)).mono ?_;rintro e w5 ⟨rfl,hb⟩;have hB5:=zh (hB4.out.trans (hb.mono hB4.out.size));clear hb k3 hB4
          by_cases h2:65<(T (some mm)).size
          · have m3:decide ((65:Int)<((T (some mm)).size:Int))=true:=decide_eq_true (by omega);have m4:decide (65<(T (some mm)).size)=true:=decide_eq_true h2;have hf:fin=false:=by rw[hI3.out,decide_eq_false (by omega)];rfl
            subst hf;replace h2:=zh h2;go_wp2;go_ret;exact⟨rfl,hB5.out⟩
          · have m3:decide ((65:Int)<((T (some mm)).size:Int))=false:=decide_eq_false (by omega);have m4:decide (65<(T (some mm)).size)=false:=decide_eq_false h2;have hI4:Hid (fin=Gc mm (l.drop (k+1))):=by rw[hI3.out,decide_eq_true (by omega)];rfl
            have hm5:Hid (0<mm∧mm<10^65):=⟨hnp.out,hnz.out (by omega)⟩;replace h2:=zh h2;clear hI3 hnp hnz;go_wp2;exact⟨⟨k+1,mm,by omega,by go_num,rfl,hI4,hm5,hB5⟩,by simp only[intOf];omega⟩
  · obtain rfl:k=l.length:=by omega
    have hf:fin=true:=by rw[hI.out,List.drop_length];rfl
    subst hf;go_wp2;go_ret;exact⟨rfl,hB.out⟩
end Bd
end
section
open Go.RowKit
namespace Bd
variable {P:Program} {ops:Array Oper} {Q:Exit→Act→World→Prop} {md:Region.Mode} {S:World→Prop} {l n:Nat}
theorem SH {o:Oper} {a:Act} {w:World} {K:Act→World→Prop} (hd:∀c,o.op≠.defer c) (h:o.wp P a w K Q):o.wpIn (Fence.wide.inRound l) n P a w K Q:=by
 refine⟨fun _ _=>trivial,?_⟩;unfold Oper.wp at h;rw[Fence.inRound_round,Oper.semAt_some l a.eval o hd];have hz:(Fence.wide.inRound l).depth.isSome=true→1≤n:=fun e=>by simp[Fence.wide]at e
 generalize (execOp a.eval o).run P w=r at *
 cases r with
 | ok x w' =>
   cases x with
   | enter f args=>exact⟨hz,CallsIn.inRound l (callsIn_wide.2 h)⟩
   | row r args=>exact⟨hz,fun c cs _=>by obtain⟨v,w2,h1,h2⟩:=h c cs;exact⟨v,w2,h1,stepsIn_wide.2 h2⟩⟩
   | value v=>exact h
   | skip=>exact h
   | defer d=>exact h
   | _=>exact h.elim
 | halt x w'=>cases x<;>first | exact h | exact h.elim
theorem SI {i:Nat} {a:Act} {w:World} {K:Act→World→Prop} (hd:∀(i:Nat) (o:Oper) c,ops[i]? = some o→o.op≠.defer c) (hno:¬LetsOut Q) (h:wpOp P ops Q i K a w):wpOpIn (Fence.wide.inRound l) n P ops Q i K a w:=by
 unfold wpOp at h;unfold wpOpIn
 cases ho:ops[i]? with
 | none=>rw[ho]at h;exact h
 | some o =>
   rw[ho]at h;simp only at h ⊢
   split
   · rename_i hw;rw[if_pos hw]at h
     rcases h with h | ⟨_,h⟩
     · exact SH (fun c=>hd i o c ho) h
     · exact absurd h hno
   · rename_i hw;rw[if_neg hw]at h;exact⟨fun _ _=>trivial,h⟩
theorem K1 (hd:∀(i:Nat) (o:Oper) c,ops[i]? = some o→o.op≠.defer c) (hno:¬LetsOut Q):∀(fuel:Nat) (listed:Array Bool) (a:Act) (w:World),wpAny P md ops Q fuel listed a w→wpAnyIn (Fence.wide.inRound l) n P md ops Q fuel listed a w
 | 0,_,_,_,h=>h
 | fuel+1,_,_,_,h=>⟨h.1,fun i hi=>SI hd hno (wpOp_mono (fun a' w' h'=>K1 hd hno fuel _ a' w' h') (h.2 i hi))⟩
def GT (ops:Array Oper):Bool:=ops.all fun o=>match o.op with | .defer _=>false | _=>true
theorem Jz (h:GT ops=true):∀(i:Nat) (o:Oper) c,ops[i]? = some o→o.op≠.defer c:=fun i o c hi e=>by
 unfold GT at h;rw[Array.all_eq_true]at h;obtain⟨hi2,e2⟩:=Array.getElem?_eq_some_iff.1 hi;have:=h i hi2;rw[e2,e]at this
 cases this
theorem J0 {id:Nat} {a:Act} {w:World} (hm:P.follows .mixedOrders=true) (hd:GT ops=true) (hno:¬LetsOut Q)
 (h:wpAnyH P .any ops Q S ops.size (Array.replicate ops.size false) a { w with drawn:=w.drawn+1 }):(Code.region id ops true).wpIn (Fence.wide.inRound l) n P Q a w :=
 wpIn_region_any hm (K1 (Jz hd) hno _ _ _ _ (wpAny_of_held _ _ _ _ h))
theorem FD {id:Nat} {a:Act} {w:World} (hm:P.follows .mixedOrders=true) (hd:GT ops=true) (hno:¬LetsOut Q) (hS:S w.drew)
 (h:S w.drew→wpAnyH P .any ops Q S ops.size (Array.replicate ops.size false) a w.drew):(Code.region id ops true).wpIn (Fence.wide.inRound l) n P Q a w :=
 J0 hm hd hno (h hS)
theorem Bn {i fuel:Nat} {listed:Array Bool} {a:Act} {w:World} (hs:Region.noSelect ops=true) (hf:Region.free md ops listed i=true) (hr:(Region.ready md ops listed).contains i=true) (hi:(ops[i]?).isSome=true) (hS:S w)
 (h:∀oi,ops[i]? = some oi→∃v,(∀c a w,Q (.panic c) (a.put oi.dst v) w→Q (.panic c) a w)∧YieldsIf P ops S oi v a∧wpAnyH P md ops Q S fuel (listed.setIfInBounds i true) (a.put oi.dst v) w):wpAnyH P md ops Q S (fuel+1) listed a w:=by
 obtain⟨oi,ho⟩:=Option.isSome_iff_exists.1 hi;obtain⟨v,h1,h2,h3⟩:=h oi ho;exact wpAnyH_take ho hs hf hr h1 h2 hS h3
theorem G3 {W W':World} (h:Below W.heap.size W W'):KeepsOthers W W':=⟨h.size,fun k o hk _=>by
 have hk':=(Array.getElem?_eq_some_iff.1 hk).1;exact(h.block k hk').trans hk⟩
def mkD (Ds:List Nat):List Deferred:=Ds.map fun D=>{ target:=.collected D,args:=#[] }
structure Mk (B:Nat) (Ds:List Nat) (W:World):Prop where
 nodup:Ds.Nodup
 at_:∀D,D∈Ds→B≤D∧W.heap[D]? = some (.deferred (some []))
theorem Mk.nil {B:Nat} {W:World}:Mk B [] W:=⟨List.nodup_nil,fun _ h=>by cases h⟩
theorem Mk.lt {B:Nat} {Ds:List Nat} {W:World} (h:Mk B Ds W) {D:Nat} (hD:D∈Ds):D<W.heap.size:=(Array.getElem?_eq_some_iff.1 (h.at_ D hD).2).1
theorem Mk.below {B:Nat} {Ds:List Nat} {W W':World} (h:Mk B Ds W) (hb:Below W.heap.size W W'):Mk B Ds W' :=
 ⟨h.nodup,fun D hD=>⟨(h.at_ D hD).1,(hb.block D (h.lt hD)).trans (h.at_ D hD).2⟩⟩
theorem Mk.cons {B D:Nat} {Ds:List Nat} {W:World} (h:Mk B Ds W) (hB:B≤D) (hD:W.heap[D]? = some (.deferred (some []))) (hn:D∉Ds):Mk B (D::Ds) W :=
 ⟨List.nodup_cons.2 ⟨hn,h.nodup⟩,fun E hE=>by rcases List.mem_cons.1 hE with rfl | hE;(· exact⟨hB,hD⟩);(· exact h.at_ E hE)⟩
theorem Bh {F:Fence} {fn:Func} {tmps:Array Value} {R:Ending→World→Prop} {B:Nat} {w:World} (hB0:B≤w.heap.size):∀(Ds:List Nat) (W:World),Mk B Ds W→Below B w W →
 (∀W',Below B w W'→(∀k,k∉Ds→W'.heap[k]? = W.heap[k]?)→LeavesInM F n P fn tmps R [] .returning W')→LeavesInM F n P fn tmps R (mkD Ds) .returning W
 | [],W,_,hb,h=>h W hb fun _ _=>rfl
 | D::Ds,W,hm,hb,h=>by
   have hK:=(hm.at_ D (List.mem_cons_self ..)).2;have hD:=(hm.at_ D (List.mem_cons_self ..)).1;have hn:=List.nodup_cons.1 hm.nodup;refine⟨by simp,.inl ⟨_,_,rfl,run_takeDeferred hK,?_⟩⟩;refine Bh hB0 Ds _ ⟨hn.2,fun E hE=>⟨(hm.at_ E (List.mem_cons_of_mem _ hE)).1,(World.putObj_heap_other (by rintro rfl;exact hn.1 hE)).trans (hm.at_ E (List.mem_cons_of_mem _ hE)).2⟩⟩ (hb.trans ((Below.refl B W).grown (grownBy_putObj' W D _) (by have:=(Array.getElem?_eq_some_iff.1 hK).1;omega) (fun k e=>by cases e;exact hD))) fun W' h1 h2=>h W' h1 fun k hk=>?_;exact(h2 k fun e=>hk (List.mem_cons_of_mem _ e)).trans (World.putObj_heap_other (by rintro rfl;exact hk (List.mem_cons_self ..)))
end Bd
end
section
open Go.RowKit Go.Shelf
attribute [local go_sem] Oper.semAt_some
namespace Bd
open Nt Ci
def lkV (x:Lk):Value:=.agg #[.int .i64 x.1,.int .i64 x.2.1,.bool x.2.2.1,.string x.2.2.2.1,.string x.2.2.2.2]
abbrev E0 (n:Nat):={ i:Nat // i<n }
def Ek (p:Int) (l:List Lk) (k:Nat):List (E0 l.length):=(List.range k).filterMap fun j=>if h:j<l.length then (if l[j].1=p then some ⟨j,h⟩ else none) else none
theorem IH (p:Int) (l:List Lk) {k:Nat} (h:k<l.length):Ek p l (k+1)=Ek p l k++(if l[k].1=p then [⟨k,h⟩] else []):=by
 unfold Ek;rw[List.range_succ,List.filterMap_append,List.filterMap_cons,List.filterMap_nil,dif_pos h]
 by_cases c:l[k].1=p
 · rw[if_pos c,if_pos c]
 · rw[if_neg c,if_neg c]
theorem Fc (p:Int) (l:List Lk) (k:Nat):(Ek p l k).length≤k:=Nat.le_trans (List.length_filterMap_le _ _) (by rw[List.length_range];exact Nat.le_refl _)
def Kq (n₀ pb:Nat) (W W':World):Prop:=Below n₀ W W'∧W'.heap[pb]? = W.heap[pb]?
theorem Kq.refl {n₀ pb:Nat} (W:World):Kq n₀ pb W W:=⟨Below.refl _ _,rfl⟩
theorem Kq.trans {n₀ pb:Nat} {A B C:World} (h:Kq n₀ pb A B) (k:Kq n₀ pb B C):Kq n₀ pb A C:=⟨h.1.trans k.1,k.2.trans h.2⟩
theorem Kq.alloc {n₀ pb:Nat} {A B:World} (h:Kq n₀ pb A B) (hn:n₀≤B.heap.size) (hp:pb<B.heap.size) (o:Obj):Kq n₀ pb A (B.alloc o):=⟨h.1.alloc hn _,(Below.heap_alloc B o pb hp).trans h.2⟩
theorem Kq.set {n₀ pb:Nat} {A B:World} (h:Kq n₀ pb A B) {a:Addr} (hn:n₀≤a.block) (hp:pb≠a.block) (v:Value):Kq n₀ pb A (B.setCell a v):=⟨h.1.setCell hn v,(Below.heap_setCell B a v pb hp).trans h.2⟩
theorem Kq.below {n₀ pb:Nat} {A B C:World} (h:Kq n₀ pb A B) (hb:Below B.heap.size B C) (hn:n₀≤B.heap.size) (hp:pb<B.heap.size):Kq n₀ pb A C:=⟨h.1.trans (hb.mono hn),(hb.block pb hp).trans h.2⟩
theorem UF {n₀ pb:Nat} {w:World} (hn:n₀≤w.heap.size) (hp:pb<w.heap.size) (W:World) (l:Nat) (o o':Obj) (hl:w.heap.size≤l) (h:W.heap[l]? = some o) (h1:o.isCells=false) (h2:o.isWalk=false):Kq n₀ pb W (W.putObj l o') :=
 ⟨belowK_b hn W l o o' hl h h1 h2,World.putObj_heap_other (by omega)⟩
theorem K2 (F:Fence) (n:Nat) (hf:F.fn 87) (hro:F.round=none) (hn:1≤n) (s:SR) (Ap Ac Av:Option Addr) (cp cc cv:Nat) (l sb pb n₀:Nat) (p:Int) (J Jx:List (E0 s.cap.length)→World→Prop)
 (W:World) (hJ:AbidesFrom W.heap.size J) (hc:InLk W Ac s.cap) (h63:s.cap.length≤140737488355328) (hn0:n₀≤W.heap.size) (hcb:0<s.cap.length→∀b o,Ac=some ⟨b,o,none⟩→b<n₀) (hpb:pb<W.heap.size)
 (hS:Bk W sb 25 [.slice Ap s.ps.length cp,.slice Ac s.cap.length cc,.slice Av s.vot.length cv]) (hP:W.cell? ⟨pb,0,none⟩=some (.int .i64 p))
 (hY:∀pre x W1,J pre W1→pre.length<s.cap.length→YieldAt F (n-1) Tryz.prog l #[lkV (s.cap[x.1]'x.2)] W1 fun e W' =>
   (e=.returned (.bool true)∧J (pre++[x]) W'∧Kq n₀ pb W1 W')∨(e=.returned (.bool false)∧Jx (pre++[x]) W'))
 (h0:J [] W) :
 CallsIn F n Tryz.prog 87 #[.func (.yield l) #[] #[],.pointer (some ⟨sb,0,none⟩),.pointer (some ⟨pb,0,none⟩)] W fun e W'=>(∃v,e=.returned v) ∧
  ((∃ys,ys=Ek p s.cap s.cap.length∧J ys W')∨(∃pre,(∃k,k≤s.cap.length∧pre=Ek p s.cap k)∧Jx pre W')):=by
 have u0:=hS.c0;have u1:=hS.c1;have u9:=hS.lt;have hJ0:Hid (J (Ek p s.cap 0) W):=h0;have hB0:Hid (Kq n₀ pb W W):=Kq.refl _;replace hc:=zh hc;replace hJ:=zh hJ;replace hcb:=zh hcb;replace hY:=zh hY;clear h0;refine callsIn_of_wp Tryz.func87 rfl hf ?_ hro;simp only[Tryz.ntmps87,List.size_toArray,List.length_cons,List.length_nil,Nat.reduceAdd,Nat.reduceSub,Array.replicate_succ,Array.replicate_zero,List.push_toArray,List.append_toArray,List.nil_append,List.cons_append]
 gi_wp2
 gi_loopw [9] (fun i wr=>∃k:Nat,k≤s.cap.length∧i=.int .i64 (k:Int)∧Hid (J (Ek p s.cap k) wr)∧Hid (Kq n₀ pb W wr))
  (fun i _=>s.cap.length-(intOf i).toNat)
 case atStart=>exact⟨0,Nat.zero_le _,rfl,hJ0,hB0⟩
 case round =>
  clear hJ0 hB0;obtain⟨k,hk,rfl,hJs,hnx⟩:=hrel;obtain⟨wz,rfl⟩:∃z,z=wr:=⟨_,rfl⟩
  by_cases hlt:k<s.cap.length
  · obtain ⟨b,o,rfl,hbl,hcs⟩:=hc.out (by omega);obtain⟨e0,e1,e2,e3,e4⟩:=hcs k hlt;have hbn:=hcb.out (by omega) b o rfl;replace e0:=(hnx.out.1.cell (p:=⟨b,o+k*5,none⟩) hbn).trans e0;replace e1:=(hnx.out.1.cell (p:=⟨b,o+k*5+1,none⟩) hbn).trans e1;replace e2:=(hnx.out.1.cell (p:=⟨b,o+k*5+2,none⟩) hbn).trans e2;replace e3:=(hnx.out.1.cell (p:=⟨b,o+k*5+3,none⟩) hbn).trans e3;replace e4:=(hnx.out.1.cell (p:=⟨b,o+k*5+4,none⟩) hbn).trans e4;have hbw:=Nat.lt_of_lt_of_le hbl hnx.out.1.size;have hps:wz.cell? ⟨pb,0,none⟩=some (.int .i64 p):=by rw[←hP];exact World.cell?_of_block (w:=W) hnx.out.2
    have hpw:pb<wz.heap.size:=Nat.lt_of_lt_of_le hpb hnx.out.1.size;have hht:=IH p s.cap hlt;have hhl:=Fc p s.cap k;obtain⟨x,hx⟩:∃x,x=s.cap[k]:=⟨_,rfl⟩;rw[←hx]at e0 e1 e2 e3 e4 hht;obtain⟨co,ho,gg,nn,dd⟩:=x;dsimp only at e0 e1 e2 e3 e4 hht;have hJ1:J (Ek p s.cap k) (wz.alloc (.cells #[.int .i64 co,.int .i64 ho,.bool gg,.string nn,.string dd] 59)):=hJ.out _ _ _ none hJs.out (World.grownBy_alloc wz _ none) (fun r e=>by cases e);have hB1:Hid (Kq n₀ pb W (wz.alloc (.cells #[.int .i64 co,.int .i64 ho,.bool gg,.string nn,.string dd] 59))):=hnx.out.alloc (Nat.le_trans hn0 hnx.out.1.size) hpw _;have j0:(0:Int)≤(k:Int):=by omega
    have j1:(k:Int)<(s.cap.length:Int):=by omega
    replace hx:=zh hx;clear hcs
    by_cases hcp:co=p
    · rw [if_pos hcp]at hht;have m1:(co==p)=true:=beq_iff_eq.2 hcp;obtain⟨fn,tmps,assign,body,hy,hR⟩:=hY.out _ ⟨k,hlt⟩ _ hJ1 (by omega);dsimp only at hy;rw[←hx.out]at hy;dsimp only[lkV]at hy;replace hht:=zh hht;replace hcp:=zh hcp;replace hJ1:=zh hJ1
      gi_wp2
      refine hR.mono ?_;rintro e W3 (⟨rfl,hJ3,hk3⟩ | ⟨rfl,hJx3⟩)
      · have hJ4:Hid (J (Ek p s.cap (k+1)) W3):=by rw[hht.out];exact hJ3
        have hB4:Hid (Kq n₀ pb W W3):=hB1.out.trans hk3
        gi_wp2
        go_roundw
        case rel=>exact⟨k+1,by omega,by go_num,hJ4,hB4⟩
        case measure=>simp[intOf];omega
      · have hJ4:Hid (Jx (Ek p s.cap (k+1)) W3):=by rw[hht.out];exact hJx3
        gi_wp2
        refine bodyPost_ret (results_none rfl _ _ _) rfl ?_;exact⟨⟨_,rfl⟩,.inr ⟨_,⟨k+1,by omega,rfl⟩,hJ4.out⟩⟩
    · rw[if_neg hcp,List.append_nil]at hht;have m1:(co==p)=false:=by rw[beq_eq_false_iff_ne];exact hcp
      have hJ4:Hid (J (Ek p s.cap (k+1)) (wz.alloc (.cells #[.int .i64 co,.int .i64 ho,.bool gg,.string nn,.string dd] 59))):=by rw[hht];exact hJ1
      replace hht:=zh hht;replace hcp:=zh hcp;replace hJ1:=zh hJ1
      gi_wp2
      refine⟨fun _ h=>(by cases h),?_⟩
      gi_wp2
      go_roundw
      case rel=>exact⟨k+1,by omega,by go_num,hJ4,hB1⟩
      case measure=>simp[intOf];omega
  · obtain rfl:k=s.cap.length:=by omega
    gi_wp2
    go_end0;exact⟨⟨_,rfl⟩,.inl ⟨_,rfl,hJs.out⟩⟩
theorem Fd (F:Fence) (n:Nat) (hf:F.fn 87) (hro:F.round=none) (hn:1≤n) (s:SR) (Ap Ac Av:Option Addr) (cp cc cv:Nat) (sb pb n₀:Nat) (p:Int)
 (w:World) (hc:InLk w Ac s.cap) (h63:s.cap.length≤140737488355328) (hn0:n₀≤w.heap.size) (hcb:0<s.cap.length→∀b o,Ac=some ⟨b,o,none⟩→b<n₀) (hpb:pb<w.heap.size)
 (hS:Bk w sb 25 [.slice Ap s.ps.length cp,.slice Ac s.cap.length cc,.slice Av s.vot.length cv]) (hP:w.cell? ⟨pb,0,none⟩=some (.int .i64 p)) :
 SeqStopsK F n Tryz.prog 87 #[.pointer (some ⟨sb,0,none⟩),.pointer (some ⟨pb,0,none⟩)] (fun x:E0 s.cap.length=>#[lkV (s.cap[x.1]'x.2)]) (Kq n₀ pb) (fun ys=>ys=Ek p s.cap s.cap.length)
  (fun pre=>∃k,k≤s.cap.length∧pre=Ek p s.cap k) s.cap.length w:=fun l J Jx W hW hJ _ hY h0 =>
 K2 F n hf hro hn s Ap Ac Av cp cc cv l sb pb n₀ p J Jx W hJ (hc.below hW) h63 (Nat.le_trans hn0 hW.size) hcb (Nat.lt_of_lt_of_le hpb hW.size) (hS.below hW) ((hW.cell (p:=⟨pb,0,none⟩) hpb).trans hP) hY h0
theorem G4 (s:SR) (Ap Ac Av:Option Addr) (cp cc cv:Nat) (p:Int) (w:World) :
 Calls Tryz.prog 40 #[.agg #[.slice Ap s.ps.length cp,.slice Ac s.cap.length cc,.slice Av s.vot.length cv],.int .i64 p] w fun e w' =>
  e=.returned (.func (.func 87) #[] #[.pointer (some ⟨w.heap.size,0,none⟩),.pointer (some ⟨w.heap.size+1,0,none⟩)]) ∧
  w'=(w.alloc (.cells #[.slice Ap s.ps.length cp,.slice Ac s.cap.length cc,.slice Av s.vot.length cv] 25)).alloc (.cells #[.int .i64 p] 3):=by
 go_enter Tryz.func40,Tryz.ntmps40;go_wp2;go_ret;exact⟨rfl,rfl⟩
end Bd
end
section
open Go.RowKit Go.Shelf
namespace Sh
open Nt Ci
theorem G5 (q:Rat):∃g n d,qv q=.agg #[.bool g,.string n,.string d]:=⟨_,_,_,rfl⟩
theorem QA (n:Int):ofQ n 1=(n:Rat):=by
 unfold ofQ;rw[show decide ((1:Int)<0)=false from rfl]
 have e:sg (!(decide (n<0)==false)) n.natAbs=n:=by
  have:=BW n
  cases h:decide (n<0) with
  | true=>rw[h]at this;exact this
  | false=>rw[h]at this;exact this
 rw[e];exact Rat.mkRat_one n
theorem II (k:Int) (hk:-10≤k∧k≤10) (w:World) (hE:Env w) :
 Calls Tryz.prog 53 #[.int .i64 k] w fun e w'=>e=.returned (qv (k:Rat))∧Below w.heap.size w w':=by
 obtain⟨g,n,d,hq⟩:=G5 (k:Rat);have hB2:Hid (Below w.heap.size w (w.alloc (.cells #[.bool false,.string ⟨#[]⟩,.string ⟨#[]⟩] 40))):=((Below.refl _ w).alloc (Nat.le_refl _) _);have hr2:Hid (Bk (w.alloc (.cells #[.bool false,.string ⟨#[]⟩,.string ⟨#[]⟩] 40)) (w.heap.size) 40 [.bool false,.string ⟨#[]⟩,.string ⟨#[]⟩]):=by have h:=Bk.new w 40 [.bool false,.string ⟨#[]⟩,.string ⟨#[]⟩]; exact h
 have ko:Hid (Calls Tryz.prog 96 #[.int .i64 k,.int .i64 1] (w.alloc (.cells #[.bool false,.string ⟨#[]⟩,.string ⟨#[]⟩] 40)) fun e w'=>e=.returned (.tuple #[.agg #[.bool g,.string n,.string d],.int .i64 0])∧Below ((w.alloc (.cells #[.bool false,.string ⟨#[]⟩,.string ⟨#[]⟩] 40))).heap.size (w.alloc (.cells #[.bool false,.string ⟨#[]⟩,.string ⟨#[]⟩] 40)) w'):=by have h:=NZ k 1 (by omega) (by omega) (by omega) (by omega) (by omega) (w.alloc (.cells #[.bool false,.string ⟨#[]⟩,.string ⟨#[]⟩] 40)) (hE.below hB2.out);rw[QA,hq]at h;exact h
 have u1:=hk.1;have u2:=hk.2;replace hE:=zh hE;go_enter Tryz.func53,Tryz.ntmps53
 go_wp2_with fail
 refine ko.out.mono ?_;rintro e w3 ⟨rfl,hb⟩;have hB3:=zh (hB2.out.trans (hb.mono hB2.out.size));have hr3:=zh (hr2.out.below hb);clear hb hB2 hr2 ko;have hB4:Hid (Below w.heap.size w (w3.alloc (.cells #[.bool g,.string n,.string d] 40))):=hB3.out.alloc hB3.out.size _;have hr4:=zh (hr3.out.alloc (.cells #[.bool g,.string n,.string d] 40));clear hB3 hr3;have hv4:Hid (Bk (w3.alloc (.cells #[.bool g,.string n,.string d] 40)) w3.heap.size 40 [.bool g,.string n,.string d]):=Bk.new _ _ _;have r0:=hr4.out.c0;have r1:=hr4.out.c1;have r2:=hr4.out.c2;have r9:=hr4.out.lt;have rf0:=hr4.out.frozen 0;have rf1:=hr4.out.frozen 1;have rf2:=hr4.out.frozen 2;have hBz:Hid (Below w.heap.size w ((((w3.alloc (.cells #[.bool g,.string n,.string d] 40)).setCell ⟨w.heap.size,0,none⟩ (.bool g)).setCell ⟨w.heap.size,1,none⟩ (.string n)).setCell ⟨w.heap.size,2,none⟩ (.string d))):=(((hB4.out.setCell (p:=⟨w.heap.size,0,none⟩) (Nat.le_refl _) _).setCell (p:=⟨w.heap.size,1,none⟩) (Nat.le_refl _) _).setCell (p:=⟨w.heap.size,2,none⟩) (Nat.le_refl _) _);have hRz:Hid (Bk ((((w3.alloc (.cells #[.bool g,.string n,.string d] 40)).setCell ⟨w.heap.size,0,none⟩ (.bool g)).setCell ⟨w.heap.size,1,none⟩ (.string n)).setCell ⟨w.heap.size,2,none⟩ (.string d)) (w.heap.size) 40 [.bool g,.string n,.string d]):=(Bk.set (Bk.set (Bk.set hr4.out 0 (.bool g)) 1 (.string n)) 2 (.string d));go_wp2
 (try simp only[Exit.inBlock,Exit.then])
 have s0:=hRz.out.c0;have s1:=hRz.out.c1;have s2:=hRz.out.c2;have s9:=hRz.out.lt;refine bodyPost_ret (v:=.agg #[.bool g,.string n,.string d]) (by simp[results,Tryz.results53,go_sem,s0,s1,s2]) rfl ⟨by rw[hq],hBz.out⟩
theorem Mb (s x y:Rat) (hs:ShortQ s) (hx:ShortQ x) (hy:ShortQ y) (hxy:ShortQ (x*y)) (w:World) (hE:Env w) :
 Calls Tryz.prog 97 #[qv s,qv x,qv y] w fun e w'=>e=.returned (qv (s+x*y))∧Below w.heap.size w w':=by
 obtain⟨g1,n1,d1,q1⟩:=G5 s;obtain⟨g2,n2,d2,q2⟩:=G5 x;obtain⟨g3,n3,d3,q3⟩:=G5 y;obtain⟨g4,n4,d4,q4⟩:=G5 (x*y);obtain⟨g5,n5,d5,q5⟩:=G5 (s+x*y);have km:Hid (∀W,Env W→Calls Tryz.prog 26 #[.agg #[.bool g2,.string n2,.string d2],.agg #[.bool g3,.string n3,.string d3]] W fun e w'=>e=.returned (.tuple #[.agg #[.bool g4,.string n4,.string d4],.int .i64 0])∧Below W.heap.size W w'):=fun W hW=>by have h:=EK x y hx hy W hW;rw[q2,q3,q4]at h;exact h
 have ka:Hid (∀W,Env W→Calls Tryz.prog 41 #[.agg #[.bool g1,.string n1,.string d1],.agg #[.bool g4,.string n4,.string d4]] W fun e w'=>e=.returned (.tuple #[.agg #[.bool g5,.string n5,.string d5],.int .i64 0])∧Below W.heap.size W w'):=fun W hW=>by have h:=I6 s (x*y) hs hxy W hW;rw[q1,q4,q5]at h;exact h
 rw[q1,q2,q3,q5];clear q1 q2 q3 q4 q5 hs hx hy hxy;have hB2:Hid (Below w.heap.size w ((((w.alloc (.cells #[.bool g1,.string n1,.string d1] 40)).alloc (.cells #[.bool g2,.string n2,.string d2] 40)).alloc (.cells #[.bool g3,.string n3,.string d3] 40)).alloc (.cells #[.bool false,.string ⟨#[]⟩,.string ⟨#[]⟩] 40))):=(((((Below.refl _ w).alloc (Nat.le_refl _) _).alloc (by simp) _).alloc (by simp;omega) _).alloc (by simp;omega) _);have ha2:Hid (Bk ((((w.alloc (.cells #[.bool g1,.string n1,.string d1] 40)).alloc (.cells #[.bool g2,.string n2,.string d2] 40)).alloc (.cells #[.bool g3,.string n3,.string d3] 40)).alloc (.cells #[.bool false,.string ⟨#[]⟩,.string ⟨#[]⟩] 40)) (w.heap.size) 40 [.bool g1,.string n1,.string d1]):=by have h:=Bk.new w 40 [.bool g1,.string n1,.string d1];have h:=h.alloc (.cells #[.bool g2,.string n2,.string d2] 40);have h:=h.alloc (.cells #[.bool g3,.string n3,.string d3] 40);have h:=h.alloc (.cells #[.bool false,.string ⟨#[]⟩,.string ⟨#[]⟩] 40); exact h
 have hb2:Hid (Bk ((((w.alloc (.cells #[.bool g1,.string n1,.string d1] 40)).alloc (.cells #[.bool g2,.string n2,.string d2] 40)).alloc (.cells #[.bool g3,.string n3,.string d3] 40)).alloc (.cells #[.bool false,.string ⟨#[]⟩,.string ⟨#[]⟩] 40)) (w.heap.size+1) 40 [.bool g2,.string n2,.string d2]):=by have h:=Bk.new (w.alloc (.cells #[.bool g1,.string n1,.string d1] 40)) 40 [.bool g2,.string n2,.string d2];have h:=h.alloc (.cells #[.bool g3,.string n3,.string d3] 40);have h:=h.alloc (.cells #[.bool false,.string ⟨#[]⟩,.string ⟨#[]⟩] 40);simp only[World.size_alloc]at h;exact h
 have hc2:Hid (Bk ((((w.alloc (.cells #[.bool g1,.string n1,.string d1] 40)).alloc (.cells #[.bool g2,.string n2,.string d2] 40)).alloc (.cells #[.bool g3,.string n3,.string d3] 40)).alloc (.cells #[.bool false,.string ⟨#[]⟩,.string ⟨#[]⟩] 40)) (w.heap.size+1+1) 40 [.bool g3,.string n3,.string d3]):=by have h:=Bk.new ((w.alloc (.cells #[.bool g1,.string n1,.string d1] 40)).alloc (.cells #[.bool g2,.string n2,.string d2] 40)) 40 [.bool g3,.string n3,.string d3];have h:=h.alloc (.cells #[.bool false,.string ⟨#[]⟩,.string ⟨#[]⟩] 40);simp only[World.size_alloc]at h;exact h
 have hr2:Hid (Bk ((((w.alloc (.cells #[.bool g1,.string n1,.string d1] 40)).alloc (.cells #[.bool g2,.string n2,.string d2] 40)).alloc (.cells #[.bool g3,.string n3,.string d3] 40)).alloc (.cells #[.bool false,.string ⟨#[]⟩,.string ⟨#[]⟩] 40)) (w.heap.size+1+1+1) 40 [.bool false,.string ⟨#[]⟩,.string ⟨#[]⟩]):=by have h:=Bk.new (((w.alloc (.cells #[.bool g1,.string n1,.string d1] 40)).alloc (.cells #[.bool g2,.string n2,.string d2] 40)).alloc (.cells #[.bool g3,.string n3,.string d3] 40)) 40 [.bool false,.string ⟨#[]⟩,.string ⟨#[]⟩];simp only[World.size_alloc]at h;exact h
 replace hE:=zh hE;have k1:=zh (km.out ((((w.alloc (.cells #[.bool g1,.string n1,.string d1] 40)).alloc (.cells #[.bool g2,.string n2,.string d2] 40)).alloc (.cells #[.bool g3,.string n3,.string d3] 40)).alloc (.cells #[.bool false,.string ⟨#[]⟩,.string ⟨#[]⟩] 40)) (hE.out.below hB2.out));have y0:=hb2.out.c0;have y1:=hb2.out.c1;have y2:=hb2.out.c2;have y9:=hb2.out.lt;have z0:=hc2.out.c0;have z1:=hc2.out.c1;have z2:=hc2.out.c2;have z9:=hc2.out.lt;go_enter Tryz.func97,Tryz.ntmps97
 go_wp2_with fail
 refine k1.out.mono ?_;rintro e w3 ⟨rfl,hb⟩;have hB3:=zh (hB2.out.trans (hb.mono hB2.out.size));have ha3:=zh (ha2.out.below hb);have hb3:=zh (hb2.out.below hb);have hc3:=zh (hc2.out.below hb);have hr3:=zh (hr2.out.below hb);clear hb hB2 ha2 hb2 hc2 hr2 k1 y0 y1 y2 y9 z0 z1 z2 z9;have hB4:Hid (Below w.heap.size w (w3.alloc (.cells #[.bool g4,.string n4,.string d4] 40))):=hB3.out.alloc hB3.out.size _;have ha4:=zh (ha3.out.alloc (.cells #[.bool g4,.string n4,.string d4] 40));have hb4:=zh (hb3.out.alloc (.cells #[.bool g4,.string n4,.string d4] 40));have hc4:=zh (hc3.out.alloc (.cells #[.bool g4,.string n4,.string d4] 40));have hr4:=zh (hr3.out.alloc (.cells #[.bool g4,.string n4,.string d4] 40));clear hB3 ha3 hb3 hc3 hr3;have hp4:Hid (Bk (w3.alloc (.cells #[.bool g4,.string n4,.string d4] 40)) w3.heap.size 40 [.bool g4,.string n4,.string d4]):=Bk.new _ _ _;have k2:=zh (ka.out (w3.alloc (.cells #[.bool g4,.string n4,.string d4] 40)) (hE.out.below hB4.out));have x0:=ha4.out.c0;have x1:=ha4.out.c1;have x2:=ha4.out.c2;have x9:=ha4.out.lt
 go_wp2_with fail
 refine k2.out.mono ?_;rintro e w5 ⟨rfl,hb⟩;have hB5:=zh (hB4.out.trans (hb.mono hB4.out.size));have ha5:=zh (ha4.out.below hb);have hb5:=zh (hb4.out.below hb);have hc5:=zh (hc4.out.below hb);have hr5:=zh (hr4.out.below hb);have hp5:=zh (hp4.out.below hb);clear hb hB4 ha4 hb4 hc4 hr4 hp4 k2 x0 x1 x2 x9;have x0:=ha5.out.c0;have x1:=ha5.out.c1;have x2:=ha5.out.c2;have x9:=ha5.out.lt;have xf0:=ha5.out.frozen 0;have xf1:=ha5.out.frozen 1;have xf2:=ha5.out.frozen 2;have hB6:Hid (Below w.heap.size w (((w5.setCell ⟨w.heap.size,0,none⟩ (.bool g5)).setCell ⟨w.heap.size,1,none⟩ (.string n5)).setCell ⟨w.heap.size,2,none⟩ (.string d5))):=(((hB5.out.setCell (p:=⟨w.heap.size,0,none⟩) (Nat.le_refl _) _).setCell (p:=⟨w.heap.size,1,none⟩) (Nat.le_refl _) _).setCell (p:=⟨w.heap.size,2,none⟩) (Nat.le_refl _) _);have ha6:=zh ((Bk.set (Bk.set (Bk.set ha5.out 0 (.bool g5)) 1 (.string n5)) 2 (.string d5)));have hr6:=zh ((((hr5.out.far (p:=⟨w.heap.size,0,none⟩) (by first | (simp only[];omega) | omega) (.bool g5)).far (p:=⟨w.heap.size,1,none⟩) (by first | (simp only[];omega) | omega) (.string n5)).far (p:=⟨w.heap.size,2,none⟩) (by first | (simp only[];omega) | omega) (.string d5)));clear hB5 ha5 hr5;have r0:=hr6.out.c0;have r1:=hr6.out.c1;have r2:=hr6.out.c2;have r9:=hr6.out.lt;have rf0:=hr6.out.frozen 0;have rf1:=hr6.out.frozen 1;have rf2:=hr6.out.frozen 2;have hBz:Hid (Below w.heap.size w ((((((w5.setCell ⟨w.heap.size,0,none⟩ (.bool g5)).setCell ⟨w.heap.size,1,none⟩ (.string n5)).setCell ⟨w.heap.size,2,none⟩ (.string d5)).setCell ⟨w.heap.size+1+1+1,0,none⟩ (.bool g5)).setCell ⟨w.heap.size+1+1+1,1,none⟩ (.string n5)).setCell ⟨w.heap.size+1+1+1,2,none⟩ (.string d5))):=(((hB6.out.setCell (p:=⟨w.heap.size+1+1+1,0,none⟩) (by simp only[];omega) _).setCell (p:=⟨w.heap.size+1+1+1,1,none⟩) (by simp only[];omega) _).setCell (p:=⟨w.heap.size+1+1+1,2,none⟩) (by simp only[];omega) _);have hRz:Hid (Bk ((((((w5.setCell ⟨w.heap.size,0,none⟩ (.bool g5)).setCell ⟨w.heap.size,1,none⟩ (.string n5)).setCell ⟨w.heap.size,2,none⟩ (.string d5)).setCell ⟨w.heap.size+1+1+1,0,none⟩ (.bool g5)).setCell ⟨w.heap.size+1+1+1,1,none⟩ (.string n5)).setCell ⟨w.heap.size+1+1+1,2,none⟩ (.string d5)) (w.heap.size+1+1+1) 40 [.bool g5,.string n5,.string d5]):=(Bk.set (Bk.set (Bk.set hr6.out 0 (.bool g5)) 1 (.string n5)) 2 (.string d5));go_wp2
 (try simp only[Exit.inBlock,Exit.then])
 have s0:=hRz.out.c0;have s1:=hRz.out.c1;have s2:=hRz.out.c2;have s9:=hRz.out.lt;refine bodyPost_ret (v:=.agg #[.bool g5,.string n5,.string d5]) (by simp[results,Tryz.results97,go_sem,s0,s1,s2]) rfl ⟨rfl,hBz.out⟩
end Sh
end
section
namespace Sh
open Nt
def IsI (x:Rat):Prop:=∃z:Int,x=(z:Rat)
theorem IsI.zero:IsI 0:=⟨0,by simp⟩
theorem IsI.one:IsI 1:=⟨1,by simp⟩
theorem IsI.add {x y:Rat} (h1:IsI x) (h2:IsI y):IsI (x+y):=by
 obtain⟨a,rfl⟩:=h1;obtain⟨b,rfl⟩:=h2;exact⟨a+b,by simp[Rat.intCast_add]⟩
theorem IsI.mul {x y:Rat} (h1:IsI x) (h2:IsI y):IsI (x*y):=by
 obtain⟨a,rfl⟩:=h1;obtain⟨b,rfl⟩:=h2;exact⟨a*b,by simp[Rat.intCast_mul]⟩
theorem IsI.neg {x:Rat} (h1:IsI x):IsI (-x):=by
 obtain⟨a,rfl⟩:=h1;exact⟨-a,by simp[Rat.intCast_neg]⟩
theorem IsI.sum {n:Nat} {f:Nat→Rat} (h:∀i,i<n→IsI (f i)):IsI (Am n f):=by
 induction n with
 | zero=>exact IsI.zero
 | succ n ih=>unfold Am;exact(ih fun i hi=>h i (by omega)).add (h n (by omega))
def skip (i r:Nat):Nat:=if r<i then r else r+1
def sgn:Nat→Rat
 | 0=>1
 | n+1=>- sgn n
theorem SJ (n:Nat):IsI (sgn n):=by
 induction n with
 | zero=>exact IsI.one
 | succ n ih=>exact ih.neg
def det:Nat→Mx→Rat
 | 0,_=>1
 | n+1,M=>Am (n+1) fun i=>sgn i*M i 0*det n fun r c=>M (skip i r) (c+1)
theorem DR:∀{n:Nat} {M N:Mx},(∀i j,i<n→j<n→M i j=N i j)→det n M=det n N:=by
 intro n
 induction n with
 | zero=>intros;rfl
 | succ n ih =>
   intro M N h;unfold det;apply Ao;intro i hi;rw[h i 0 hi (by omega),ih (M:=fun r c=>M (skip i r) (c+1)) (N:=fun r c=>N (skip i r) (c+1))];intro r c hr hc;exact h _ _ (by unfold skip;split<;>omega) (by omega)
def A7 (r:Nat) (u:Nat→Rat) (M:Mx):Mx:=fun i=>if i=r then u else M i
theorem J1 {i r:Nat} (h:r≠i):∃t,skip i t=r∧∀s,skip i s=r↔s=t:=by
 by_cases c:r<i
 · refine⟨r,by unfold skip;rw[if_pos c],fun s=>?_⟩;unfold skip;split<;>omega
 · refine⟨r-1,by unfold skip;rw[if_neg (by omega)];omega,fun s=>?_⟩;unfold skip;split<;>omega
theorem Dk {i:Nat} (u:Nat→Rat) (M:Mx):(fun r c=>A7 i u M (skip i r) (c+1))=fun r c=>M (skip i r) (c+1):=by
 funext r c
 unfold A7;rw[if_neg (by unfold skip;split<;>omega)]
theorem CG {i r t:Nat} (u:Nat→Rat) (M:Mx) (h:∀s,skip i s=r↔s=t):(fun s c=>A7 r u M (skip i s) (c+1))=A7 t (fun c=>u (c+1)) fun s c=>M (skip i s) (c+1):=by
 funext s c
 unfold A7
 by_cases e:s=t
 · rw[if_pos ((h s).2 e),if_pos e]
 · rw[if_neg (fun e2=>e ((h s).1 e2)),if_neg e]
theorem Na {i r t n:Nat} (h:skip i t=r) (hr:r<n+1) (hi:i<n+1) (_:r≠i):t<n:=by
 unfold skip at h;split at h<;>omega
theorem FE:∀{n r:Nat} (u v:Nat→Rat) (a b:Rat) (M:Mx),r<n→det n (A7 r (fun j=>a*u j+b*v j) M)=a*det n (A7 r u M)+b*det n (A7 r v M):=by
 intro n
 induction n with
 | zero=>intro r u v a b M h;omega
 | succ n ih =>
   intro r u v a b M hr;unfold det;rw[←AP,←AP,←Cx];apply Ao;intro i hi
   by_cases e:r=i
   · subst e;rw[Dk,Dk,Dk];unfold A7;rw[if_pos rfl,if_pos rfl,if_pos rfl];grind
   · obtain⟨t,h1,h2⟩:=J1 e;rw[CG _ _ h2,CG _ _ h2,CG _ _ h2,ih _ _ _ _ _ (Na h1 hr hi e)];unfold A7;rw[if_neg (fun h=>e h.symm),if_neg (fun h=>e h.symm),if_neg (fun h=>e h.symm)];grind
theorem Ox {n k:Nat} (f:Nat→Rat) (hk:k+1<n) (h:∀i,i<n→i≠k→i≠k+1→f i=0):Am n f=f k+f (k+1):=by
 induction n with
 | zero=>omega
 | succ n ih =>
   unfold Am
   by_cases e:k+1=n
   · subst e;rw[Ca (k:=k) f (by omega) fun i hi hne=>h i (by omega) hne (by omega)]
   · rw[ih (by omega) fun i hi a b=>h i (by omega) a b,h n (by omega) (by omega) (by omega)];grind
theorem Nb:∀{n r:Nat} {M:Mx},r+1<n→(∀j,j<n→M r j=M (r+1) j)→det n M=0:=by
 intro n
 induction n with
 | zero=>intro r M h;omega
 | succ n ih =>
   intro r M hr he;unfold det;rw[Ox (k:=r) _ hr]
   · have e1:det n (fun s c=>M (skip r s) (c+1))=det n (fun s c=>M (skip (r+1) s) (c+1)):=by
      apply DR;intro s c hs hc;unfold skip
      by_cases c1:s<r
      · rw[if_pos c1,if_pos (by omega)]
      · by_cases c2:s=r
        · subst c2;rw[if_neg (by omega),if_pos (by omega)];exact(he _ (by omega)).symm
        · rw[if_neg c1,if_neg (by omega)]
     rw[e1,he 0 (by omega)]
     show sgn r*_*_+(- sgn r)*_*_=0
     grind
   · intro i hi h1 h2;obtain⟨t,k1,k2⟩:=J1 (i:=i) (r:=r) (fun e=>h1 e.symm);obtain⟨t2,l1,l2⟩:=J1 (i:=i) (r:=r+1) (fun e=>h2 e.symm)
     have:t2=t+1:=by
      have a:skip i (t+1)=r+1:=by unfold skip at k1 ⊢;split at k1<;>split<;>omega
      exact((l2 _).1 a).symm
     subst this;have ht:t+1<n:=Na l1 hr hi (fun e=>h2 e.symm);rw[ih (r:=t) ht]
     · grind
     · intro j hj;rw[k1,l1];exact he _ (by omega)
theorem DS (r:Nat) (M:Mx):A7 r (M r) M=M:=by
 funext i
 unfold A7
 split
 · next h=>rw[h]
 · rfl
theorem Gg {r s:Nat} (h:r≠s) (u v:Nat→Rat) (M:Mx):A7 r u (A7 s v M)=A7 s v (A7 r u M):=by
 funext i
 unfold A7
 by_cases e1:i=r
 · rw[if_pos e1,if_neg (by omega),if_pos e1]
 · rw[if_neg e1]
   by_cases e2:i=s
   · rw[if_pos e2,if_pos e2]
   · rw[if_neg e2,if_neg e2,if_neg e1]
theorem Oy (r:Nat) (u v:Nat→Rat) (M:Mx):A7 r u (A7 r v M)=A7 r u M:=by
 funext i
 unfold A7
 split<;>rfl
theorem QB {n r:Nat} (u v:Nat→Rat) (M:Mx) (hr:r+1<n):det n (A7 r u (A7 (r+1) v M))=- det n (A7 r v (A7 (r+1) u M)):=by
 have z:∀x:Nat→Rat,det n (A7 r x (A7 (r+1) x M))=0:=fun x=>Nb hr fun j _=>by
  unfold A7;rw[if_pos rfl,if_neg (by omega),if_pos rfl]
 have l1:∀x y z:Nat→Rat,det n (A7 r (fun j=>1*x j+1*y j) (A7 (r+1) z M))=1*det n (A7 r x (A7 (r+1) z M))+1*det n (A7 r y (A7 (r+1) z M)):=fun x y z=>FE x y 1 1 _ (by omega)
 have l2:∀x y z:Nat→Rat,det n (A7 r z (A7 (r+1) (fun j=>1*x j+1*y j) M))=1*det n (A7 r z (A7 (r+1) x M))+1*det n (A7 r z (A7 (r+1) y M)):=fun x y z=>by
  rw[Gg (by omega),Gg (by omega) z x,Gg (by omega) z y];exact FE x y 1 1 _ hr
 have h:=z fun j=>1*u j+1*v j;rw[l1,l2,l2,z u,z v]at h;grind
theorem QC:∀{d n r:Nat} {M:Mx},r+1+d<n→(∀j,j<n→M r j=M (r+1+d) j)→det n M=0:=by
 intro d
 induction d with
 | zero=>intro n r M h he;exact Nb h he
 | succ d ih =>
   intro n r M h he
   have h1:M=A7 (r+1+d) (M (r+1+d)) (A7 (r+1+d+1) (M (r+1+(d+1))) M):=by
    have e1:=DS (r+1+d+1) M;rw[show r+1+(d+1)=r+1+d+1 by omega,e1,DS]
   rw[h1,QB _ _ _ (by omega),ih (r:=r) (by omega)]
   · rfl
   · intro j hj;unfold A7;rw[if_neg (by omega),if_neg (by omega),if_pos rfl];exact he j hj
theorem Nc {n r s:Nat} {M:Mx} (hr:r<n) (hs:s<n) (hne:r≠s) (he:∀j,j<n→M r j=M s j):det n M=0:=by
 by_cases c:r<s
 · exact QC (d:=s-r-1) (r:=r) (by omega) fun j hj=>by rw[show r+1+(s-r-1)=s by omega];exact he j hj
 · exact QC (d:=r-s-1) (r:=s) (by omega) fun j hj=>by rw[show s+1+(r-s-1)=r by omega];exact(he j hj).symm
theorem Mc {n r s:Nat} (c:Rat) (M:Mx) (hr:r<n) (hs:s<n) (hne:r≠s):det n (A7 r (fun j=>M r j+c*M s j) M)=det n M:=by
 have h:=FE (M r) (M s) 1 c M hr;rw[DS,Nc (M:=A7 r (M s) M) hr hs hne fun j _=>by unfold A7;rw[if_pos rfl,if_neg (fun e=>hne e.symm)]]at h;have e:(fun j=>M r j+c*M s j)=fun j=>1*M r j+c*M s j:=by funext j;rw[Rat.one_mul]
 rw[e,h];grind
theorem Ht {n r:Nat} (c:Rat) (M:Mx) (hr:r<n):det n (A7 r (fun j=>c*M r j) M)=c*det n M:=by
 have h:=FE (M r) (M r) c 0 M hr;rw[DS]at h;have e:(fun j=>c*M r j)=fun j=>c*M r j+0*M r j:=by funext j;grind
 rw[e,h];grind
theorem QD:∀(n:Nat) {M:Mx},(∀i j,i<n→j<n→M i j=if i=j then 1 else 0)→det n M=1:=by
 intro n
 induction n with
 | zero=>intros;rfl
 | succ n ih =>
   intro M h;unfold det;rw[Ca (k:=0) _ (by omega) fun i hi hne=>by rw[h i 0 hi (by omega),if_neg hne];grind];rw[h 0 0 (by omega) (by omega),if_pos rfl,ih]
   · show (1:Rat)*1*1=1
     grind
   · intro i j hi hj
     show M (i+1) (j+1)=_
     rw[h _ _ (by omega) (by omega)]
     by_cases e:i=j
     · rw[if_pos e,if_pos (by omega)]
     · rw[if_neg e,if_neg (by omega)]
theorem SK {n r:Nat} (M:Mx) (hr:r<n) (y:Nat→Rat) (R:Nat→Nat→Rat):∀m,det n (A7 r (fun j=>Am m fun l=>y l*R l j) M)=Am m fun l=>y l*det n (A7 r (R l) M):=by
 intro m
 induction m with
 | zero =>
   have h:=Ht 0 (A7 r (fun _=>0) M) hr;rw[Oy]at h;have e:(fun j=>0*A7 r (fun _=>0) M r j)=(fun _=>0):=by funext j;grind
   rw[e]at h
   show det n (A7 r (fun _=>0) M)=0
   rw[h];grind
 | succ m ih =>
   show det n (A7 r (fun j=>(Am m fun l=>y l*R l j)+y m*R m j) M)=_
   have e:(fun j=>(Am m fun l=>y l*R l j)+y m*R m j)=fun j=>1*(Am m fun l=>y l*R l j)+y m*R m j:=by funext j;grind
   rw[e,FE _ _ _ _ _ hr,ih]
   show _=(Am m fun l=>y l*det n (A7 r (R l) M))+y m*det n (A7 r (R m) M)
   grind
theorem TT {n i:Nat} (M:Mx) (y c:Nat→Rat) (hi:i<n) (h:∀j,j<n→Am n (fun l=>y l*M l j)=c j):y i*det n M=det n (A7 i c M):=by
 have h1:det n (A7 i c M)=det n (A7 i (fun j=>Am n fun l=>y l*M l j) M):=by
  apply DR;intro r j _ hj;unfold A7
  split
  · exact(h j hj).symm
  · rfl
 rw[h1,SK M hi,Ca (k:=i) _ hi fun l hl hne=>?_,DS];rw[Nc (M:=A7 i (M l) M) hi hl (fun e=>hne e.symm) fun j _=>by unfold A7;rw[if_pos rfl,if_neg hne]];grind
def Bb:Nat→(Nat→Rat)→Rat
 | 0,_=>1
 | n+1,f=>Bb n f*f n
theorem G6:∀{n i:Nat} (f:Nat→Rat),i<n+1→Bb (n+1) f=f i*Bb n fun r=>f (skip i r):=by
 intro n
 induction n with
 | zero => intro i f h;have:i=0:=by omega
           subst this;simp only[Bb];grind
 | succ n ih =>
   intro i f h
   by_cases e:i=n+1
   · subst e
     show Bb (n+1) f*f (n+1)=_
     have:Bb (n+1) (fun r=>f (skip (n+1) r))=Bb (n+1) f:=by
      have:∀m,m≤n+1→Bb m (fun r=>f (skip (n+1) r))=Bb m f:=by
       intro m
       induction m with
       | zero=>intro _;rfl
       | succ m ihm=>intro hm;unfold Bb;rw[ihm (by omega)];congr 1;show f (if m<n+1 then m else m+1)=f m;rw[if_pos (by omega)]
      exact this _ (Nat.le_refl _)
     rw[this];grind
   · show Bb (n+1) f*f (n+1)=_
     rw[ih f (by omega:i<n+1)]
     show _=f i*(Bb n (fun r=>f (skip i r))*f (skip i n))
     rw[show skip i n=n+1 by unfold skip;rw[if_neg (by omega)]];grind
theorem J2:∀{n:Nat} {s:Nat→Rat} {M:Mx},(∀i j,i<n→j<n→IsI (s i*M i j))→IsI (Bb n s*det n M):=by
 intro n
 induction n with
 | zero=>intro s M _;show IsI (1*1);rw[Rat.one_mul];exact IsI.one
 | succ n ih =>
   intro s M h;unfold det;rw[←AP];apply IsI.sum;intro i hi;rw[G6 s hi];have h1:=ih (s:=fun r=>s (skip i r)) (M:=fun r c=>M (skip i r) (c+1)) fun a b ha hb=>h _ _ (by unfold skip;split<;>omega) (by omega);have h2:=((SJ i).mul (h i 0 hi (by omega))).mul h1;have e:s i*Bb n (fun r=>s (skip i r))*(sgn i*M i 0*det n fun r c=>M (skip i r) (c+1))=sgn i*(s i*M i 0)*(Bb n (fun r=>s (skip i r))*det n fun r c=>M (skip i r) (c+1)):=by grind
   rw[e];exact h2
end Sh
end
section
namespace Sh
open Nt
theorem Hu {n:Nat} {f g:Nat→Rat} (h:∀i,i<n→f i≤g i):Am n f≤Am n g:=by
 induction n with
 | zero=>exact Rat.le_refl
 | succ n ih =>
   unfold Am;have h1:=ih fun i hi=>h i (by omega);have h2:=h n (by omega);grind
theorem EA {n k:Nat} (f:Nat→Rat) (hk:k<n):Am n f=f k+Am n fun j=>if j=k then 0 else f j:=by
 induction n with
 | zero=>omega
 | succ n ih =>
   show Am n f+f n=f k+((Am n fun j=>if j=k then 0 else f j)+(if n=k then 0 else f n))
   by_cases e:k=n
   · subst e;rw[if_pos rfl,Ao (g:=f) (f:=fun j=>if j=k then 0 else f j) fun i hi=>if_neg (by omega)];grind
   · rw[if_neg (by omega),ih (by omega)];grind
theorem Hv {a b:Rat} (h1:a≤0) (h2:0≤b):a*b≤0:=by
 have:=Rat.mul_nonneg (a:=-a) (b:=b) (by grind) h2;grind
def Cg (k:Nat) (M:Mx):Mx:=fun i j=>if i=k then M k j*(M k k)⁻¹ else M i j-M i k*(M k j*(M k k)⁻¹)
structure Shs (n:Nat) (M:Mx) (v:Nat→Rat):Prop where
 le1:∀i,i<n→M i i≤1
 off:∀i j,i<n→j<n→j≠i→M i j≤0
 rhs:∀i,i<n→0≤M i n
 slack:∀i,i<n→M i n≤Am n (M i)
 pos:∀i,i<n→0<Am n fun j=>M i j*v j
 vnn:∀j,j<n→0≤v j
theorem Shs.piv {n k:Nat} {M:Mx} {v:Nat→Rat} (h:Shs n M v) (hk:k<n):0<M k k:=by
 have h1:=h.pos k hk;rw[EA _ hk]at h1
 have h2:(Am n fun j=>if j=k then 0 else M k j*v j)≤0:=by
  have:=Hu (n:=n) (f:=fun j=>if j=k then 0 else M k j*v j) (g:=fun _=>0) fun j hj=>by
   split
   · exact Rat.le_refl
   · next e=>exact Hv (h.off k j hk hj e) (h.vnn j hj)
  rw[Cw fun _ _=>rfl]at this;exact this
 by_cases c:0<M k k
 · exact c
 · have:=Hv (Rat.not_lt.1 c) (h.vnn k hk);grind
theorem inv_pos {p:Rat} (h:0<p):0<p⁻¹:=Rat.inv_pos.2 h
theorem Shs.step {n k:Nat} {M:Mx} {v:Nat→Rat} (h:Shs n M v) (hk:k<n):Shs n (Cg k M) v:=by
 have hp:=h.piv hk;have hq:=inv_pos hp;have hpq:M k k*(M k k)⁻¹=1:=Rat.mul_inv_cancel _ (by grind);have rowk:∀j,Cg k M k j=(M k k)⁻¹*M k j:=fun j=>by unfold Cg;rw[if_pos rfl];grind
 have rowi:∀i j,i≠k→Cg k M i j=M i j+(- M i k*(M k k)⁻¹)*M k j:=fun i j e=>by unfold Cg;rw[if_neg e];grind
 have hf:∀i,i<n→i≠k→0 ≤-M i k*(M k k)⁻¹:=fun i hi e=>Rat.mul_nonneg (by have:=h.off i k hi hk (fun a=>e a.symm);grind) (Rat.le_of_lt hq);refine⟨fun i hi=>?_,fun i j hi hj hne=>?_,fun i hi=>?_,fun i hi=>?_,fun i hi=>?_,h.vnn⟩
 · by_cases e:i=k
   · subst e;rw[rowk,Rat.mul_comm,hpq];exact Rat.le_refl
   · rw[rowi i i e];have h1:=h.le1 i hi;have h2:=Hv (h.off k i hk hi e) (hf i hi e);grind
 · by_cases e:i=k
   · subst e;rw[rowk];have:=Hv (h.off i j hi hj hne) (Rat.le_of_lt hq);grind
   · rw [rowi i j e]
     by_cases e2:j=k
     · subst e2;have e3:M i j+-M i j*(M j j)⁻¹*M j j=M i j-M i j*(M j j*(M j j)⁻¹):=by grind
       rw[e3,hpq];grind
     · have h1:=h.off i j hi hj hne;have h2:=Hv (h.off k j hk hj e2) (hf i hi e);grind
 · by_cases e:i=k
   · subst e;rw[rowk];exact Rat.mul_nonneg (Rat.le_of_lt hq) (h.rhs i hi)
   · rw[rowi i n e];have h1:=h.rhs i hi;have h2:=Rat.mul_nonneg (hf i hi e) (h.rhs k hk);grind
 · by_cases e:i=k
   · subst e;rw[rowk,Ao fun j _=>rowk j,AP];exact Rat.mul_le_mul_of_nonneg_left (h.slack i hi) (Rat.le_of_lt hq)
   · rw[rowi i n e,Ao fun j _=>rowi i j e,Cx,AP];have h1:=h.slack i hi;have h2:=Rat.mul_le_mul_of_nonneg_left (h.slack k hk) (hf i hi e);have h3:Am n (M i)=Am n fun j=>M i j:=rfl;have h4:Am n (M k)=Am n fun j=>M k j:=rfl;rw[h3]at h1;rw[h4]at h2;grind
 · by_cases e:i=k
   · subst e;rw[Ao (g:=fun j=>(M i i)⁻¹*(M i j*v j)) fun j _=>by rw[rowk];grind,AP];exact Rat.mul_pos hq (h.pos i hi)
   · rw[Ao (g:=fun j=>M i j*v j+(- M i k*(M k k)⁻¹)*(M k j*v j)) fun j _=>by rw[rowi i j e];grind,Cx,AP];have h1:=h.pos i hi;have h2:=Rat.mul_nonneg (hf i hi e) (Rat.le_of_lt (h.pos k hk));grind
theorem Shs.diag {n i:Nat} {M:Mx} {v:Nat→Rat} (h:Shs n M v) (hi:i<n):0≤M i i∧M i n≤M i i∧∀j,j<n→- M i i≤M i j:=by
 have h1:=h.slack i hi;have h2:=h.rhs i hi;rw[EA _ hi]at h1
 have h3:(Am n fun j=>if j=i then 0 else M i j)≤0:=by
  have:=Hu (n:=n) (f:=fun j=>if j=i then 0 else M i j) (g:=fun _=>0) fun j hj=>by
   split
   · exact Rat.le_refl
   · next e=>exact h.off i j hi hj e
  rw[Cw fun _ _=>rfl]at this;exact this
 refine⟨by grind,by grind,fun j hj=>?_⟩
 by_cases e:j=i
 · subst e;grind
 · rw [EA _ hj,if_neg e]at h1
   have h4:(Am n fun t=>if t=j then 0 else if t=i then 0 else M i t)≤0:=by
    have:=Hu (n:=n) (f:=fun t=>if t=j then 0 else if t=i then 0 else M i t) (g:=fun _=>0) fun t ht=>by
     split
     · exact Rat.le_refl
     · split
       · exact Rat.le_refl
       · next e=>exact h.off i t hi ht e
    rw[Cw fun _ _=>rfl]at this;exact this
   grind
theorem Shs.abs {n i j:Nat} {M:Mx} {v:Nat→Rat} (h:Shs n M v) (hi:i<n) (hj:j≤n):-1≤M i j∧M i j≤1:=by
 obtain⟨h1,h2,h3⟩:=h.diag hi;have h4:=h.le1 i hi
 by_cases e:j=n
 · subst e;have:=h.rhs i hi;grind
 · have h5:=h3 j (by omega)
   by_cases e2:j=i
   · subst e2;grind
   · have:=h.off i j hi (by omega) e2;grind
structure Mad (n k:Nat) (A M:Mx):Prop where
 unit:Unit n k M
 comb:∀i,i<n→∃y:Nat→Rat,(∀l,k≤l→y l=0)∧∀j,j≤n→M i j=(if i<k then 0 else A i j)+Am k fun l=>y l*A l j
 dets:∃P:Rat,0<P∧P≤1∧∀K,k≤K→K≤n→det K A=P*det K M
theorem Mad.start (n:Nat) (A:Mx):Mad n 0 A A:=by
 refine⟨fun i j _ h=>absurd h (by omega),fun i _=>⟨fun _=>0,fun _ _=>rfl,fun j _=>?_⟩,1,by decide,by decide,fun K _ _=>(Rat.one_mul _).symm⟩;rw[if_neg (by omega)];exact(Rat.add_zero _).symm
def G7 (k m:Nat) (M:Mx):Mx:=fun i j=>if i=k then M k j*(M k k)⁻¹ else if i<m then M i j-M i k*(M k j*(M k k)⁻¹) else M i j
theorem Oz {n k K:Nat} {M:Mx} (hk:k<K) (_:K≤n):∀m,det K (G7 k m M)=(M k k)⁻¹*det K M:=by
 intro m
 induction m with
 | zero =>
   rw[←Ht _ M hk]
   congr 1
   funext i j
   unfold G7 A7
   by_cases e:i=k
   · rw[if_pos e,if_pos e,Rat.mul_comm]
   · rw[if_neg e,if_neg (by omega),if_neg e]
 | succ m ih =>
   rw[←ih]
   by_cases e:m=k
   · congr 1
     funext i j
     unfold G7
     by_cases e2:i=k
     · rw[if_pos e2,if_pos e2]
     · rw[if_neg e2,if_neg e2]
       by_cases c:i<m
       · rw[if_pos (by omega),if_pos c]
       · rw[if_neg (by omega),if_neg c]
   · by_cases c:m<K
     · rw [←Mc (r:=m) (s:=k) (- M m k) (G7 k m M) c hk e]
       congr 1
       funext i j
       unfold A7
       by_cases e2:i=m
       · subst e2;unfold G7;simp only[if_neg e,if_neg (Nat.lt_irrefl _),if_pos (Nat.lt_succ_self _)];simp only[if_true];grind
       · rw [if_neg e2];unfold G7
         by_cases e3:i=k
         · rw[if_pos e3,if_pos e3]
         · rw[if_neg e3,if_neg e3]
           by_cases c2:i<m
           · rw[if_pos (by omega),if_pos c2]
           · rw[if_neg (by omega),if_neg c2]
     · apply DR;intro i j hi hj;unfold G7
       by_cases e3:i=k
       · rw[if_pos e3,if_pos e3]
       · rw[if_neg e3,if_neg e3,if_pos (by omega),if_pos (by omega)]
theorem O0 {n k K:Nat} {M:Mx} (hk:k<K) (hK:K≤n):det K (Cg k M)=(M k k)⁻¹*det K M:=by
 rw[←Oz (n:=n) hk hK K];apply DR;intro i j hi _;unfold G7 Cg
 by_cases e:i=k
 · rw[if_pos e,if_pos e]
 · rw[if_neg e,if_neg e,if_pos hi]
theorem Mad.step {n k:Nat} {A M:Mx} {v:Nat→Rat} (h:Mad n k A M) (hs:Shs n M v) (hk:k<n):Mad n (k+1) A (Cg k M):=by
 have hp:=hs.piv hk;have hpq:M k k*(M k k)⁻¹=1:=Rat.mul_inv_cancel _ (by grind);have hz:=h.unit.zeros hk (Nat.le_refl _);refine⟨fun i j hi hj=>?_,fun i hi=>?_,?_⟩
 · unfold Cg
   by_cases e:j=k
   · subst e
     by_cases e2:i=j
     · rw[if_pos e2,if_pos e2,hpq]
     · rw[if_neg e2,if_neg e2,hpq];grind
   · rw[hz j (by omega)]
     by_cases e2:i=k
     · rw[if_pos e2,if_neg (by omega)];grind
     · rw[if_neg e2,h.unit i j hi (by omega)];grind
 · obtain ⟨yk,k1,k2⟩:=h.comb k hk;have k2:∀j,j≤n→M k j=A k j+Am k fun l=>yk l*A l j:=fun j hj=>by have:=k2 j hj;rwa [if_neg (Nat.lt_irrefl _)]at this
   by_cases e:i=k
   · subst e;refine⟨fun l=>if l=i then (M i i)⁻¹ else (M i i)⁻¹*yk l,fun l hl=>?_,fun j hj=>?_⟩
     · dsimp only;rw[if_neg (by omega),k1 l (by omega)];grind
     · rw[if_pos (by omega)];unfold Cg;rw[if_pos rfl]
       show _=0+((Am i fun l=>(if l=i then (M i i)⁻¹ else (M i i)⁻¹*yk l)*A l j)+(if i=i then (M i i)⁻¹ else (M i i)⁻¹*yk i)*A i j)
       rw[if_pos rfl,Ao (g:=fun l=>(M i i)⁻¹*(yk l*A l j)) fun l hl=>by rw[if_neg (by omega)];grind,AP];have:=k2 j hj;grind
   · obtain ⟨y,h1,h2⟩:=h.comb i hi;refine⟨fun l=>if l=k then-M i k*(M k k)⁻¹ else y l+(- M i k*(M k k)⁻¹)*yk l,fun l hl=>?_,fun j hj=>?_⟩
     · dsimp only;rw[if_neg (by omega),k1 l (by omega),h1 l (by omega)];grind
     · have e1:(if i<k+1 then 0 else A i j)=(if i<k then 0 else A i j):=by
        by_cases c:i<k
        · rw[if_pos c,if_pos (by omega)]
        · rw[if_neg c,if_neg (by omega)]
       rw[e1];unfold Cg;rw[if_neg e]
       show _=_+((Am k fun l=>(if l=k then-M i k*(M k k)⁻¹ else y l+(- M i k*(M k k)⁻¹)*yk l)*A l j)+(if k=k then-M i k*(M k k)⁻¹ else y k+(- M i k*(M k k)⁻¹)*yk k)*A k j)
       rw[if_pos rfl,Ao (g:=fun l=>y l*A l j+(- M i k*(M k k)⁻¹)*(yk l*A l j)) fun l hl=>by rw[if_neg (by omega)];grind,Cx,AP];have a:=k2 j hj;have b:=h2 j hj;grind
 · obtain ⟨P,p1,p2,p3⟩:=h.dets;refine⟨P*M k k,Rat.mul_pos p1 hp,?_,fun K h1 h2=>?_⟩
   · have h1:=hs.le1 k hk;have h2:=Rat.mul_le_mul_of_nonneg_left h1 (Rat.le_of_lt p1);grind
   · rw[p3 K (by omega) h2,O0 (n:=n) (by omega) h2,Rat.mul_assoc,←Rat.mul_assoc (M k k),hpq,Rat.one_mul]
theorem Mad.det_k {n k:Nat} {A M:Mx} (h:Mad n k A M) (hk:k≤n):0<det k A∧det k A≤1:=by
 obtain⟨P,p1,p2,p3⟩:=h.dets;have:=p3 k (Nat.le_refl _) hk;rw[QD k fun i j hi hj=>h.unit i j (by omega) hj,Rat.mul_one]at this;rw[this];exact⟨p1,p2⟩
theorem El (c:Rat) (n:Nat):Bb n (fun _=>c)=c^n:=by
 induction n with
 | zero=>exact(Rat.pow_zero c).symm
 | succ n ih=>rw[Bb,ih,Rat.pow_succ]
theorem J3 {n:Nat} {f g:Nat→Rat} (h:∀i,i<n→f i=g i):Bb n f=Bb n g:=by
 induction n with
 | zero=>rfl
 | succ n ih=>rw[Bb,Bb,ih fun i hi=>h i (by omega),h n (by omega)]
theorem K4 {n k l:Nat} {A:Mx} {c:Rat} (hA:∀i j,i<n→j<n→IsI (c*A i j)) (hk:k≤n) (y r:Nat→Rat) (t:Rat) (hl:l<k) (ht:∀j,j<k→IsI (t*r j)) (h:∀j,j<k→(Am k fun l=>y l*A l j)=r j) :
 IsI (y l*(c^(k-1)*t*det k A)):=by
 have h1:=TT A y r hl h
 have h2:=J2 (n:=k) (s:=fun i=>if i=l then t else c) (M:=A7 l r A) fun i j hi hj=>by
  unfold A7
  by_cases e:i=l
  · rw[if_pos e,if_pos e];exact ht j hj
  · rw[if_neg e,if_neg e];exact hA i j (by omega) (by omega)
 have h3:Bb k (fun i=>if i=l then t else c)=c^(k-1)*t:=by
  obtain⟨m,rfl⟩:∃m,k=m+1:=⟨k-1,by omega⟩;rw[G6 _ hl,if_pos rfl,J3 (g:=fun _=>c) fun i hi=>if_neg (by unfold skip;split<;>omega),El,Nat.add_sub_cancel,Rat.mul_comm]
 rw[h3,←h1]at h2;have e:c^(k-1)*t*(y l*det k A)=y l*(c^(k-1)*t*det k A):=by grind
 rwa [e]at h2
theorem K7 (c:Rat) {k:Nat} (h:0<k):c^(k-1)*c=c^k:=by
 obtain⟨m,rfl⟩:∃m,k=m+1:=⟨k-1,by omega⟩;rw[Nat.add_sub_cancel,Rat.pow_succ]
theorem Mad.int_top {n k i j:Nat} {A M:Mx} {c D:Rat} (h:Mad n k A M) (hk:k≤n) (hA:∀i j,i<n→j<n→IsI (c*A i j)) (hb:∀i,i<n→IsI (c*D*A i n)) (hD:IsI D) (hi:i<k) (hj:j≤n):IsI (c^k*det k A*D*M i j):=by
 obtain⟨y,h1,h2⟩:=h.comb i (by omega)
 have h3:∀l,l<k→IsI (y l*(c^(k-1)*1*det k A)):=fun l hl=>K4 hA hk y (fun j=>if i=j then 1 else 0) 1 hl (fun j _=>by split;(· rw[Rat.one_mul];exact IsI.one);(· rw[Rat.one_mul];exact IsI.zero)) fun j hj=>by
  have:=h2 j (by omega);rw[h.unit i j (by omega) hj,if_pos hi,Rat.zero_add]at this;exact this.symm
 rw[h2 j hj,if_pos hi,Rat.zero_add,←AP];apply IsI.sum;intro l hl;have h4:=h3 l hl
 have h5:IsI (c*D*A l j):=by
  by_cases e:j=n
  · rw[e];exact hb l (by omega)
  · have:=(hA l j (by omega) (by omega)).mul hD;have e2:c*A l j*D=c*D*A l j:=by grind
    rwa [e2]at this
 have h6:=h4.mul h5;have e:y l*(c^(k-1)*1*det k A)*(c*D*A l j)=c^(k-1)*c*det k A*D*(y l*A l j):=by grind
 rw[e,K7 c (by omega)]at h6;exact h6
theorem Mad.int_all {n k i j:Nat} {A M:Mx} {c D:Rat} (h:Mad n k A M) (hk:k≤n) (hc:IsI c) (hA:∀i j,i<n→j<n→IsI (c*A i j)) (hb:∀i,i<n→IsI (c*D*A i n)) (hD:IsI D) (hi:i<n) (hj:j≤n):IsI (c^k*det k A*(c*D)*M i j):=by
 by_cases hik:i<k
 · have h1:=(h.int_top hk hA hb hD hik hj).mul hc;have e:c^k*det k A*D*M i j*c=c^k*det k A*(c*D)*M i j:=by grind
   rwa [e]at h1
 · obtain ⟨y,h1,h2⟩:=h.comb i hi
   have h3:∀l,l<k→IsI (y l*(c^(k-1)*c*det k A)):=fun l hl=>K4 hA hk y (fun j=>- A i j) c hl (fun j hj=>by
    have:=(hA i j hi (by omega)).neg;have e:-(c*A i j)=c*(- A i j):=by grind
    rwa [e]at this) fun j hj=>by
    have:=h2 j (by omega);rw[h.unit i j hi hj,if_neg (by omega),if_neg hik]at this;grind
   have h5:∀l,l<n→IsI (c*D*A l j):=fun l hl=>by
    by_cases e:j=n
    · rw[e];exact hb l hl
    · have:=(hA l j hl (by omega)).mul hD;have e2:c*A l j*D=c*D*A l j:=by grind
      rwa [e2]at this
   have hdet:IsI (c^k*det k A):=by
    have:=J2 (n:=k) (s:=fun _=>c) (M:=A) fun i j hi hj=>hA i j (by omega) (by omega)
    rwa [El]at this
   rw[h2 j hj,if_neg hik];have e:c^k*det k A*(c*D)*(A i j+Am k fun l=>y l*A l j)=c^k*det k A*(c*D*A i j)+(c^k*det k A*(c*D))*Am k fun l=>y l*A l j:=by grind
   rw[e,←AP];refine(hdet.mul (h5 i hi)).add (IsI.sum fun l hl=>?_);have h6:=(h3 l hl).mul (h5 l (by omega));have e:y l*(c^(k-1)*c*det k A)*(c*D*A l j)=c^(k-1)*c*det k A*(c*D)*(y l*A l j):=by grind
   rwa [e,K7 c (by omega)]at h6
end Sh
end
end Go.Proofs.YtilodknkildkbaaGreatDoor

/- Texts that the proof needs: LinB, LinC, ShaDet, ShaElim, ShaSys, ShaPlain, ShaRun, CirLaws, ShaComp, ShaCap. -/
import Derived.BigRegion
import Derived.RegionTactic
import Derived.Deep.QuietTactic
import Derived.BigQuiet
import Derived.Deep.RegionHeld3
import Derived.IntWalk
import Derived.Deep.OwnRows
import Derived.Test.YtioidbebjgeahaaGreatDoorKtA
import Derived.Test.YtioidbebjgeahaaGreatDoorKtB
import Derived.Test.YtioidbebjgeahaaGreatDoorKtC
import Derived.Test.YtioidbebjgeahaaGreatDoorKtD
set_option maxHeartbeats 16000000
set_option maxRecDepth 1000000
namespace Go.Proofs.YtioidbebjgeahaaGreatDoor
section
open Go.RowKit Go.Shelf
namespace Nt
def loopsOf:Code→List Code
 | .loop c=>c::loopsOf c
 | .seq a b=>loopsOf a++loopsOf b
 | .block _ c=>loopsOf c
 | .scope c=>loopsOf c
 | .cond _ a b=>loopsOf a++loopsOf b
 | _=>[]
noncomputable def body3:Code:=((Tryz.f49.body.map loopsOf).bind fun l=>l[2]?).getD .skip
def SQ (q:Rat):Bool:=decide (ShortQ q)
def SolvePost (n:Nat) (M0:Mx) (w:World) (e:Ending) (w':World):Prop :=
 Below w.heap.size w w'∧((∃M v,solveTo SQ n n M0=.ok M∧e=.returned (.tuple #[v,.int .i64 0])∧w'.ownsRow w.heap.size 37 3 v n (rowL n fun i=>rq (M i n)))∨(∃er:Int,solveTo SQ n n M0=.error er∧e=.returned (.tuple #[.slice none 0 0,.int .i64 er])))
theorem solve_err {S:Rat→Bool} {n k:Nat} {M0 M:Mx} {e:Int} (h:solveTo S n k M0=.ok M) (hs:stepK S n k M=.error e) (hk:k<n):solveTo S n n M0=.error e:=by
 have key:∀m,k+1≤m→solveTo S n m M0=.error e:=by
  intro m
  induction m with
  | zero=>intro h;omega
  | succ m ih =>
    intro hm;unfold solveTo
    by_cases e1:m=k
    · rw[e1,h];exact hs
    · rw[ih (by omega)];rfl
 exact key n hk
theorem first_bad {P:Nat→Prop} {k n:Nat} (h:¬∀j,k≤j→j≤n→P j):∃t,k≤t∧t≤n∧(∀j,k≤j→j<t→P j)∧¬P t:=by
 have key : ∀m,(∀j,k≤j→j<m→P j)∨∃t,k≤t∧t<m∧(∀j,k≤j→j<t→P j)∧¬P t:=by
  intro m
  induction m with
  | zero=>exact .inl fun j _ h=>absurd h (by omega)
  | succ m ih =>
    rcases ih with ih | ⟨t,a,b,c,d⟩
    · by_cases hm:k≤m
      · by_cases hp:P m
        · refine .inl fun j h1 h2=>?_
          by_cases e:j=m
          · rw[e];exact hp
          · exact ih j h1 (by omega)
        · exact .inr ⟨m,hm,by omega,ih,hp⟩
      · exact .inl fun j h1 h2=>ih j h1 (by omega)
    · exact .inr ⟨t,a,by omega,c,d⟩
 rcases key (n+1) with h1 | ⟨t,a,b,c,d⟩
 · exact absurd (fun j a b=>h1 j a (by omega)) h
 · exact⟨t,a,by omega,c,d⟩
theorem okDiv_bad {n k:Nat} {M:Mx} (h:okDiv SQ n k M=false):∃t,k≤t∧t≤n∧(∀j,k≤j→j<t→ShortQ (M k j)∧ShortQ (M k k))∧¬(ShortQ (M k t)∧ShortQ (M k k)):=by
 refine first_bad fun h2=>?_;have:okDiv SQ n k M=true:=(okDiv_iff SQ).2 fun j a b=>⟨decide_eq_true (h2 j a b).1,decide_eq_true (h2 j a b).2⟩;rw[h]at this;cases this
theorem okSub_bad {n k i:Nat} {M:Mx} (h:okSub SQ n k i M=false):∃t,k≤t∧t≤n∧(∀j,k≤j→j<t→ShortQ (M i k)∧ShortQ (M k j)∧ShortQ (M i j)∧ShortQ (M i k*M k j))∧¬(ShortQ (M i k)∧ShortQ (M k t)∧ShortQ (M i t)∧ShortQ (M i k*M k t)):=by
 refine first_bad fun h2=>?_;have:okSub SQ n k i M=true:=(okSub_iff SQ).2 fun j a b=>⟨decide_eq_true (h2 j a b).1,decide_eq_true (h2 j a b).2.1,decide_eq_true (h2 j a b).2.2.1,decide_eq_true (h2 j a b).2.2.2⟩;rw[h]at this;cases this
theorem MatW.drewN {W:World} {B R n:Nat} {bl:Nat→Nat} {M:Mx} (h:MatW W B R n bl M) (q:Nat):MatW (W.drewN q) B R n bl M:=⟨h.lt,h.hd,h.fr,h.rows,h.inj,h.ne,h.lowR,h.low⟩
theorem elim_none {S:Rat→Bool} {n k i m:Nat} {M:Mx} (him:i≤m) (h:elimTo S n k i M=none):elimTo S n k m M=none:=by
 induction m with
 | zero=>rw[show i=0 by omega]at h;exact h
 | succ m ih =>
   by_cases e:i=m+1
   · rw[←e];exact h
   · unfold elimTo;rw[ih (by omega)];rfl
def InRel (w:World) (R n k kb vb:Nat) (bl:Nat→Nat) (M2:Mx) (y:Nat) (wq:World):Prop :=
 ∃M3:Mx,Hid (elimTo SQ n k y M2=some M3)∧Hid (MatW wq w.heap.size R n bl M3)∧Hid (∀i j,i<n→j≤n→OkQ (M3 i j))∧Hid (Below w.heap.size w wq)∧Hid (Int1 wq w.heap.size n)∧Hid (Int1 wq kb k)∧Hid (Blk1 wq vb (.slice (some ⟨bl k,k*3,none⟩) (n+1-k) (n+1-k)))
theorem inner_loop {c0 c1 c2 c3 c6 c7 c8 c10 c12 c13 c18 c19 c20 c21 c22 c23 c24 c25 c26 c27 c28 c29 c30 c31 c32 c33 c34 c35 c36 c37 c38 c39 c40 c41 c42 c43 c44 c45 c46 c47 c48 c49 c50 c51 c52 c53 c54 c55 c56 c57 c58 c59 c60 c61 c62 c63 c64 c65 c66 c67 c68 c69 c70 c71 c72 c73 c74 c75 c76 c77 c78 c79 c80 c81 c82 c83 c84 c85 c86 c87 c88 c89 c90 c91 c92 c93 c94 c95 c96 c97 c98 c99 c100 c101 c102 c103 c104 c105 c106 c107 c108 c109 c110 c111 c112 c113 c114 c115 c116 c145 c146 c147 c148 c149 c150 c151 c152 c153 c154 c155 c156 c157 c158 c159 c160 a4 a5 a14 a15 a16 a17 a120 a121 a122 a123 a124 a125 a126 a127 a128 a129 a130 a131 a132 a133 a134 a135 a136 a137 a138 a139 a140 a141 a142 a143 a144:Value} {Q:Exit→Act→World→Prop} (R n k kb vb:Nat) (bl:Nat→Nat) (M2:Mx) (w w0:World) (hE:Env w) (hn8:n≤8) (hk:k<n) (hst:InRel w R n k kb vb bl M2 0 w0)
 (hx:∀(u4 u5 u14 u15 u16 u17 u119 u120 u121 u122 u123 u124 u125 u126 u127 u128 u129 u130 u131 u132 u133 u134 u135 u136 u137 u138 u139 u140 u141 u142 u143 u144:Value) (wq:World),InRel w R n k kb vb bl M2 n wq→Q (.exit 4) ⟨#[c0,c1,c2,c3,u4,u5,c6,c7,c8,.pointer (some ⟨kb,0,none⟩),c10,.pointer (some ⟨vb,0,none⟩),c12,c13,u14,u15,u16,u17,c18,c19,c20,c21,c22,c23,c24,c25,c26,c27,c28,c29,c30,c31,c32,c33,c34,c35,c36,c37,c38,c39,c40,c41,c42,c43,c44,c45,c46,c47,c48,c49,c50,c51,c52,c53,c54,c55,c56,c57,c58,c59,c60,c61,c62,c63,c64,c65,c66,c67,c68,c69,c70,c71,c72,c73,c74,c75,c76,c77,c78,c79,c80,c81,c82,c83,c84,c85,c86,c87,c88,c89,c90,c91,c92,c93,c94,c95,c96,c97,c98,c99,c100,c101,c102,c103,c104,c105,c106,c107,c108,c109,c110,c111,c112,c113,c114,c115,c116,.slice (some ⟨R,0,none⟩) n n,.int .i64 (n:Int),u119,u120,u121,u122,u123,u124,u125,u126,u127,u128,u129,u130,u131,u132,u133,u134,u135,u136,u137,u138,u139,u140,u141,u142,u143,u144,c145,c146,c147,c148,c149,c150,c151,c152,c153,c154,c155,c156,c157,c158,c159,c160],[]⟩ wq)
 (hr:∀(u14 u15 u16 u17 u119 u120 u121 u122 u123 u124 u125 u126 u127 u128 u129 u130 u131 u132 u133 u134 u135 u136 u137 u138 u139 u140 u141 u142 u143 u144:Value) (wq:World),Below w.heap.size w wq→elimTo SQ n k n M2=none→Q .ret ⟨#[c0,c1,c2,c3,.slice none 0 0,.int .i64 2,c6,c7,c8,.pointer (some ⟨kb,0,none⟩),c10,.pointer (some ⟨vb,0,none⟩),c12,c13,u14,u15,u16,u17,c18,c19,c20,c21,c22,c23,c24,c25,c26,c27,c28,c29,c30,c31,c32,c33,c34,c35,c36,c37,c38,c39,c40,c41,c42,c43,c44,c45,c46,c47,c48,c49,c50,c51,c52,c53,c54,c55,c56,c57,c58,c59,c60,c61,c62,c63,c64,c65,c66,c67,c68,c69,c70,c71,c72,c73,c74,c75,c76,c77,c78,c79,c80,c81,c82,c83,c84,c85,c86,c87,c88,c89,c90,c91,c92,c93,c94,c95,c96,c97,c98,c99,c100,c101,c102,c103,c104,c105,c106,c107,c108,c109,c110,c111,c112,c113,c114,c115,c116,.slice (some ⟨R,0,none⟩) n n,.int .i64 (n:Int),u119,u120,u121,u122,u123,u124,u125,u126,u127,u128,u129,u130,u131,u132,u133,u134,u135,u136,u137,u138,u139,u140,u141,u142,u143,u144,c145,c146,c147,c148,c149,c150,c151,c152,c153,c154,c155,c156,c157,c158,c159,c160],[]⟩ wq) :
 Code.wp Tryz.prog (Code.loop body3) Q ⟨#[c0,c1,c2,c3,a4,a5,c6,c7,c8,.pointer (some ⟨kb,0,none⟩),c10,.pointer (some ⟨vb,0,none⟩),c12,c13,a14,a15,a16,a17,c18,c19,c20,c21,c22,c23,c24,c25,c26,c27,c28,c29,c30,c31,c32,c33,c34,c35,c36,c37,c38,c39,c40,c41,c42,c43,c44,c45,c46,c47,c48,c49,c50,c51,c52,c53,c54,c55,c56,c57,c58,c59,c60,c61,c62,c63,c64,c65,c66,c67,c68,c69,c70,c71,c72,c73,c74,c75,c76,c77,c78,c79,c80,c81,c82,c83,c84,c85,c86,c87,c88,c89,c90,c91,c92,c93,c94,c95,c96,c97,c98,c99,c100,c101,c102,c103,c104,c105,c106,c107,c108,c109,c110,c111,c112,c113,c114,c115,c116,.slice (some ⟨R,0,none⟩) n n,.int .i64 (n:Int),.int .i64 0,a120,a121,a122,a123,a124,a125,a126,a127,a128,a129,a130,a131,a132,a133,a134,a135,a136,a137,a138,a139,a140,a141,a142,a143,a144,c145,c146,c147,c148,c149,c150,c151,c152,c153,c154,c155,c156,c157,c158,c159,c160],[]⟩ w0:=by
 conv=>arg 2;arg 1;whnf
 conv=>arg 4;zeta
 have hkn:k≤8:=by omega
 replace hE:=Lib.hid hE;replace hst:=Lib.hid hst;replace hx:=Lib.hid hx;replace hr:=Lib.hid hr
 go_loopw [119] (fun i wq=>∃y:Nat,y≤n∧i=.int .i64 (y:Int)∧Hid (InRel w R n k kb vb bl M2 y wq)) (fun i _=>n-(intOf i).toNat)
 case atStart=>exact⟨0,Nat.zero_le _,rfl,hst.out⟩
 case round =>
  obtain⟨i,hi,rfl,hI⟩:=hrel
  by_cases hlt2:i<n
  · obtain ⟨M3,hel,hM,hO,hBq,hIq,hkq,hvq⟩:=hI.out;clear hI;have c1:=hM.out.hd i hlt2;have c2:=hM.out.lt;have c3:=hkq.out.cell;have c4:=hkq.out.lt;obtain⟨e1,e2,e3⟩:=(hM.out.rows i hlt2).cell (j:=k) (by omega);have e4:=(hM.out.rows i hlt2).lt;have s2:(k:Int)<(n:Int)+1:=by omega
    have s3:(0:Int)≤(k:Int):=by omega
    obtain⟨fg,fn,fd,hfq⟩:=raw_ex (M3 i k);rw[hfq]at e1 e2 e3;have hM4:=Lib.hid (hM.out.alloc (.cells #[.bool fg,.string fn,.string fd] 37));have hk4:=Lib.hid (hkq.out.alloc (.cells #[.bool fg,.string fn,.string fd] 37));have hI4:=Lib.hid (hIq.out.alloc (.cells #[.bool fg,.string fn,.string fd] 37));have hv4:=Lib.hid (hvq.out.alloc (.cells #[.bool fg,.string fn,.string fd] 37));have hB4:=Lib.hid (hBq.out.alloc hBq.out.size (.cells #[.bool fg,.string fn,.string fd] 37));have hf4:=Lib.hid (B3.new wr fg fn fd)
    by_cases hik:i=k
    · have h1:(i==k)=true:=by rw[beq_iff_eq];exact hik
      have h2:((i:Int)==(k:Int))=true:=by rw[beq_iff_eq];omega
      have hel2:Hid (elimTo SQ n k (i+1) M2=some M3):=by
       show elimTo SQ n k (i+1) M2=some M3
       unfold elimTo;rw[hel.out]
       show elimRow SQ n k i M3=some M3
       unfold elimRow;rw[if_pos (.inl hik)]
      replace hik:=Lib.hid hik;replace hfq:=Lib.hid hfq
      go_wp2_with fail
      go_quiet (fail)
      go_wp2
      go_roundw
      case rel=>exact⟨i+1,by omega,by go_num,M3,hel2,hM4.out.drewN nq,hO,blw_drewN hB4.out nq,hI4.out,hk4.out,hv4.out⟩
      case measure=>simp[intOf];omega
    · have h1:(i==k)=false:=by rw[beq_eq_false_iff_ne];exact hik
      have h2:((i:Int)==(k:Int))=false:=by rw[beq_eq_false_iff_ne];omega
      have kz:=Lib.hid zero_any;obtain⟨g1,g2,g3,g4,g5,g6⟩:=hf4.out.facts;have k1:=hk4.out.cell;have k2:=hk4.out.lt;have k3:=hf4.out.lt;have hcc:Hid ((wr.alloc (.cells #[.bool fg,.string fn,.string fd] 37)).cell? ⟨kb,0,none⟩=some (.int .i64 (k:Int))∧(wr.alloc (.cells #[.bool fg,.string fn,.string fd] 37)).cell? ⟨wr.heap.size,0,none⟩=some (.bool fg)∧(wr.alloc (.cells #[.bool fg,.string fn,.string fd] 37)).cell? ⟨wr.heap.size,1,none⟩=some (.string fn)∧(wr.alloc (.cells #[.bool fg,.string fn,.string fd] 37)).cell? ⟨wr.heap.size,2,none⟩=some (.string fd)):=⟨k1,g1,g2,g3⟩;obtain⟨w4,hw4⟩:∃W,W=wr.alloc (.cells #[.bool fg,.string fn,.string fd] 37):=⟨_,rfl⟩;rw[←hw4]at hM4 hk4 hI4 hv4 hB4 hf4 hcc k1 k2 k3 g1 g2 g3 g4 g5 g6;obtain⟨fb,hfb⟩:∃x,x=wr.heap.size:=⟨_,rfl⟩;rw[←hfb]at hf4 hcc k3 g1 g2 g3 g4 g5 g6;replace hw4:=Lib.hid hw4;replace hfb:=Lib.hid hfb;replace hik:=Lib.hid hik
      go_wp2_with fail
      rw[←hw4.out,←hfb.out];clear c1 c2 c3 c4 e1 e2 e3 e4 hM hkq hvq hIq hBq hw4 hfb
      by_cases h0:M3 i k=0
      · have hel2:Hid (elimTo SQ n k (i+1) M2=some M3):=by
         show elimTo SQ n k (i+1) M2=some M3
         unfold elimTo;rw[hel.out]
         show elimRow SQ n k i M3=some M3
         unfold elimRow;rw[if_pos (.inr h0)]
        obtain ⟨rfl,rfl,rfl⟩:fg=false∧fn=⟨#[48]⟩∧fd=⟨#[49]⟩:=by
         rw[h0,rq_zero]at hfq;injection hfq with a1 a2;injection a2 with a3 a4;exact⟨a1.symm,a3.symm,a4.symm⟩
        replace hfq:=Lib.hid hfq;replace h0:=Lib.hid h0
        go_region_held3 (fun w'=>w'.cell? ⟨kb,0,none⟩=some (.int .i64 (k:Int))∧w'.cell? ⟨fb,0,none⟩=some (.bool false)∧w'.cell? ⟨fb,1,none⟩=some (.string ⟨#[48]⟩)∧w'.cell? ⟨fb,2,none⟩=some (.string ⟨#[49]⟩)) (first | (with_reducible exact hcc.out) | (exact⟨(hb5.cell (p:=⟨kb,0,none⟩) k2).trans k1,(hb5.cell (p:=⟨fb,0,none⟩) k3).trans g1,(hb5.cell (p:=⟨fb,1,none⟩) k3).trans g2,(hb5.cell (p:=⟨fb,2,none⟩) k3).trans g3⟩) | go_keep)
         (first
           | (go_at_call 103;refine(kz.out _).mono ?_;rintro e w5 ⟨rfl,hb5⟩;replace hb5:Below w4.heap.size w4 w5:=(Below.refl _ w4).drew.trans hb5;have hM5:=Lib.hid (hM4.out.below hb5);have hk5:=Lib.hid (hk4.out.below hb5);have hI5:=Lib.hid (hI4.out.below hb5);have hv5:=Lib.hid (hv4.out.below hb5);have hf5:=Lib.hid (hf4.out.below hb5);have hB5:=Lib.hid (hB4.out.trans (hb5.mono hB4.out.size))))
        all_goals (
         go_wp2
         go_roundw
         case rel=>exact⟨i+1,by omega,by go_num,M3,hel2,hM5.out,hO,hB5.out,hI5.out,hk5.out,hv5.out⟩
         case measure=>simp[intOf];omega
         )
      · have hz:(fn.toList==[48])=false:=by
         have:=rq_num h0
         rwa [hfq]at this
        replace hfq:=Lib.hid hfq
        go_region_held3 (fun w'=>w'.cell? ⟨kb,0,none⟩=some (.int .i64 (k:Int))∧w'.cell? ⟨fb,0,none⟩=some (.bool fg)∧w'.cell? ⟨fb,1,none⟩=some (.string fn)∧w'.cell? ⟨fb,2,none⟩=some (.string fd)) (first | (with_reducible exact hcc.out) | (exact⟨(hb5.cell (p:=⟨kb,0,none⟩) k2).trans k1,(hb5.cell (p:=⟨fb,0,none⟩) k3).trans g1,(hb5.cell (p:=⟨fb,1,none⟩) k3).trans g2,(hb5.cell (p:=⟨fb,2,none⟩) k3).trans g3⟩) | go_keep)
         (first
           | (go_at_call 103;refine(kz.out _).mono ?_;rintro e w5 ⟨rfl,hb5⟩;replace hb5:Below w4.heap.size w4 w5:=(Below.refl _ w4).drew.trans hb5;have hM5:=Lib.hid (hM4.out.below hb5);have hk5:=Lib.hid (hk4.out.below hb5);have hI5:=Lib.hid (hI4.out.below hb5);have hv5:=Lib.hid (hv4.out.below hb5);have hf5:=Lib.hid (hf4.out.below hb5);have hB5:=Lib.hid (hB4.out.trans (hb5.mono hB4.out.size))))
        clear g1 g2 g3 g4 g5 g6 k1 k2 k3 hcc hM4 hk4 hI4 hv4 hB4 hf4 h1 h2;have hrow:=Lib.hid (hM5.out.rows i hlt2);have hlo:=Lib.hid (hM5.out.low i hlt2);have hfne:=Lib.hid (hf5.out.ne_row hrow.out (by omega));have hvne:=Lib.hid (hv5.out.ne_row hrow.out);have hkne:=Lib.hid (hk5.out.ne_row hrow.out);have hIne:=Lib.hid (hI5.out.ne_row hrow.out);have hcb:Hid (bl k≠bl i):=fun e=>hik.out (hM5.out.inj k i hk hlt2 e).symm;have hS:=Lib.hid (hM5.out.rows k hk);have hEB:=Lib.hid ((EnvB.of hE.out).below hB5.out);have hf5':Hid (B3 w5 fb (rq (M3 i k)).1 (rq (M3 i k)).2.1 (rq (M3 i k)).2.2):=by rw[hfq.out];exact hf5.out
        have k1:=hk5.out.cell;have s4:¬n+1=k:=by omega
        cases hsub:okSub SQ n k i M3 with
        | true =>
          have hok:=(okSub_iff SQ).1 hsub
          have kd:=Lib.hid (fun cap=>changeS_ok w.heap.size (bl i) k (n+1) cap (fun j=>M3 i j) (M3 i k) (fun j=>M3 k j) fb vb (bl k) (n+1-k) w5 hEB.out hlo.out hrow.out (by omega) (by omega) hf5'.out hfne.out hv5.out hvne.out hS.out hcb.out fun j a b=>by
           obtain⟨x1,x2,x3,x4⟩:=hok j a (by omega);exact⟨of_decide_eq_true x1,of_decide_eq_true x2,of_decide_eq_true x3,of_decide_eq_true x4⟩)
          have hel2:Hid (elimTo SQ n k (i+1) M2=some (subR k i M3)):=by
           show elimTo SQ n k (i+1) M2=some (subR k i M3)
           unfold elimTo;rw[hel.out]
           show elimRow SQ n k i M3=some (subR k i M3)
           unfold elimRow;rw[if_neg (by rintro(h | h);(· exact hik.out h);(· exact h0 h)),if_pos hsub]
          have hO6:Hid (∀i' j,i'<n→j≤n→OkQ (subR k i M3 i' j)):=fun i' j hi' hj=>by
           unfold subR
           split
           · rename_i hc;obtain⟨x1,x2,x3,x4⟩:=hok j hc.2 hj;exact okQ_sub (of_decide_eq_true x3) (of_decide_eq_true x4)
           · exact hO.out i' j hi' hj
          replace h0:=Lib.hid h0;clear hok hsub hz
          all_goals (
           go_wp2_with fail
           refine(kd.out _).mono ?_;rintro e w6 ⟨rfl,hg,hrr⟩;have hB6:=Lib.hid (hB5.out.trans (below_grown hg hlo.out hB5.out.size))
           have hM6:=Lib.hid (hM5.out.change hlt2 hg (M':=subR k i M3) (hrr.congr fun j hj=>by
            unfold subR
            by_cases a1:k≤j
            · rw[if_pos a1,if_pos ⟨rfl,a1⟩]
            · rw[if_neg a1,if_neg fun h=>a1 h.2]) (fun i' hi' hne=>by funext j;unfold subR;rw[if_neg fun h=>hne h.1]))
           have hk6:=Lib.hid (hk5.out.grown hg hkne.out);have hI6:=Lib.hid (hI5.out.grown hg hIne.out);have hv6:=Lib.hid (hv5.out.grown hg hvne.out);clear hg hrr k1;go_wp2
           go_roundw
           case rel=>exact⟨i+1,by omega,by go_num,_,hel2,hM6,hO6,hB6,hI6,hk6,hv6⟩
           case measure=>simp[intOf];omega
           )
        | false =>
          obtain⟨t,t1,t2,t3,t4⟩:=okSub_bad hsub;have kd:=Lib.hid (fun cap=>changeS_er w.heap.size (bl i) k (n+1) cap (fun j=>M3 i j) (M3 i k) (fun j=>M3 k j) fb vb (bl k) (n+1-k) w5 hEB.out hlo.out hrow.out (by omega) (by omega) hf5'.out hfne.out hv5.out hvne.out hS.out hcb.out t t1 (by omega) t3 t4 (fun j a b=>⟨hO.out i j hlt2 (by omega),hO.out k j hk (by omega)⟩) (hO.out i k hlt2 (by omega)))
          have hel2:Hid (elimTo SQ n k n M2=none):=by
           refine elim_none (i:=i+1) (by omega) ?_;unfold elimTo;rw[hel.out]
           show elimRow SQ n k i M3=none
           unfold elimRow;rw[if_neg (by rintro(h | h);(· exact hik.out h);(· exact h0 h)),if_neg (by rw[hsub];simp)]
          replace h0:=Lib.hid h0;clear t1 t2 t3 t4 hsub hz
          all_goals (
           go_wp2_with fail
           refine(kd.out _).mono ?_;rintro e w6 ⟨rfl,hg⟩;have hB6:=Lib.hid (hB5.out.trans (below_grown hg hlo.out hB5.out.size));clear hg k1;go_wp2;apply hr.out
           · exact hB6.out
           · exact hel2.out
           )
  · obtain rfl:n=i:=by omega
    go_wp2;apply hx.out;exact hI.out
end Nt
end
section
open Go.RowKit Go.Shelf
namespace Nt
def regsOf:Code→List Code
 | .loop c=>regsOf c
 | .seq a b=>regsOf a++regsOf b
 | .block _ c=>regsOf c
 | .scope c=>regsOf c
 | .cond _ a b=>regsOf a++regsOf b
 | .region a b c=>[.region a b c]
 | _=>[]
noncomputable def reg20:Code:=((Tryz.f49.body.map regsOf).bind fun l=>l[20]?).getD .skip
theorem set_some {w:World} {p q:Addr} {x y:Value} (hp:w.cell? p=some x) (hq:w.cell? q=some y) (v:Value):∃u,(w.setCell p v).cell? q=some u:=by
 by_cases e:q=p
 · rw[e];exact⟨v,World.cell?_setCell_same w _ _ hp⟩
 · exact⟨y,(World.cell?_setCell_other w _ _ _ (fun e2=>e (by first | exact e2 | exact e2.symm))).trans hq⟩
theorem swap_reg {c0 d1 d2 d3 d4 d5 c6 c8 c11 c12 c13 c14 c15 c16 c17 c18 c19 c20 c21 c22 c23 c24 c25 c26 c27 c28 c29 c30 c31 c32 c33 c34 c35 c36 c37 c38 c39 c40 c41 c42 c43 c44 c45 c46 c47 c48 c49 c50 c51 c52 c53 c54 c55 c56 c57 c58 c59 c60 c61 c62 c63 c64 c65 c66 c67 c68 c69 c70 c71 c72 c73 c74 c75 c76 c77 c78 c79 c80 c81 c82 c83 c84 c85 c86 c87 c88 c89 c90 c91 c92 c93 c94 c95 c96 c97 c98 c99 c100 c101 c102 c103 c104 c105 c106 c107 c108 c109 c110 c111 c112 c113 c114 c115 c116 c117 c118 c119 c120 c121 c122 c123 c124 c125 c126 c127 c128 c129 c130 c131 c132 c133 c134 c135 c136 c137 c138 c139 c140 c141 c142 c143 c144 c145 c146 c147 c148 c149 c150 c151 c152 c153 c154 c155 c156 c157 c158 c159 c160:Value} {Q:Exit→Act→World→Prop} (R n k f kb:Nat) (bl:Nat→Nat) (w3:World)
 (c1:w3.cell? ⟨kb,0,none⟩=some (.int .i64 (k:Int)))
 (c2:w3.cell? ⟨R,k+f,none⟩=some (.slice (some ⟨bl (k+f),0,none⟩) (n+1) (n+1)))
 (c3:w3.cell? ⟨R,k,none⟩=some (.slice (some ⟨bl k,0,none⟩) (n+1) (n+1)))
 (c4:w3.frozen? ⟨R,k+f,none⟩=false) (c5:w3.frozen? ⟨R,k,none⟩=false)
 (hkR:kb≠R) (hn8:n≤8) (hlt:k<n) (hp2:k+f<n)
 (h:∀u84 u85 u86 u87 u88 u89 u90 u91 u92 u93 u94 u95 u96 u97 u98 u99 u100 u101:Value,Q .normal ⟨#[c0,d1,d2,d3,d4,d5,c6,.slice (some ⟨R,0,none⟩) n n,c8,.pointer (some ⟨kb,0,none⟩),.int .i64 (f:Int),c11,c12,c13,c14,c15,c16,c17,c18,c19,c20,c21,c22,c23,c24,c25,c26,c27,c28,c29,c30,c31,c32,c33,c34,c35,c36,c37,c38,c39,c40,c41,c42,c43,c44,c45,c46,c47,c48,c49,c50,c51,c52,c53,c54,c55,c56,c57,c58,c59,c60,c61,c62,c63,c64,c65,c66,c67,c68,c69,c70,c71,c72,c73,c74,c75,c76,c77,c78,c79,c80,c81,c82,c83,u84,u85,u86,u87,u88,u89,u90,u91,u92,u93,u94,u95,u96,u97,u98,u99,u100,u101,c102,c103,c104,c105,c106,c107,c108,c109,c110,c111,c112,c113,c114,c115,c116,c117,c118,c119,c120,c121,c122,c123,c124,c125,c126,c127,c128,c129,c130,c131,c132,c133,c134,c135,c136,c137,c138,c139,c140,c141,c142,c143,c144,c145,c146,c147,c148,c149,c150,c151,c152,c153,c154,c155,c156,c157,c158,c159,c160],[]⟩ (((w3.setCell ⟨R,k,none⟩ (.slice (some ⟨bl (k+f),0,none⟩) (n+1) (n+1))).setCell ⟨R,k+f,none⟩ (.slice (some ⟨bl k,0,none⟩) (n+1) (n+1))).drew)) :
 Code.wp Tryz.prog reg20 Q ⟨#[c0,d1,d2,d3,d4,d5,c6,.slice (some ⟨R,0,none⟩) n n,c8,.pointer (some ⟨kb,0,none⟩),.int .i64 (f:Int),c11,c12,c13,c14,c15,c16,c17,c18,c19,c20,c21,c22,c23,c24,c25,c26,c27,c28,c29,c30,c31,c32,c33,c34,c35,c36,c37,c38,c39,c40,c41,c42,c43,c44,c45,c46,c47,c48,c49,c50,c51,c52,c53,c54,c55,c56,c57,c58,c59,c60,c61,c62,c63,c64,c65,c66,c67,c68,c69,c70,c71,c72,c73,c74,c75,c76,c77,c78,c79,c80,c81,c82,c83,c84,c85,c86,c87,c88,c89,c90,c91,c92,c93,c94,c95,c96,c97,c98,c99,c100,c101,c102,c103,c104,c105,c106,c107,c108,c109,c110,c111,c112,c113,c114,c115,c116,c117,c118,c119,c120,c121,c122,c123,c124,c125,c126,c127,c128,c129,c130,c131,c132,c133,c134,c135,c136,c137,c138,c139,c140,c141,c142,c143,c144,c145,c146,c147,c148,c149,c150,c151,c152,c153,c154,c155,c156,c157,c158,c159,c160],[]⟩ w3:=by
 have s0:(0:Int)≤(f:Int):=by omega
 have s7:(0:Int)≤(k:Int):=by omega
 have s1:(0:Int)≤(k:Int)+(f:Int):=by omega
 have s2:(k:Int)+(f:Int)<(n:Int):=by omega
 have s3:(k:Int)<(n:Int):=by omega
 have s4:IntKind.i64.wrap ((k:Int)+(f:Int))=(k:Int)+(f:Int):=IntWalk.i64_in _ (by omega);have s5:((k:Int)+(f:Int)).toNat=k+f:=by omega
 obtain⟨v1,hv1⟩:∃u,(w3.setCell ⟨R,k,none⟩ (.slice (some ⟨bl (k+f),0,none⟩) (n+1) (n+1))).cell? ⟨R,k+f,none⟩=some u:=set_some c3 c2 _;obtain⟨v2,hv2⟩:∃u,(w3.setCell ⟨R,k+f,none⟩ (.slice (some ⟨bl k,0,none⟩) (n+1) (n+1))).cell? ⟨R,k,none⟩=some u:=set_some c2 c3 _
 conv=>arg 2;whnf
 conv=>arg 4;zeta
 replace h:=Lib.hid h;have y1:(w3.setCell ⟨R,k,none⟩ (.slice (some ⟨bl (k+f),0,none⟩) (n+1) (n+1))).cell? ⟨kb,0,none⟩=some (.int .i64 (k:Int)):=(World.cell?_setCell_other w3 _ _ _ (fun e=>hkR (congrArg Addr.block e).symm)).trans c1;have y2:((w3.setCell ⟨R,k,none⟩ (.slice (some ⟨bl (k+f),0,none⟩) (n+1) (n+1))).setCell ⟨R,k+f,none⟩ (.slice (some ⟨bl k,0,none⟩) (n+1) (n+1))).cell? ⟨kb,0,none⟩=some (.int .i64 (k:Int)):=(World.cell?_setCell_other _ _ _ _ (fun e=>hkR (congrArg Addr.block e).symm)).trans y1;have hcc:Hid (w3.cell? ⟨kb,0,none⟩=some (.int .i64 (k:Int))∧(w3.setCell ⟨R,k,none⟩ (.slice (some ⟨bl (k+f),0,none⟩) (n+1) (n+1))).cell? ⟨kb,0,none⟩=some (.int .i64 (k:Int))∧((w3.setCell ⟨R,k,none⟩ (.slice (some ⟨bl (k+f),0,none⟩) (n+1) (n+1))).setCell ⟨R,k+f,none⟩ (.slice (some ⟨bl k,0,none⟩) (n+1) (n+1))).cell? ⟨kb,0,none⟩=some (.int .i64 (k:Int))):=⟨c1,y1,y2⟩;have z0:w3.drew.cell? ⟨kb,0,none⟩=some (.int .i64 (k:Int)):=c1;have z1:(w3.setCell ⟨R,k,none⟩ (.slice (some ⟨bl (k+f),0,none⟩) (n+1) (n+1))).drew.cell? ⟨kb,0,none⟩=some (.int .i64 (k:Int)):=y1;have z2:((w3.setCell ⟨R,k,none⟩ (.slice (some ⟨bl (k+f),0,none⟩) (n+1) (n+1))).setCell ⟨R,k+f,none⟩ (.slice (some ⟨bl k,0,none⟩) (n+1) (n+1))).drew.cell? ⟨kb,0,none⟩=some (.int .i64 (k:Int)):=y2;clear y1 y2;refine wp_region_noPanic ?_;refine wp_region_held_drew (S:=(fun w'=>w'.cell? ⟨kb,0,none⟩=some (.int .i64 (k:Int)))) (by kernel_rfl) z0 (fun hHeld=>?_);refine wpAnyH_take (i:=0) (oi:=_) (v:=?_) rfl (by kernel_rfl) (by kernel_rfl) (by kernel_rfl) (fun _ _ _ h=>h) (Or.inl ⟨by rfl,?_⟩) (by assumption) ?_;rotate_left
 · (intro w hSw;(try dsimp only at hSw);go_simp<;>with_reducible rfl)
 simp only[Act.put,List.setIfInBounds_toArray];refine wpAnyH_take (i:=1) (oi:=_) (v:=?_) rfl (by kernel_rfl) (by kernel_rfl) (by kernel_rfl) (fun _ _ _ h=>h) (Or.inl ⟨by rfl,?_⟩) (by assumption) ?_;rotate_left
 · (intro w hSw;(try dsimp only at hSw);go_simp<;>with_reducible rfl)
 simp only[Act.put];refine wpAnyH_take (i:=2) (oi:=_) (v:=?_) rfl (by kernel_rfl) (by kernel_rfl) (by kernel_rfl) (fun _ _ _ h=>h) (Or.inl ⟨by rfl,?_⟩) (by assumption) ?_;rotate_left
 · (intro w hSw;(try dsimp only at hSw);go_simp<;>with_reducible rfl)
 simp only[Act.put];refine wpAnyH_take (i:=3) (oi:=_) (v:=?_) rfl (by kernel_rfl) (by kernel_rfl) (by kernel_rfl) (fun _ _ _ h=>h) (Or.inl ⟨by rfl,?_⟩) (by assumption) ?_;rotate_left
 · (intro w hSw;(try dsimp only at hSw);go_simp<;>with_reducible rfl)
 simp only[Act.put];refine wpAnyH_take (i:=4) (oi:=_) (v:=?_) rfl (by kernel_rfl) (by kernel_rfl) (by kernel_rfl) (fun _ _ _ h=>h) (Or.inl ⟨by rfl,?_⟩) (by assumption) ?_;rotate_left
 · (intro w hSw;(try dsimp only at hSw);go_simp<;>with_reducible rfl)
 simp only[Act.put];refine wpAnyH_take (i:=5) (oi:=_) (v:=?_) rfl (by kernel_rfl) (by kernel_rfl) (by kernel_rfl) (fun _ _ _ h=>h) (Or.inl ⟨by rfl,?_⟩) (by assumption) ?_;rotate_left
 · (intro w hSw;(try dsimp only at hSw);go_simp<;>with_reducible rfl)
 simp only[Act.put];refine wpAnyH_take (i:=6) (oi:=_) (v:=?_) rfl (by kernel_rfl) (by kernel_rfl) (by kernel_rfl) (fun _ _ _ h=>h) (Or.inl ⟨by rfl,?_⟩) (by assumption) ?_;rotate_left
 · (intro w hSw;(try dsimp only at hSw);go_simp<;>with_reducible rfl)
 simp only[Act.put];refine wpAnyH_take (i:=7) (oi:=_) (v:=?_) rfl (by kernel_rfl) (by kernel_rfl) (by kernel_rfl) (fun _ _ _ h=>h) (Or.inl ⟨by rfl,?_⟩) (by assumption) ?_;rotate_left
 · (intro w hSw;(try dsimp only at hSw);go_simp<;>with_reducible rfl)
 simp only[Act.put];refine wpAnyH_take (i:=8) (oi:=_) (v:=?_) rfl (by kernel_rfl) (by kernel_rfl) (by kernel_rfl) (fun _ _ _ h=>h) (Or.inl ⟨by rfl,?_⟩) (by assumption) ?_;rotate_left
 · (intro w hSw;(try dsimp only at hSw);go_simp<;>with_reducible rfl)
 simp only[Act.put];refine wpAnyH_take (i:=9) (oi:=_) (v:=?_) rfl (by kernel_rfl) (by kernel_rfl) (by kernel_rfl) (fun _ _ _ h=>h) (Or.inl ⟨by rfl,?_⟩) (by assumption) ?_;rotate_left
 · (intro w hSw;(try dsimp only at hSw);go_simp<;>with_reducible rfl)
 simp only[Act.put];refine wpAnyH_take (i:=10) (oi:=_) (v:=?_) rfl (by kernel_rfl) (by kernel_rfl) (by kernel_rfl) (fun _ _ _ h=>h) (Or.inl ⟨by rfl,?_⟩) (by assumption) ?_;rotate_left
 · (intro w hSw;(try dsimp only at hSw);go_simp<;>with_reducible rfl)
 simp only[Act.put];refine wpAnyH_take (i:=12) (oi:=_) (v:=?_) rfl (by kernel_rfl) (by kernel_rfl) (by kernel_rfl) (fun _ _ _ h=>h) (Or.inl ⟨by rfl,?_⟩) (by assumption) ?_;rotate_left
 · (intro w hSw;(try dsimp only at hSw);go_simp<;>with_reducible rfl)
 simp only[Act.put];refine wpAnyH_take (i:=13) (oi:=_) (v:=?_) rfl (by kernel_rfl) (by kernel_rfl) (by kernel_rfl) (fun _ _ _ h=>h) (Or.inl ⟨by rfl,?_⟩) (by assumption) ?_;rotate_left
 · (intro w hSw;(try dsimp only at hSw);go_simp<;>with_reducible rfl)
 simp only[Act.put];refine wpAnyH_take (i:=14) (oi:=_) (v:=?_) rfl (by kernel_rfl) (by kernel_rfl) (by kernel_rfl) (fun _ _ _ h=>h) (Or.inl ⟨by rfl,?_⟩) (by assumption) ?_;rotate_left
 · (intro w hSw;(try dsimp only at hSw);go_simp<;>with_reducible rfl)
 simp only[Act.put];refine wpAnyH_ready (rs:=[11,15]) (by kernel_rfl) (by simp) ?_;refine AllReadyH.cons (o:=_) rfl (fun K hK=>?_) ?_
 · go_simp;refine hK.out _ _ (by with_reducible exact z0) (fun hHeld2=>?_);clear hK K hHeld;have hHeld:=hHeld2;clear hHeld2
   try simp only[Act.put,List.setIfInBounds_toArray,List.set_cons_zero,List.set_cons_succ]
   refine wpAnyH_ready (rs:=[15]) (by kernel_rfl) (by simp) ?_;refine AllReadyH.cons (o:=_) rfl (fun K hK=>?_) ?_
   · go_simp;refine hK.out _ _ (by with_reducible exact z0) (fun hHeld2=>?_);clear hK K hHeld;have hHeld:=hHeld2;clear hHeld2
     try simp only[Act.put,List.setIfInBounds_toArray,List.set_cons_zero,List.set_cons_succ]
     refine wpAnyH_take (i:=16) (oi:=_) (v:=?_) rfl (by kernel_rfl) (by kernel_rfl) (by kernel_rfl) (fun _ _ _ h=>h) (Or.inl ⟨by rfl,?_⟩) (by assumption) ?_;rotate_left
     · (intro w hSw;(try dsimp only at hSw);go_simp<;>with_reducible rfl)
     simp only[Act.put,List.setIfInBounds_toArray];refine wpAnyH_ready (rs:=[17]) (by kernel_rfl) (by simp) ?_;refine AllReadyH.cons (o:=_) rfl (fun K hK=>?_) ?_
     · go_simp;refine hK.out _ _ (by with_reducible exact z1) (fun hHeld2=>?_);clear hK K hHeld;have hHeld:=hHeld2;clear hHeld2
       try simp only[Act.put,List.setIfInBounds_toArray,List.set_cons_zero,List.set_cons_succ]
       refine wpAnyH_take (i:=18) (oi:=_) (v:=?_) rfl (by kernel_rfl) (by kernel_rfl) (by kernel_rfl) (fun _ _ _ h=>h) (Or.inl ⟨by rfl,?_⟩) (by assumption) ?_;rotate_left
       · (intro w hSw;(try dsimp only at hSw);go_simp<;>with_reducible rfl)
       simp only[Act.put,List.setIfInBounds_toArray];refine wpAnyH_ready (rs:=[19]) (by kernel_rfl) (by simp) ?_;refine AllReadyH.cons (o:=_) rfl (fun K hK=>?_) ?_
       · go_simp;refine hK.out _ _ (by with_reducible exact z2) (fun hHeld2=>?_);clear hK K hHeld;have hHeld:=hHeld2;clear hHeld2
         try simp only[Act.put,List.setIfInBounds_toArray,List.set_cons_zero,List.set_cons_succ]
         refine wpAnyH_done (by kernel_rfl) ?_ _;refine NoPanic.normal ?_;exact h.out ..
       exact AllReadyH.nil
     exact AllReadyH.nil
   exact AllReadyH.nil
 refine AllReadyH.cons (o:=_) rfl (fun K hK=>?_) ?_
 · go_simp;refine hK.out _ _ (by with_reducible exact z0) (fun hHeld2=>?_);clear hK K hHeld;have hHeld:=hHeld2;clear hHeld2
   try simp only[Act.put,List.setIfInBounds_toArray,List.set_cons_zero,List.set_cons_succ]
   refine wpAnyH_ready (rs:=[11]) (by kernel_rfl) (by simp) ?_;refine AllReadyH.cons (o:=_) rfl (fun K hK=>?_) ?_
   · go_simp;refine hK.out _ _ (by with_reducible exact z0) (fun hHeld2=>?_);clear hK K hHeld;have hHeld:=hHeld2;clear hHeld2
     try simp only[Act.put,List.setIfInBounds_toArray,List.set_cons_zero,List.set_cons_succ]
     refine wpAnyH_take (i:=16) (oi:=_) (v:=?_) rfl (by kernel_rfl) (by kernel_rfl) (by kernel_rfl) (fun _ _ _ h=>h) (Or.inl ⟨by rfl,?_⟩) (by assumption) ?_;rotate_left
     · (intro w hSw;(try dsimp only at hSw);go_simp<;>with_reducible rfl)
     simp only[Act.put,List.setIfInBounds_toArray];refine wpAnyH_ready (rs:=[17]) (by kernel_rfl) (by simp) ?_;refine AllReadyH.cons (o:=_) rfl (fun K hK=>?_) ?_
     · go_simp;refine hK.out _ _ (by with_reducible exact z1) (fun hHeld2=>?_);clear hK K hHeld;have hHeld:=hHeld2;clear hHeld2
       try simp only[Act.put,List.setIfInBounds_toArray,List.set_cons_zero,List.set_cons_succ]
       refine wpAnyH_take (i:=18) (oi:=_) (v:=?_) rfl (by kernel_rfl) (by kernel_rfl) (by kernel_rfl) (fun _ _ _ h=>h) (Or.inl ⟨by rfl,?_⟩) (by assumption) ?_;rotate_left
       · (intro w hSw;(try dsimp only at hSw);go_simp<;>with_reducible rfl)
       simp only[Act.put,List.setIfInBounds_toArray];refine wpAnyH_ready (rs:=[19]) (by kernel_rfl) (by simp) ?_;refine AllReadyH.cons (o:=_) rfl (fun K hK=>?_) ?_
       · go_simp;refine hK.out _ _ (by with_reducible exact z2) (fun hHeld2=>?_);clear hK K hHeld;have hHeld:=hHeld2;clear hHeld2
         try simp only[Act.put,List.setIfInBounds_toArray,List.set_cons_zero,List.set_cons_succ]
         refine wpAnyH_done (by kernel_rfl) ?_ _;refine NoPanic.normal ?_;exact h.out ..
       exact AllReadyH.nil
     exact AllReadyH.nil
   exact AllReadyH.nil
 exact AllReadyH.nil
end Nt
end
section
open Go.RowKit Go.Shelf
namespace Nt
noncomputable def body2:Code:=((Tryz.f49.body.map loopsOf).bind fun l=>l[1]?).getD .skip
def OutRel (w:World) (R n:Nat) (M0:Mx) (y:Nat) (wq:World):Prop :=
 ∃(bl:Nat→Nat) (M:Mx),Hid (solveTo SQ n y M0=.ok M)∧Hid (MatW wq w.heap.size R n bl M)∧Hid (∀i j,i<n→j≤n→OkQ (M i j))∧Hid (Below w.heap.size w wq)∧Hid (Int1 wq w.heap.size n)
theorem outer_loop {c0 c1 c2 c3 c6 c8 c18 c19 c20 c21 c22 c23 c24 c25 c26 c27 c28 c29 c30 c31 c32 c33 c34 c35 c36 c37 c38 c39 c40 c41 c42 c43 c44 c45 c46 c47 c48 c49 c50 c51 c52 c53 c54 c55 c56 c57 c58 c59 c60 c61 c62 c63 c64 c65 c66 c67 c68 c69 c70 c71 c72 c146 c147 c148 c149 c150 c151 c152 c153 c154 c155 c156 c157 c158 c159 c160 a4 a5 a9 a10 a11 a12 a13 a14 a15 a16 a17 a75 a76 a77 a78 a79 a80 a81 a82 a83 a84 a85 a86 a87 a88 a89 a90 a91 a92 a93 a94 a95 a96 a97 a98 a99 a100 a101 a102 a103 a104 a105 a106 a107 a108 a109 a110 a111 a112 a113 a114 a115 a116 a117 a118 a119 a120 a121 a122 a123 a124 a125 a126 a127 a128 a129 a130 a131 a132 a133 a134 a135 a136 a137 a138 a139 a140 a141 a142 a143 a144 a145:Value} {Q:Exit→Act→World→Prop} (R n:Nat) (M0:Mx) (w w0:World) (hE:Env w) (hn8:n≤8) (hnR:w.heap.size≠R) (hst0:OutRel w R n M0 0 w0)
 (hx:∀(u4 u5 u9 u10 u11 u12 u13 u14 u15 u16 u17 u74 u75 u76 u77 u78 u79 u80 u81 u82 u83 u84 u85 u86 u87 u88 u89 u90 u91 u92 u93 u94 u95 u96 u97 u98 u99 u100 u101 u102 u103 u104 u105 u106 u107 u108 u109 u110 u111 u112 u113 u114 u115 u116 u117 u118 u119 u120 u121 u122 u123 u124 u125 u126 u127 u128 u129 u130 u131 u132 u133 u134 u135 u136 u137 u138 u139 u140 u141 u142 u143 u144 u145:Value) (wq:World),OutRel w R n M0 n wq→Q (.exit 2) ⟨#[c0,c1,c2,c3,u4,u5,c6,.slice (some ⟨R,0,none⟩) n n,c8,u9,u10,u11,u12,u13,u14,u15,u16,u17,c18,c19,c20,c21,c22,c23,c24,c25,c26,c27,c28,c29,c30,c31,c32,c33,c34,c35,c36,c37,c38,c39,c40,c41,c42,c43,c44,c45,c46,c47,c48,c49,c50,c51,c52,c53,c54,c55,c56,c57,c58,c59,c60,c61,c62,c63,c64,c65,c66,c67,c68,c69,c70,c71,c72,.int .i64 (n:Int),u74,u75,u76,u77,u78,u79,u80,u81,u82,u83,u84,u85,u86,u87,u88,u89,u90,u91,u92,u93,u94,u95,u96,u97,u98,u99,u100,u101,u102,u103,u104,u105,u106,u107,u108,u109,u110,u111,u112,u113,u114,u115,u116,u117,u118,u119,u120,u121,u122,u123,u124,u125,u126,u127,u128,u129,u130,u131,u132,u133,u134,u135,u136,u137,u138,u139,u140,u141,u142,u143,u144,u145,c146,c147,c148,c149,c150,c151,c152,c153,c154,c155,c156,c157,c158,c159,c160],[]⟩ wq)
 (hr:∀(er:Int) (u9 u10 u11 u12 u13 u14 u15 u16 u17 u74 u75 u76 u77 u78 u79 u80 u81 u82 u83 u84 u85 u86 u87 u88 u89 u90 u91 u92 u93 u94 u95 u96 u97 u98 u99 u100 u101 u102 u103 u104 u105 u106 u107 u108 u109 u110 u111 u112 u113 u114 u115 u116 u117 u118 u119 u120 u121 u122 u123 u124 u125 u126 u127 u128 u129 u130 u131 u132 u133 u134 u135 u136 u137 u138 u139 u140 u141 u142 u143 u144 u145:Value) (wq:World),Below w.heap.size w wq→solveTo SQ n n M0=.error er→Q .ret ⟨#[c0,c1,c2,c3,.slice none 0 0,.int .i64 er,c6,.slice (some ⟨R,0,none⟩) n n,c8,u9,u10,u11,u12,u13,u14,u15,u16,u17,c18,c19,c20,c21,c22,c23,c24,c25,c26,c27,c28,c29,c30,c31,c32,c33,c34,c35,c36,c37,c38,c39,c40,c41,c42,c43,c44,c45,c46,c47,c48,c49,c50,c51,c52,c53,c54,c55,c56,c57,c58,c59,c60,c61,c62,c63,c64,c65,c66,c67,c68,c69,c70,c71,c72,.int .i64 (n:Int),u74,u75,u76,u77,u78,u79,u80,u81,u82,u83,u84,u85,u86,u87,u88,u89,u90,u91,u92,u93,u94,u95,u96,u97,u98,u99,u100,u101,u102,u103,u104,u105,u106,u107,u108,u109,u110,u111,u112,u113,u114,u115,u116,u117,u118,u119,u120,u121,u122,u123,u124,u125,u126,u127,u128,u129,u130,u131,u132,u133,u134,u135,u136,u137,u138,u139,u140,u141,u142,u143,u144,u145,c146,c147,c148,c149,c150,c151,c152,c153,c154,c155,c156,c157,c158,c159,c160],[]⟩ wq) :
 Code.wp Tryz.prog (Code.loop body2) Q ⟨#[c0,c1,c2,c3,a4,a5,c6,.slice (some ⟨R,0,none⟩) n n,c8,a9,a10,a11,a12,a13,a14,a15,a16,a17,c18,c19,c20,c21,c22,c23,c24,c25,c26,c27,c28,c29,c30,c31,c32,c33,c34,c35,c36,c37,c38,c39,c40,c41,c42,c43,c44,c45,c46,c47,c48,c49,c50,c51,c52,c53,c54,c55,c56,c57,c58,c59,c60,c61,c62,c63,c64,c65,c66,c67,c68,c69,c70,c71,c72,.int .i64 (n:Int),.int .i64 0,a75,a76,a77,a78,a79,a80,a81,a82,a83,a84,a85,a86,a87,a88,a89,a90,a91,a92,a93,a94,a95,a96,a97,a98,a99,a100,a101,a102,a103,a104,a105,a106,a107,a108,a109,a110,a111,a112,a113,a114,a115,a116,a117,a118,a119,a120,a121,a122,a123,a124,a125,a126,a127,a128,a129,a130,a131,a132,a133,a134,a135,a136,a137,a138,a139,a140,a141,a142,a143,a144,a145,c146,c147,c148,c149,c150,c151,c152,c153,c154,c155,c156,c157,c158,c159,c160],[]⟩ w0:=by
 conv=>arg 2;arg 1;whnf
 conv=>arg 4;zeta
 replace hE:=Lib.hid hE;replace hst0:=Lib.hid hst0;replace hx:=Lib.hid hx;replace hr:=Lib.hid hr;replace hnR:=Lib.hid hnR
 go_loopw [74] (fun i wq=>∃y:Nat,y≤n∧i=.int .i64 (y:Int)∧Hid (OutRel w R n M0 y wq)) (fun i _=>n-(intOf i).toNat)
 case atStart=>exact⟨0,Nat.zero_le _,rfl,hst0.out⟩
 case round =>
  obtain⟨k,hk,rfl,hI⟩:=hrel;have hI9:=hI.out;obtain⟨bl,M,hS,hM,hO,hBr,hIr⟩:=hI9
  by_cases hlt:k<n
  · have hkb:Hid (Int1 (wr.alloc (.cells #[.int .i64 (k:Int)] 3)) wr.heap.size k):=Int1.new wr k;have hMk:=Lib.hid (hM.out.alloc (.cells #[.int .i64 (k:Int)] 3));have kx:=Lib.hid (fun c=>idx3_any w.heap.size R n k c wr.heap.size bl M (wr.alloc (.cells #[.int .i64 (k:Int)] 3)) hlt (by omega) hMk.out hkb.out);have k0:(0:Int)≤(k:Int):=by omega
    have k1:(k:Int)≤(n:Int):=by omega
    have k2:¬n=k:=by omega
    cases hp:pivot n k M (n-k) with
    | none =>
      have hpi:pivI n k M=-1:=by unfold pivI;rw[hp]
      have hst:stepK SQ n k M=.error 12:=by unfold stepK;rw[hp]
      have hE9:=Lib.hid (solve_err hS.out hst hlt);replace kx:=kx.out;rw[hpi]at kx;replace kx:=Lib.hid kx;clear hp hpi hst
      go_wp2_with fail
      refine(kx.out _).mono ?_;rintro e w3 ⟨rfl,hb⟩;have hB3:=Lib.hid ((hBr.out.alloc hBr.out.size _).trans (hb.mono (hBr.out.alloc hBr.out.size _).size));clear hb;go_wp2;apply hr.out 12
      · exact hB3.out
      · exact hE9.out
    | some p =>
      obtain⟨hp1,hp2,hp3,_⟩:=pivot_some (by omega) hp;obtain⟨f,rfl⟩:∃f,p=k+f:=⟨p-k,by omega⟩;have hpi:pivI n k M=(f:Int):=by unfold pivI;rw[hp];show ((k+f-k:Nat):Int)=f;rw[Nat.add_sub_cancel_left]
      replace kx:=kx.out;rw[hpi]at kx;replace kx:=Lib.hid kx;replace hp:=Lib.hid hp;replace hp3:=Lib.hid hp3;clear hpi
      go_wp2_with fail
      refine(kx.out _).mono ?_;rintro e w3 ⟨rfl,hb⟩;have hB3:=Lib.hid ((hBr.out.alloc hBr.out.size _).trans (hb.mono (hBr.out.alloc hBr.out.size _).size));have hM3:=Lib.hid (hMk.out.below hb);have hk3:=Lib.hid (hkb.out.below hb);have hI3:=Lib.hid ((hIr.out.alloc (.cells #[.int .i64 (k:Int)] 3)).below hb);clear hb;have c1:=hk3.out.cell;have c2:=hM3.out.hd (k+f) hp2;have c3:=hM3.out.hd k hlt;have c4:=hM3.out.fr (k+f);have c5:=hM3.out.fr k;have c6:=hM3.out.lt;have s0:(0:Int)≤(f:Int):=by omega
      have s1:(0:Int)≤(k:Int)+(f:Int):=by omega
      have s2:(k:Int)+(f:Int)<(n:Int):=by omega
      have s3:(k:Int)<(n:Int):=by omega
      have s4:IntKind.i64.wrap ((k:Int)+(f:Int))=(k:Int)+(f:Int):=IntWalk.i64_in _ (by omega);have s5:((k:Int)+(f:Int)).toNat=k+f:=by omega
      have hkR:wr.heap.size≠R:=Nat.ne_of_gt hM.out.lt;obtain⟨u1,hu1⟩:∃u,(w3.setCell ⟨R,k,none⟩ (.slice (some ⟨bl (k+f),0,none⟩) (n+1) (n+1))).cell? ⟨R,k+f,none⟩=some u:=set_some c3 c2 _;obtain⟨u2,hu2⟩:∃u,(w3.setCell ⟨R,k+f,none⟩ (.slice (some ⟨bl k,0,none⟩) (n+1) (n+1))).cell? ⟨R,k,none⟩=some u:=set_some c2 c3 _
      go_wp2_with fail
      refine swap_reg R n k f wr.heap.size bl w3 c1 c2 c3 c4 c5 hkR hn8 hlt hp2 ?_;intro v84 v85 v86 v87 v88 v89 v90 v91 v92 v93 v94 v95 v96 v97 v98 v99 v100 v101;have hkk:Hid (wr.heap.size≠R∧w.heap.size≠R):=⟨hkR,hnR.out⟩;have hM4:Hid (MatW (((w3.setCell ⟨R,k,none⟩ (.slice (some ⟨bl (k+f),0,none⟩) (n+1) (n+1))).setCell ⟨R,k+f,none⟩ (.slice (some ⟨bl k,0,none⟩) (n+1) (n+1))).drew) w.heap.size R n (swapB k (k+f) bl) (swapR k (k+f) M)):=(hM3.out.swap hlt hp2).drew;have hk4:Hid (Int1 (((w3.setCell ⟨R,k,none⟩ (.slice (some ⟨bl (k+f),0,none⟩) (n+1) (n+1))).setCell ⟨R,k+f,none⟩ (.slice (some ⟨bl k,0,none⟩) (n+1) (n+1))).drew) wr.heap.size k):=(hk3.out.far (p:=⟨R,k,none⟩) hkk.out.1 _).far (p:=⟨R,k+f,none⟩) hkk.out.1 _;have hI4:Hid (Int1 (((w3.setCell ⟨R,k,none⟩ (.slice (some ⟨bl (k+f),0,none⟩) (n+1) (n+1))).setCell ⟨R,k+f,none⟩ (.slice (some ⟨bl k,0,none⟩) (n+1) (n+1))).drew) w.heap.size n):=(hI3.out.far (p:=⟨R,k,none⟩) hkk.out.2 _).far (p:=⟨R,k+f,none⟩) hkk.out.2 _;have hB4:Hid (Below w.heap.size w (((w3.setCell ⟨R,k,none⟩ (.slice (some ⟨bl (k+f),0,none⟩) (n+1) (n+1))).setCell ⟨R,k+f,none⟩ (.slice (some ⟨bl k,0,none⟩) (n+1) (n+1))).drew)):=((hB3.out.setCell hM3.out.lowR _).setCell hM3.out.lowR _).drew;obtain⟨w4,hw4⟩:∃W,W=((w3.setCell ⟨R,k,none⟩ (.slice (some ⟨bl (k+f),0,none⟩) (n+1) (n+1))).setCell ⟨R,k+f,none⟩ (.slice (some ⟨bl k,0,none⟩) (n+1) (n+1))).drew:=⟨_,rfl⟩;rw[←hw4]at hM4 hk4 hI4 hB4 ⊢;clear hw4 hu1 hu2 c1 c2 c3 c4 c5 c6 s0 s1 s2 s4 s5 hkR hM3 hk3 hI3 hB3 hMk hkb kx
      have hO4:Hid (∀i j,i<n→j≤n→OkQ (swapR k (k+f) M i j)):=fun i j hi hj=>by
       unfold swapR
       split
       · exact hO.out _ _ hp2 hj
       · split
         · exact hO.out _ _ hlt hj
         · exact hO.out _ _ hi hj
      have hpv:swapR k (k+f) M k k≠0:=by unfold swapR;rw[if_pos rfl];exact hp3.out
      have hst:stepK SQ n k M=if okDiv SQ n k (swapR k (k+f) M)=true then (match elimTo SQ n k n (divMx k (swapR k (k+f) M)) with | some M'=>.ok M' | none=>.error 2) else .error 2:=by
       unfold stepK;rw[hp.out];try rfl
      replace hst:=Lib.hid hst;generalize swapR k (k+f) M=M1 at *;generalize swapB k (k+f) bl=bl1 at *;replace hpv:=Lib.hid hpv;clear hp3 hp u1 u2;have c1:=hk4.out.cell;have c2:=hM4.out.hd k hlt;have c3:=hM4.out.lt;have c4:=hk4.out.lt;have s0:(k:Int)≤(n:Int)+1:=by omega
      have s1:¬n+1=k:=by omega
      have hcc:Hid (w4.cell? ⟨wr.heap.size,0,none⟩=some (.int .i64 (k:Int))∧w4.cell? ⟨R,k,none⟩=some (.slice (some ⟨bl1 k,0,none⟩) (n+1) (n+1))):=⟨c1,c2⟩
      go_wp2_with fail
      go_region_held3 (fun w'=>w'.cell? ⟨wr.heap.size,0,none⟩=some (.int .i64 (k:Int))∧w'.cell? ⟨R,k,none⟩=some (.slice (some ⟨bl1 k,0,none⟩) (n+1) (n+1))) (first | (with_reducible exact hcc.out) | go_keep) (fail)
      have hv5:Hid (Blk1 (w4.alloc (.cells #[.slice (some ⟨bl1 k,k*3,none⟩) (n+1-k) (n+1-k)] 29)).drew w4.heap.size (.slice (some ⟨bl1 k,k*3,none⟩) (n+1-k) (n+1-k))):=heap_alloc_new w4 _;have hM5:Hid (MatW (w4.alloc (.cells #[.slice (some ⟨bl1 k,k*3,none⟩) (n+1-k) (n+1-k)] 29)).drew w.heap.size R n bl1 M1):=(hM4.out.alloc _).drew;have hk5:Hid (Int1 (w4.alloc (.cells #[.slice (some ⟨bl1 k,k*3,none⟩) (n+1-k) (n+1-k)] 29)).drew wr.heap.size k):=hk4.out.alloc _;have hI5:Hid (Int1 (w4.alloc (.cells #[.slice (some ⟨bl1 k,k*3,none⟩) (n+1-k) (n+1-k)] 29)).drew w.heap.size n):=hI4.out.alloc _;have hB5:Hid (Below w.heap.size w (w4.alloc (.cells #[.slice (some ⟨bl1 k,k*3,none⟩) (n+1-k) (n+1-k)] 29)).drew):=(hB4.out.alloc hB4.out.size _).drew;obtain⟨w5,hw5⟩:∃W,W=(w4.alloc (.cells #[.slice (some ⟨bl1 k,k*3,none⟩) (n+1-k) (n+1-k)] 29)).drew:=⟨_,rfl⟩;rw[←hw5]at hv5 hM5 hk5 hI5 hB5 ⊢;clear hw5 hM4 hk4 hI4 hB4 c1 c2 c3 c4 s0 hcc hM hBr hIr;generalize w4.heap.size=vb at *;generalize wr.heap.size=kb at *;obtain⟨pg,pn,pd,hpq⟩:=raw_ex (M1 k k);have e0:=(hM5.out.rows k hlt).cell (j:=k) (by omega);rw[hpq]at e0;obtain⟨e1,e2,e3⟩:=e0;have e4:=(hM5.out.rows k hlt).lt;have v1:=hv5.out.cell;have v2:=hv5.out.lt;have v3:0<n+1-k:=by omega
      replace hpq:=Lib.hid hpq;have hM6:=Lib.hid (hM5.out.alloc (.cells #[.bool pg,.string pn,.string pd] 37));have hk6:=Lib.hid (hk5.out.alloc (.cells #[.bool pg,.string pn,.string pd] 37));have hI6:=Lib.hid (hI5.out.alloc (.cells #[.bool pg,.string pn,.string pd] 37));have hv6:=Lib.hid (hv5.out.alloc (.cells #[.bool pg,.string pn,.string pd] 37));have hB6:=Lib.hid (hB5.out.alloc hB5.out.size (.cells #[.bool pg,.string pn,.string pd] 37));have hp6:Hid (B3 (w5.alloc (.cells #[.bool pg,.string pn,.string pd] 37)) w5.heap.size (rq (M1 k k)).1 (rq (M1 k k)).2.1 (rq (M1 k k)).2.2):=by rw[hpq.out];exact B3.new w5 _ _ _
      have hpb:=Lib.hid (hp6.out.ne_row (hM6.out.rows k hlt) (by omega))
      cases hd:okDiv SQ n k M1 with
      | false =>
        obtain⟨t,t1,t2,t3,t4⟩:=okDiv_bad hd;have kd:=Lib.hid (fun c=>changeD_er w.heap.size (bl1 k) k (n+1) c (fun j=>M1 k j) (M1 k k) w5.heap.size _ ((EnvB.of hE.out).below hB6.out) (hM6.out.low k hlt) (hM6.out.rows k hlt) (by omega) (by omega) hp6.out hpb.out hpv.out t t1 (by omega) t3 t4 (fun j _ h2=>hO4.out k j hlt (by omega)) (hO4.out k k hlt (by omega)));rw[hd,if_neg (by simp)]at hst;have hE9:=Lib.hid (solve_err hS.out hst.out hlt);have hlo:=Lib.hid (hM6.out.low k hlt);clear t1 t2 t3 t4 hd
        go_wp2_with fail
        refine(kd.out _).mono ?_;rintro e w7 ⟨rfl,hg⟩;have hB7:=Lib.hid (hB6.out.trans (below_grown hg hlo.out hB6.out.size));clear hg e1 e2 e3 e4 v1 v2;go_wp2;apply hr.out 2
        · exact hB7.out
        · exact hE9.out
      | true =>
        have hok:=(okDiv_iff SQ).1 hd;have kd:=Lib.hid (fun c=>changeD_ok w.heap.size (bl1 k) k (n+1) c (fun j=>M1 k j) (M1 k k) w5.heap.size _ ((EnvB.of hE.out).below hB6.out) (hM6.out.low k hlt) (hM6.out.rows k hlt) (by omega) (by omega) hp6.out hpb.out hpv.out fun j h1 h2=>⟨of_decide_eq_true (hok j h1 (by omega)).1,of_decide_eq_true (hok j h1 (by omega)).2⟩);rw[hd,if_pos rfl]at hst
        have hO7:Hid (∀i j,i<n→j≤n→OkQ (divMx k M1 i j)):=fun i j hi hj=>by
         unfold divMx
         split
         · rename_i hc;exact okQ_div (of_decide_eq_true (hok j hc.2 hj).1) (of_decide_eq_true (hok j hc.2 hj).2) hpv.out
         · exact hO4.out i j hi hj
        have hlo:=Lib.hid (hM6.out.low k hlt);clear hd hok
        go_wp2_with fail
        refine(kd.out _).mono ?_;rintro e w7 ⟨rfl,hg,hr⟩;have hB7:=Lib.hid (hB6.out.trans (below_grown hg hlo.out hB6.out.size))
        have hM7:=Lib.hid (hM6.out.change hlt hg (M':=divMx k M1) (hr.congr fun j hj=>by
         unfold divMx
         by_cases h1:k≤j
         · rw[if_pos h1,if_pos ⟨rfl,h1⟩]
         · rw[if_neg h1,if_neg fun h=>h1 h.2]) (fun i hi hne=>by funext j;unfold divMx;rw[if_neg fun h=>hne h.1]))
        have hk7:=Lib.hid (hk6.out.grown hg (hk6.out.ne_row (hM6.out.rows k hlt)));have hI7:=Lib.hid (hI6.out.grown hg (hI6.out.ne_row (hM6.out.rows k hlt)));have hv7:=Lib.hid (hv6.out.grown hg (hv6.out.ne_row (hM6.out.rows k hlt)));clear hg hr e1 e2 e3 e4 v1 v2 kd hM6 hk6 hI6 hv6 hB6 hp6 hpb hM5 hk5 hI5 hv5 hB5 hlo;generalize divMx k M1=M2 at *;go_wp2;clear hpq hO4 hpv;refine inner_loop R n k kb vb bl1 M2 w w7 hE.out hn8 hlt ⟨M2,rfl,hM7,hO7,hB7,hI7,hk7,hv7⟩ ?_ ?_
        · intro z4 z5 z14 z15 z16 z17 z119 z120 z121 z122 z123 z124 z125 z126 z127 z128 z129 z130 z131 z132 z133 z134 z135 z136 z137 z138 z139 z140 z141 z142 z143 z144 wq hq;obtain⟨M3,hel,hM3,hO3,hBq,hIq,hkq,hvq⟩:=hq
          have hst2:Hid (solveTo SQ n (k+1) M0=.ok M3):=by
           show solveTo SQ n (k+1) M0=.ok M3
           unfold solveTo;rw[hS.out]
           show stepK SQ n k M=.ok M3
           rw[hst.out,hel.out]
          clear hM7 hO7 hB7 hI7 hk7 hv7;go_wp2
          go_roundw
          case rel=>exact⟨k+1,by omega,by go_num,bl1,M3,hst2,hM3,hO3,hBq,hIq⟩
          case measure=>simp[intOf];omega
        · intro z14 z15 z16 z17 z119 z120 z121 z122 z123 z124 z125 z126 z127 z128 z129 z130 z131 z132 z133 z134 z135 z136 z137 z138 z139 z140 z141 z142 z143 z144 wq hbq hnone;have hE9:=Lib.hid (solve_err hS.out (show stepK SQ n k M=.error 2 by rw[hst.out,hnone]) hlt);replace hbq:=Lib.hid hbq;replace hnone:=Lib.hid hnone;clear hM7 hO7 hB7 hI7 hk7 hv7;go_wp2;apply hr.out 2
          · exact hbq.out
          · exact hE9.out
  · obtain rfl:n=k:=by omega
    go_wp2;apply hx.out;exact hI.out
end Nt
end
section
open Go.RowKit Go.Shelf
namespace Nt
theorem infoRS:(Tryz.prog.info? 29).map (fun i=>(i.zero,i.size,i.bytes))=some (some (.slice none 0 0),1,24):=by kernel_rfl
structure MatP (W:World) (B R n i:Nat) (bl:Nat→Nat) (M:Mx):Prop where
 lt:R<W.heap.size
 hd:∀x,x<i→W.cell? ⟨R,x,none⟩=some (.slice (some ⟨bl x,0,none⟩) (n+1) (n+1))
 hz:∀x,i≤x→x<n→W.cell? ⟨R,x,none⟩=some (.slice none 0 0)
 fr:∀x,W.frozen? ⟨R,x,none⟩=false
 rows:∀x,x<i→RowB W (bl x) (n+1) fun j=>rq (M x j)
 inj:∀x y,x<i→y<i→bl x=bl y→x=y
 ne:∀x,x<i→bl x≠R
 lowR:B≤R
 low:∀x,x<i→B≤bl x
theorem MatP.start (w:World) {B:Nat} (hB:B≤w.heap.size) (n:Nat) (M:Mx):MatP (w.alloc (.cells (madeCells #[.slice none 0 0] n) 29)) B w.heap.size n 0 (fun _=>0) M:=by
 have h:=heap_alloc_new w (.cells (madeCells #[(.slice none 0 0:Value)] n) 29);refine⟨by simp,fun x h=>absurd h (by omega),fun x _ hx=>?_,fun x=>by simp only[World.frozen?,h];simp,fun x h=>absurd h (by omega),fun x _ h=>absurd h (by omega),fun x h=>absurd h (by omega),hB,fun x h=>absurd h (by omega)⟩;simp only[World.cell?,h];simp[madeCells,hx];rw[Nat.mod_one];rfl
theorem MatP.done {W:World} {B R n:Nat} {bl:Nat→Nat} {M:Mx} (h:MatP W B R n n bl M):MatW W B R n bl M:=⟨h.lt,h.hd,h.fr,h.rows,h.inj,h.ne,h.lowR,h.low⟩
structure Laid (W W':World) (R i:Nat) (v:Value) (m:Nat) (r:Nat→Raw):Prop where
 os:W'.os=W.os
 tape:W'.tape=W.tape
 output:W'.output=W.output
 size:W.heap.size<W'.heap.size
 hd:∀x,W'.cell? ⟨R,x,none⟩=if x=i then some v else W.cell? ⟨R,x,none⟩
 fr:∀x,W'.frozen? ⟨R,x,none⟩=W.frozen? ⟨R,x,none⟩
 new:RowB W' W.heap.size m r
 block:∀k,k<W.heap.size→k≠R→W'.heap[k]? = W.heap[k]?
theorem Laid.start {W:World} {R i m:Nat} {v u:Value} {r:Nat→Raw} (hc:W.cell? ⟨R,i,none⟩=some u) (hR:R<W.heap.size):Laid W ((W.setCell ⟨R,i,none⟩ v).alloc (.cells (rowL m r).toArray 37)) R i v m r:=by
 have hsz:(W.setCell ⟨R,i,none⟩ v).heap.size=W.heap.size:=by simp
 refine⟨rfl,rfl,rfl,by simp,fun x=>?_,fun x=>?_,?_,fun k hk hne=>?_⟩
 · rw[World.cell?_alloc_lt _ _ _ (by rw[hsz];exact hR)]
   by_cases e:x=i
   · rw[if_pos e,e];exact World.cell?_setCell_same W _ _ hc
   · rw[if_neg e,World.cell?_setCell_other _ _ _ _ (by intro e2;injection e2 with _ e3;first | exact e e3 | exact e e3.symm)]
 · have h1:=World.frozen?_of_block (w:=W.setCell ⟨R,i,none⟩ v) (w':=(W.setCell ⟨R,i,none⟩ v).alloc (.cells (rowL m r).toArray 37)) (a:=⟨R,x,none⟩) (Below.heap_alloc _ _ R (by rw[hsz];exact hR));rw[h1];simp
 · have h:=heap_alloc_new (W.setCell ⟨R,i,none⟩ v) (.cells (rowL m r).toArray 37);rw[hsz]at h;exact h
 · exact(Below.heap_alloc _ _ k (by rw[hsz];exact hk)).trans (Below.heap_setCell _ _ _ _ hne)
theorem Laid.drew {W W':World} {R i m:Nat} {v:Value} {r:Nat→Raw} (h:Laid W W' R i v m r):Laid W W'.drew R i v m r:=⟨h.os,h.tape,h.output,h.size,h.hd,h.fr,h.new,h.block⟩
theorem Laid.cell {W W':World} {R i m:Nat} {v:Value} {r:Nat→Raw} (h:Laid W W' R i v m r) {p:Addr} (hp:p.block<W.heap.size) (hne:p.block≠R):W'.cell? p=W.cell? p:=World.cell?_of_block (h.block _ hp hne)
theorem rowL_cells {W:World} {b o n:Nat} {r:Nat→Raw} (h:∀j,j<n→W.cell? ⟨b,o+j*3,none⟩=some (.bool (r j).1)∧W.cell? ⟨b,o+j*3+1,none⟩=some (.string (r j).2.1)∧W.cell? ⟨b,o+j*3+2,none⟩=some (.string (r j).2.2)) :
 ∀t v,(rowL n r)[t]? = some v→W.cell? ((⟨b,o,none⟩:Addr).add t)=some v:=by
 intro t v hv;have hl:=rowL_length n r;have ht:t<n*3:=by rw[←hl];exact(List.getElem?_eq_some_iff.1 hv).1
 have h1:=rowL_get r (m:=n) (j:=t/3) (by omega) (t%3) (by omega);rw[show t/3*3+t%3=t by omega,hv]at h1;have ha:(⟨b,o,none⟩:Addr).add t=⟨b,o+t,none⟩:=by unfold Addr.add;split<;>simp_all
 rw[ha];obtain⟨c1,c2,c3⟩:=h (t/3) (by omega);have h6:t%3=0∨t%3=1∨t%3=2:=by omega
 rcases h6 with h6 | h6 | h6
 · rw[h6]at h1;rw[show t=t/3*3 by omega,c1];simpa [rawL] using h1.symm
 · rw[h6]at h1;rw[show o+t=o+t/3*3+1 by omega,c2];simpa [rawL] using h1.symm
 · rw[h6]at h1;rw[show o+t=o+t/3*3+2 by omega,c3];simpa [rawL] using h1.symm
theorem rowL_one (n:Nat) (r:Nat→Raw):∀v∈rowL n r,v.oneCell'=true:=by
 intro v hv;unfold rowL at hv;rw[List.mem_flatMap]at hv;obtain⟨j,_,hj⟩:=hv;simp only[rawL,List.mem_cons,List.not_mem_nil,or_false]at hj
 rcases hj with rfl | rfl | rfl<;>rfl
theorem rowL_over (n:Nat) (r:Nat→Raw) (z:Raw):rowL n r++(rowL (n+1) fun _=>z).drop (rowL n r).length=rowL (n+1) fun j=>if j<n then r j else z:=by
 have h1:=rowL_length n r;have h2:=rowL_length n fun _=>z;rw[rowL_succ n fun _=>z,rowL_succ,h1,←h2,List.drop_left,if_neg (by omega)]
 congr 1
 exact rowL_congr fun j hj=>(if_pos hj).symm
theorem Laid.copy {W W':World} {R i n:Nat} {v:Value} {z:Raw} (h:Laid W W' R i v (n+1) fun _=>z) (hR:R<W.heap.size) (r:Nat→Raw) :
 Laid W (W'.setRow W.heap.size (rowL n r++(rowL (n+1) fun _=>z).drop (rowL n r).length).toArray) R i v (n+1) fun j=>if j<n then r j else z:=by
 have hne:R≠W.heap.size:=by omega
 have ho:=setRow_other W' W.heap.size R (rowL n r++(rowL (n+1) fun _=>z).drop (rowL n r).length).toArray hne;refine⟨h.os,h.tape,h.output,by have:=h.size;simpa [World.setRow] using this,fun x=>?_,fun x=>?_,?_,fun k hk hkR=>?_⟩
 · exact(World.cell?_of_block (a:=⟨R,x,none⟩) ho).trans (h.hd x)
 · exact(World.frozen?_of_block (a:=⟨R,x,none⟩) ho).trans (h.fr x)
 · have:=setRow_heap W' W.heap.size (rowL (n+1) fun _=>z).toArray (rowL n r++(rowL (n+1) fun _=>z).drop (rowL n r).length).toArray 37 (0,0) h.new;unfold RowB;rw[this,rowL_over]
 · exact(setRow_other W' W.heap.size k _ (by omega)).trans (h.block k hk hkR)
theorem Laid.store {W W':World} {R i n:Nat} {v:Value} {r:Nat→Raw} (h:Laid W W' R i v (n+1) r) (hR:R<W.heap.size) (x:Raw) :
 Laid W ((((W'.setCell ⟨W.heap.size,n*3,none⟩ (.bool x.1)).setCell ⟨W.heap.size,n*3+1,none⟩ (.string x.2.1)).setCell ⟨W.heap.size,n*3+2,none⟩ (.string x.2.2)).drew) R i v (n+1) fun j=>if j=n then x else r j:=by
 have ho:∀k,k≠W.heap.size→(((W'.setCell ⟨W.heap.size,n*3,none⟩ (.bool x.1)).setCell ⟨W.heap.size,n*3+1,none⟩ (.string x.2.1)).setCell ⟨W.heap.size,n*3+2,none⟩ (.string x.2.2)).drew.heap[k]? = W'.heap[k]?:=fun k hk =>
  ((Below.heap_setCell _ _ _ _ (by exact hk)).trans (Below.heap_setCell _ _ _ _ (by exact hk))).trans (Below.heap_setCell _ _ _ _ (by exact hk))
 refine⟨h.os,h.tape,h.output,by have:=h.size;simpa using this,fun y=>?_,fun y=>?_,h.new.set (by omega) x,fun k hk hkR=>?_⟩
 · exact(World.cell?_of_block (a:=⟨R,y,none⟩) (ho R (by omega))).trans (h.hd y)
 · exact(World.frozen?_of_block (a:=⟨R,y,none⟩) (ho R (by omega))).trans (h.fr y)
 · exact(ho k (by omega)).trans (h.block k hk hkR)
theorem Laid.congr {W W':World} {R i m:Nat} {v:Value} {r s:Nat→Raw} (h:Laid W W' R i v m r) (e:∀j,j<m→r j=s j):Laid W W' R i v m s:=⟨h.os,h.tape,h.output,h.size,h.hd,h.fr,h.new.congr e,h.block⟩
theorem Laid.bel {w W W':World} {R i m:Nat} {v:Value} {r:Nat→Raw} (h:Laid W W' R i v m r) (hb:Below w.heap.size w W) (hR:w.heap.size≤R):Below w.heap.size w W' :=
 ⟨h.os.trans hb.os,h.tape.trans hb.tape,h.output.trans hb.output,by have:=hb.size;have:=h.size;omega,fun k hk=>(h.block k (by have:=hb.size;omega) (by omega)).trans (hb.block k hk)⟩
theorem MatP.step {W W':World} {B R n i:Nat} {bl:Nat→Nat} {M:Mx} (h:MatP W B R n i bl M) (hB:B≤W.heap.size)
 (hL:Laid W W' R i (.slice (some ⟨W.heap.size,0,none⟩) (n+1) (n+1)) (n+1) fun j=>rq (M i j)):MatP W' B R n (i+1) (fun x=>if x=i then W.heap.size else bl x) M:=by
 have hlt:∀x,x<i→bl x<W.heap.size:=fun x hx=>(h.rows x hx).lt;refine⟨by have:=h.lt;have:=hL.size;omega,fun x hx=>?_,fun x h1 h2=>?_,fun x=>(hL.fr x).trans (h.fr x),fun x hx=>?_,fun x y hx hy e=>?_,fun x hx=>?_,h.lowR,fun x hx=>?_⟩
 · rw[hL.hd]
   by_cases e:x=i
   · rw[if_pos e,if_pos e]
   · rw[if_neg e,if_neg e];exact h.hd x (by omega)
 · rw[hL.hd,if_neg (by omega)];exact h.hz x (by omega) h2
 · by_cases e:x=i
   · rw[if_pos e,e];exact hL.new
   · rw[if_neg e];exact(hL.block _ (hlt x (by omega)) (h.ne x (by omega))).trans (h.rows x (by omega))
 · by_cases e1:x=i
   · by_cases e2:y=i
     · omega
     · rw[if_pos e1,if_neg e2]at e;have:=hlt y (by omega);omega
   · by_cases e2:y=i
     · rw[if_neg e1,if_pos e2]at e;have:=hlt x (by omega);omega
     · rw[if_neg e1,if_neg e2]at e;exact h.inj x y (by omega) (by omega) e
 · by_cases e:x=i
   · rw[if_pos e];have:=h.lt;omega
   · rw[if_neg e];exact h.ne x (by omega)
 · by_cases e:x=i
   · rw[if_pos e];exact hB
   · rw[if_neg e];exact h.low x (by omega)
theorem raw_new (w:World) (a:Bool) (b c:ByteArray) (t:TypeId):∀j u,(rawL (a,b,c))[j]? = some u→(w.alloc (.cells #[.bool a,.string b,.string c] t)).cell? (Addr.add ⟨w.heap.size,0,none⟩ j)=some u:=by
 intro j u hj
 match j,hj with
 | 0,hj=>simp[rawL]at hj;subst hj;simp[Addr.add]
 | 1,hj=>simp[rawL]at hj;subst hj;simp[Addr.add]
 | 2,hj=>simp[rawL]at hj;subst hj;simp[Addr.add]
 | j+3,hj=>simp[rawL]at hj
theorem raw_cell (x:Raw):∀u∈rawL x,u.oneCell'=true:=by
 intro u hu;simp[rawL]at hu
 rcases hu with rfl | rfl | rfl<;>rfl
theorem own_mono {w:World} {B B':Nat} {t:TypeId} {size:Nat} {v:Value} {n:Nat} {xs:List Value} (hb:B≤B') (h:w.ownsRow B' t size v n xs):w.ownsRow B t size v n xs:=by
 obtain⟨h1,h2⟩:=h;refine⟨h1,?_⟩
 rcases h2 with h2 | ⟨g,cap,cur,hv,hg,hh⟩
 · exact .inl h2
 · exact .inr ⟨g,cap,cur,hv,Nat.le_trans hb hg,hh⟩
theorem Solve_any (Aa Ab:Option Addr) (n ca cb:Nat) (la:List RowH) (lb:List Raw) (M0:Mx) (w:World) (hE:Env w) (ha:la.length=n) (hb0:lb.length=n) (hs:SysIn w Aa Ab la lb) (hv:allV lb=true) (hm:matOk n la=true) (hn8:n≤8)
 (hMa:∀i (h:i<la.length),la[i].2.2.length=n∧∀j (h2:j<la[i].2.2.length),la[i].2.2[j]=rq (M0 i j)) (hMb:∀i (h:i<lb.length),lb[i]=rq (M0 i n)) (hOk:∀i j,i<n→j≤n→OkQ (M0 i j)) :
 Calls Tryz.prog 49 #[.slice Aa n ca,.slice Ab n cb] w (SolvePost n M0 w):=by
 have kv:=lvalid_any Ab cb lb (nW w n) (hE.below (nW_below _ _)) (hs.below (nW_below _ _)).mb hs.nb hs.zb;have ka:=fun W (h1:Env W) (h2:Int1 W w.heap.size n) (h3:SysIn W Aa Ab la lb)=>cont2_any n Aa ca la w.heap.size W h1 h2 h3.ma h3.na h3.za;have hmk:=run_make_row' (P:=Tryz.prog) 72 29 (.slice none 0 0) 24 Tryz.underlying72 infoRS rfl .i64 .i64 n (by omega) (by omega);rw[hv,hb0]at kv;rw[hm,ha]at ka;replace kv:=Lib.hid kv;replace ka:=Lib.hid ka;replace hs:=Lib.hid hs;replace hE:=Lib.hid hE;replace hMa:=Lib.hid hMa;replace hOk:=Lib.hid hOk;replace hMb:=Lib.hid hMb;replace ha:=Lib.hid ha;replace hb0:=Lib.hid hb0;clear hv hm;go_enter Tryz.func49,Tryz.ntmps49
 go_wp2_with fail
 refine kv.out.mono ?_;rintro e w1 ⟨rfl,hb⟩;have hB:=Lib.hid ((nW_below w n).trans (hb.mono (by simp)));have hn:=Lib.hid ((Int1.new w n).below hb);clear hb
 go_wp2_with fail
 refine(ka.out _ (hE.out.below hB.out) hn.out (hs.out.below hB.out)).mono ?_;rintro e w2 ⟨rfl,hb⟩;have hB2:=Lib.hid (hB.out.trans (hb.mono hB.out.size));have hn2:=Lib.hid (hn.out.below hb);have c1:=hn2.out.cell;have c2:=hn2.out.lt;have c3:Hid (Int1 (w2.alloc (.cells (madeCells #[(.slice none 0 0:Value)] n) 29)) w.heap.size n):=hn2.out.alloc _;have hP:Hid (MatP (w2.alloc (.cells (madeCells #[(.slice none 0 0:Value)] n) 29)) w.heap.size w2.heap.size n 0 (fun _=>0) M0):=MatP.start w2 hB2.out.size n M0;have hB3:Hid (Below w.heap.size w (w2.alloc (.cells (madeCells #[(.slice none 0 0:Value)] n) 29))):=hB2.out.alloc hB2.out.size _;clear hb;go_wp2;obtain⟨R,hR⟩:∃R,R=w2.heap.size:=⟨_,rfl⟩;rw[←hR]at hP ⊢;have hnR:Hid (w.heap.size≠R):=by rw[hR];exact Nat.ne_of_lt c2
 clear hmk c1 c2;replace hR:=Lib.hid hR;have hmk2:=run_make_q 29 Tryz.underlying29 (n+1) (by omega);rw[show ((n+1:Nat):Int)=(n:Int)+1 by omega]at hmk2
 go_loopw [43] (fun i wr=>∃(y:Nat) (bl:Nat→Nat),y≤n∧i=.int .i64 (y:Int)∧Hid (MatP wr w.heap.size R n y bl M0)∧Hid (Below w.heap.size w wr)∧Hid (Int1 wr w.heap.size n)) (fun i _=>n-(intOf i).toNat)
 case atStart=>exact⟨0,_,Nat.zero_le _,rfl,hP,hB3,c3⟩
 case round =>
  obtain⟨i,bl,hi,rfl,hQ,hBr,hIr⟩:=hrel
  by_cases hlt:i<n
  · obtain ⟨ba,oa,rfl,hba,hca⟩:=hs.out.ma (by rw[ha.out];omega);obtain⟨bb,ob,rfl,hbb,hcb⟩:=hs.out.mb (by rw[hb0.out];omega);obtain⟨a1,hrow⟩:=hca i (by rw[ha.out];exact hlt);obtain⟨b1,b2,b3⟩:=hcb i (by rw[hb0.out];exact hlt);clear hca hcb;obtain⟨hl,hlj⟩:=hMa.out i (by rw[ha.out];exact hlt);obtain⟨bx,ox,hax,hbx,hcx⟩:=hrow (by rw[hl];omega);rw[hl,hax]at a1
    have hcx2:Hid (∀j,j<n→w.cell? ⟨bx,ox+j*3,none⟩=some (.bool (rq (M0 i j)).1)∧w.cell? ⟨bx,ox+j*3+1,none⟩=some (.string (rq (M0 i j)).2.1)∧w.cell? ⟨bx,ox+j*3+2,none⟩=some (.string (rq (M0 i j)).2.2)):=fun j hj=>by
     have h1:=hcx j (by rw[hl];exact hj);rw[hlj j (by rw[hl];exact hj)]at h1;exact h1
    rw[hMb.out i (by rw[hb0.out];exact hlt)]at b1 b2 b3;clear hl hlj hax hcx hrow;generalize (la[i]'(by rw[ha.out];exact hlt)).2.1=ci at *;replace a1:=(hBr.out.cell (p:=⟨ba,oa+i,none⟩) hba).trans a1;replace b1:=(hBr.out.cell (p:=⟨bb,ob+i*3,none⟩) hbb).trans b1;replace b2:=(hBr.out.cell (p:=⟨bb,ob+i*3+1,none⟩) hbb).trans b2;replace b3:=(hBr.out.cell (p:=⟨bb,ob+i*3+2,none⟩) hbb).trans b3;have i0:(0:Int)≤(i:Int):=by omega
    have i1:(i:Int)<(n:Int):=by omega
    have r1:=hQ.out.hz i (Nat.le_refl _) hlt;have r2:=hQ.out.fr i;have r3:=hQ.out.lt;have n1:=hIr.out.cell;have n2:=hIr.out.lt
    go_wp2_with fail
    obtain⟨W1,hW1⟩:∃W,W=(wr.setCell ⟨R,i,none⟩ (.slice (some ⟨wr.heap.size,0,none⟩) (n+1) (n+1))).alloc (.cells (rowL (n+1) fun _=>zraw).toArray 37):=⟨_,rfl⟩;rw[←hW1];have hP1:Hid (Laid wr W1 R i (.slice (some ⟨wr.heap.size,0,none⟩) (n+1) (n+1)) (n+1) fun _=>zraw):=by rw[hW1];exact Laid.start r1 r3
    have hlow:=hQ.out.lowR;have d1:W1.cell? ⟨R,i,none⟩=some (.slice (some ⟨wr.heap.size,0,none⟩) (n+1) (n+1)):=(hP1.out.hd i).trans (if_pos rfl);have hsz:=hBr.out.size;have d2:=(hP1.out.cell (p:=⟨ba,oa+i,none⟩) (by show ba<_;omega) (by show ba≠R;omega)).trans a1
    have hcp:∀ty,(Builtin.copy_ #[29,29] ty #[.slice (some ⟨wr.heap.size,0,none⟩) (n+1) (n+1),.slice (some ⟨bx,ox,none⟩) n ci]).run Tryz.prog W1.drew=.ok (goInt n) (W1.drew.setRow wr.heap.size (rowL n (fun j=>rq (M0 i j))++(rowL (n+1) fun _=>zraw).drop (rowL n (fun j=>rq (M0 i j))).length).toArray):=fun ty =>
     run_copy_q W1.drew _ _ ty wr.heap.size (n+1) (n+1) ⟨bx,ox,none⟩ n ci (rowL (n+1) fun _=>zraw) (rowL n fun j=>rq (M0 i j)) Tryz.underlying29 hP1.out.drew.new (rowL_length _ _) (by omega)
      (rowL_cells fun j hj=>by
        obtain⟨k1,k2,k3⟩:=hcx2.out j hj;have q:∀o,W1.drew.cell? ⟨bx,o,none⟩=w.cell? ⟨bx,o,none⟩:=fun o=>(hP1.out.cell (p:=⟨bx,o,none⟩) (by show bx<_;omega) (by show bx≠R;omega)).trans (hBr.out.cell (p:=⟨bx,o,none⟩) hbx);exact⟨(q _).trans k1,(q _).trans k2,(q _).trans k3⟩) (by rw[rowL_length,rowL_length];omega) (rowL_one _ _)
    have hP2:=Lib.hid (hP1.out.drew.copy r3 (fun j=>rq (M0 i j)));clear hW1 hmk2 a1 r1 r2;generalize (rowL n (fun j=>rq (M0 i j))++(rowL (n+1) fun _=>zraw).drop (rowL n (fun j=>rq (M0 i j))).length).toArray=cells2 at *;go_region;obtain⟨W2,hW2⟩:∃W,W=W1.drew.setRow wr.heap.size cells2:=⟨_,rfl⟩;rw[←hW2]at hP2 ⊢;clear hW2 hcp d1 d2;have d1:W2.cell? ⟨R,i,none⟩=some (.slice (some ⟨wr.heap.size,0,none⟩) (n+1) (n+1)):=(hP2.out.hd i).trans (if_pos rfl);have d2:=hP2.out.block w.heap.size (by omega) hnR.out;have hI2:Hid (Int1 W2 w.heap.size n):=d2.trans hIr.out;clear d2 n1;have n1:=hI2.out.cell;replace b1:=(hP2.out.cell (p:=⟨bb,ob+i*3,none⟩) (by show bb<_;omega) (by show bb≠R;omega)).trans b1;replace b2:=(hP2.out.cell (p:=⟨bb,ob+i*3+1,none⟩) (by show bb<_;omega) (by show bb≠R;omega)).trans b2;replace b3:=(hP2.out.cell (p:=⟨bb,ob+i*3+2,none⟩) (by show bb<_;omega) (by show bb≠R;omega)).trans b3;obtain⟨z1,z2,z3⟩:=hP2.out.new.cell (j:=n) (by omega);rw[if_neg (by omega)]at z1 z2 z3;have f1:=hP2.out.new.frozen (n*3);have f2:=hP2.out.new.frozen (n*3+1);have f3:=hP2.out.new.frozen (n*3+2);have j0:(0:Int)≤(n:Int):=by omega
    have j1:(n:Int)<(n:Int)+1:=by omega
    have l1:=hP2.out.new.lt
    go_wp2_with fail
    go_region
    have hP3:=Lib.hid ((hP2.out.store r3 (rq (M0 i n))).congr (s:=fun j=>rq (M0 i j)) fun j hj=>by
     by_cases e:j=n
     · rw[if_pos e,e]
     · rw[if_neg e,if_pos (by omega)])
    have hQ3:=Lib.hid (hQ.out.step hsz hP3.out);have hB9:=Lib.hid (hP3.out.bel hBr.out hlow);have hI3:=Lib.hid ((hP3.out.block w.heap.size (by omega) hnR.out).trans hIr.out);go_wp2
    go_roundw
    case rel=>exact⟨i+1,_,by omega,by go_num,hQ3,hB9,hI3⟩
    case measure=>simp[intOf];omega
  · obtain rfl:n=i:=by omega
    have hM0:=Lib.hid hQ.out.done;clear hQ;go_wp2;have hn8:n≤8:=hn8;clear hP hB3 c3 hlt hmk2;refine outer_loop R n M0 w _ hE.out hn8 hnR.out ⟨bl,M0,rfl,hM0,hOk,hBr,hIr⟩ ?_ ?_
    · intro u4 u5 u9 u10 u11 u12 u13 u14 u15 u16 u17 u74 u75 u76 u77 u78 u79 u80 u81 u82 u83 u84 u85 u86 u87 u88 u89 u90 u91 u92 u93 u94 u95 u96 u97 u98 u99 u100 u101 u102 u103 u104 u105 u106 u107 u108 u109 u110 u111 u112 u113 u114 u115 u116 u117 u118 u119 u120 u121 u122 u123 u124 u125 u126 u127 u128 u129 u130 u131 u132 u133 u134 u135 u136 u137 u138 u139 u140 u141 u142 u143 u144 u145 wq hq;clear hM0 hBr hIr;obtain⟨bl2,M,hS,hM,hO,hBr,hIr⟩:=hq;have hnw:=hBr.out.size;have hIc:=hIr.out.cell;have hIl:=hIr.out.lt;have hRl:=hM.out.lt;obtain⟨i0,hi0,hzz⟩:=Option.map_eq_some_iff.1 infoQ;simp only[Prod.mk.injEq]at hzz;obtain⟨hz0,hz1,hz2⟩:=hzz;go_wp2;replace hi0:=Lib.hid hi0;replace hz0:=Lib.hid hz0;replace hz1:=Lib.hid hz1;replace hz2:=Lib.hid hz2
      go_loopw [18,148] (fun v i wz=>∃y:Nat,y≤n∧i=.int .i64 (y:Int)∧Hid (wz.ownsRow wq.heap.size 37 3 v y (rowL y fun i=>rq (M i n)))∧Hid (Below wq.heap.size wq wz)) (fun _ i _=>n-(intOf i).toNat)
      case atStart=>exact⟨0,Nat.zero_le _,rfl,World.ownsRow_nil _ _ _ _,Below.refl _ _⟩
      case round =>
       obtain⟨y,hy,rfl,hown,hbz⟩:=hrel
       by_cases hlt9:y<n
       · have g1:=(hbz.out.cell (p:=⟨R,y,none⟩) hRl).trans (hM.out.hd y hlt9);obtain⟨e1,e2,e3⟩:=(hM.out.rows y hlt9).cell (j:=n) (by omega);have e4:=(hM.out.rows y hlt9).lt;replace e1:=(hbz.out.cell (p:=⟨bl2 y,n*3,none⟩) e4).trans e1;replace e2:=(hbz.out.cell (p:=⟨bl2 y,n*3+1,none⟩) e4).trans e2;replace e3:=(hbz.out.cell (p:=⟨bl2 y,n*3+2,none⟩) e4).trans e3;have g2:=(hbz.out.cell (p:=⟨w.heap.size,0,none⟩) hIl).trans hIc;have g3:(n:Int)<(n:Int)+1:=by omega
         have g4:(0:Int)≤(n:Int):=by omega
         have g5:(0:Int)≤(y:Int):=by omega
         have g6:(y:Int)<(n:Int):=by omega
         have hszz:=hbz.out.size;clear e4 hnw hIc hIl hRl;obtain⟨rv,hrv⟩:∃x,x=rq (M y n):=⟨_,rfl⟩;rw[←hrv]at e1 e2 e3;obtain⟨ra,rb,rc⟩:=rv;replace hrv:=Lib.hid hrv;replace e1:wr.cell? ⟨bl2 y,n*3,none⟩=some (.bool ra):=e1;replace e2:wr.cell? ⟨bl2 y,n*3+1,none⟩=some (.string rb):=e2;replace e3:wr.cell? ⟨bl2 y,n*3+2,none⟩=some (.string rc):=e3
         go_wp2_with (at_builtin;refine wpList_append_own _ rfl _ _ 29 rfl wq.heap.size 37 i0 (.agg #[.bool false,.string ⟨#[]⟩,.string ⟨#[]⟩]) 3 40 Tryz.underlying29 hi0.out hz0.out hz1.out hz2.out rfl (by decide) u18 y (rowL y fun i=>rq (M i n)) rfl (hown.out.alloc _) ⟨wr.heap.size,0,none⟩ 1 1 (rawL (ra,rb,rc)) rfl rfl (raw_new _ _ _ _ _) (raw_cell _) (by unfold maxLen;omega) (by omega) (by simp;omega) ?_;intro v2 w2 hown2 hgr2 _)
         refine⟨⟨y+1,by omega,by go_num,?_,(hbz.out.alloc hszz _).grown hgr2 (by simp;omega) (fun b e=>(hown.out.lt b e).1)⟩,by simp only[intOf];omega⟩;rw[rowL_succ,←hrv.out];exact hown2
       · obtain rfl:n=y:=by omega
         clear hIc hIl hRl;go_wp2;go_ret2;exact⟨hBr.out.trans (hbz.out.mono hnw),.inl ⟨M,_,hS.out,rfl,own_mono hnw hown.out⟩⟩
    · intro er u9 u10 u11 u12 u13 u14 u15 u16 u17 u74 u75 u76 u77 u78 u79 u80 u81 u82 u83 u84 u85 u86 u87 u88 u89 u90 u91 u92 u93 u94 u95 u96 u97 u98 u99 u100 u101 u102 u103 u104 u105 u106 u107 u108 u109 u110 u111 u112 u113 u114 u115 u116 u117 u118 u119 u120 u121 u122 u123 u124 u125 u126 u127 u128 u129 u130 u131 u132 u133 u134 u135 u136 u137 u138 u139 u140 u141 u142 u143 u144 u145 wq hb9 he9;replace hb9:=Lib.hid hb9;replace he9:=Lib.hid he9;go_ret2;exact⟨hb9.out,.inr ⟨er,he9.out,rfl⟩⟩
end Nt
end
section
open Go.RowKit Go.Shelf
namespace Nt
theorem ba_ext2 {a b:ByteArray} (h:a.toList=b.toList):a=b:=by
 rw[Lib.toList_data,Lib.toList_data]at h
 cases a;cases b;exact congrArg ByteArray.mk (Array.toList_inj.1 h)
end Nt
end
section
open Go.RowKit Go.Shelf
namespace Nt
end Nt
end
section
open Go.RowKit Go.Shelf
namespace Nt
def mx (l:List (List Rat)):Mx:=fun i j=>(l.getD i []).getD j 0
def ends (n:Nat) (l:List (List Rat)) (x:List Rat):Bool :=
 match solveTo SQ n n (mx l) with
 | .ok M=>(List.range n).map (fun i=>M i n)==x
 | .error _=>false
def fails (n:Nat) (l:List (List Rat)) (e:Int):Bool :=
 match solveTo SQ n n (mx l) with
 | .ok _=>false
 | .error f=>f==e
theorem head1:ends 1 [[2,1]] [1/2]=true:=by decide +kernel
theorem head2:ends 2 [[1,1,3],[1,-1,1]] [2,1]=true:=by decide +kernel
theorem head3:ends 2 [[0,1,5],[1,0,1/3]] [1/3,5]=true:=by decide +kernel
theorem head4:fails 2 [[1,1,3],[2,2,6]] 12=true:=by decide +kernel
end Nt
end
section
open Go.RowKit Go.Shelf
namespace Nt
def vq (x:Raw):Rat:=mkRat (sg x.1 (val x.2.1)) (val x.2.2)
theorem vq_rq (q:Rat):vq (rq q)=q:=by
 show mkRat (sg (decide (q.num<0)) (val (T (some q.num.natAbs)))) (val (T (some q.den)))=q
 have h:∀n,val (T (some n))=n:=fun n=>val_num n;rw[h,h,sg_self];exact Rat.mkRat_self q
theorem raw_of {x:Raw} (h:vraw x=true):rq (vq x)=x∧OkQ (vq x):=by
 obtain⟨q,hq,h1,h2,h3⟩:=of_valid h
 have e:x=rq q:=by
  obtain⟨a,b,c⟩:=x;simp only[rq];simp only at h1 h2 h3;rw[h1,h2,h3]
 rw[e,vq_rq];exact⟨rfl,hq⟩
theorem vraw_rq {q:Rat} (h:OkQ q):vraw (rq q)=true:=valid_qv h
def sysM (A:List (List Raw)) (b:List Raw):Mx:=fun i j=>if j=b.length then vq (b.getD i zraw) else vq ((A.getD i []).getD j zraw)
def rowsOf (la:List RowH):List (List Raw):=la.map (·.2.2)
theorem rowsOf_length (la:List RowH):(rowsOf la).length=la.length:=by simp[rowsOf]
theorem rowsOf_get (la:List RowH) (i:Nat) (h:i<la.length):(rowsOf la)[i]'(by simpa [rowsOf] using h)=la[i].2.2:=by simp[rowsOf]
def matB (n:Nat) (A:List (List Raw)):Bool:=A.all fun r=>rowOk n r
theorem matB_rows (n:Nat) (la:List RowH):matB n (rowsOf la)=matOk n la:=by
 unfold matB rowsOf matOk;rw[List.all_map];rfl
theorem rowOk_iff {n:Nat} {l:List Raw}:rowOk n l=true↔l.length=n∧allV l=true:=by
 unfold rowOk;rw[Bool.and_eq_true,decide_eq_true_eq]
theorem matB_iff {n:Nat} {A:List (List Raw)}:matB n A=true↔∀i (h:i<A.length),A[i].length=n∧allV A[i]=true:=by
 unfold matB;rw[List.all_eq_true];constructor
 · intro h i hi;exact rowOk_iff.1 (h _ (List.getElem_mem hi))
 · intro h x hx;obtain⟨i,hi,rfl⟩:=List.getElem_of_mem hx;exact rowOk_iff.2 (h i hi)
theorem allV_iff {l:List Raw}:allV l=true↔∀i (h:i<l.length),vraw l[i]=true:=by
 unfold allV;rw[List.all_eq_true];constructor
 · intro h i hi;exact h _ (List.getElem_mem hi)
 · intro h x hx;obtain⟨i,hi,rfl⟩:=List.getElem_of_mem hx;exact h i hi
def outL (n:Nat) (f:Nat→Rat):List Raw:=(List.range n).map fun i=>rq (f i)
theorem outL_length (n:Nat) (f:Nat→Rat):(outL n f).length=n:=by simp[outL]
theorem outL_get (n:Nat) (f:Nat→Rat) (i:Nat) (h:i<(outL n f).length):(outL n f)[i]=rq (f i):=by simp[outL]
theorem outL_congr {n:Nat} {f g:Nat→Rat} (h:∀i,i<n→f i=g i):outL n f=outL n g:=by
 unfold outL;exact List.map_congr_left fun i hi=>by rw[h i (List.mem_range.1 hi)]
def solveB (A:List (List Raw)) (b:List Raw):Except Int (List Raw) :=
 if A.length=b.length∧allV b=true∧matB b.length A=true then
  (if b.length≤8 then (match solveTo SQ b.length b.length (sysM A b) with | .ok M=>.ok (outL b.length fun i=>M i b.length) | .error e=>.error e) else .error 2)
 else .error 1
theorem inRow_of_own {w:World} {base:Nat} {v:Value} {n:Nat} {r:Nat→Raw} (h:w.ownsRow base 37 3 v n (rowL n r)) :
 ∃A c,v=.slice A n c∧InRow w A ((List.range n).map r):=by
 rcases h.2 with⟨rfl,rfl⟩ | ⟨g,cap,cur,rfl,hb,hg,h4,h5,h6,h7⟩
 · exact⟨none,0,rfl,fun h0=>absurd h0 (by simp)⟩
 · refine⟨some ⟨g,0,none⟩,cap,rfl,fun h0=>⟨g,0,rfl,(Array.getElem?_eq_some_iff.1 hg).1,fun j hj=>?_⟩⟩;have hj':j<n:=by simpa using hj
   have hc:=h.cells (g:=g) (by simp[Value.ownBlock]);have hadd:∀o,(⟨g,0,none⟩:Addr).add o=⟨g,o,none⟩:=fun o=>by unfold Addr.add;split<;>simp_all
   have h0:=rowL_get r hj' 0 (by omega);have h1:=rowL_get r hj' 1 (by omega);have h2:=rowL_get r hj' 2 (by omega);have c0:=hc (j*3+0) _ h0;have c1:=hc (j*3+1) _ h1;have c2:=hc (j*3+2) _ h2;rw[hadd]at c0 c1 c2;simp only[List.getElem_map,List.getElem_range,Nat.zero_add];exact⟨c0,c1,c2⟩
theorem getD_at {α:Type} {l:List α} {d:α} {i:Nat} (h:i<l.length):l.getD i d=l[i]:=by
 rw[List.getD_eq_getElem?_getD,List.getElem?_eq_getElem h,Option.getD_some]
theorem Solve_key (Aa Ab:Option Addr) (ca cb:Nat) (la:List RowH) (lb:List Raw) (w:World) (hE:Env w) (hs:SysIn w Aa Ab la lb) (h1:la.length=lb.length) (h2:allV lb=true) (h3:matOk lb.length la=true) (h8:lb.length≤8) :
 Calls Tryz.prog 49 #[.slice Aa lb.length ca,.slice Ab lb.length cb] w (SolvePost lb.length (sysM (rowsOf la) lb) w):=by
 have hb:=allV_iff.1 h2
 have ha':∀i (hi:i<la.length),la[i].2.2.length=lb.length∧allV la[i].2.2=true:=fun i hi=>by
  have hi2:i<(rowsOf la).length:=by rw[rowsOf_length];exact hi
  have:=matB_iff.1 ((matB_rows lb.length la).trans h3) i hi2
  rwa [rowsOf_get la i hi]at this
 have hg:∀i (hi:i<la.length),(rowsOf la).getD i []=la[i].2.2:=fun i hi=>by
  rw[getD_at (by rw[rowsOf_length];exact hi),rowsOf_get la i hi]
 refine Solve_any Aa Ab lb.length ca cb la lb (sysM (rowsOf la) lb) w hE h1 rfl hs h2 h3 h8 (fun i hi=>⟨(ha' i hi).1,fun j hj=>?_⟩) (fun i hi=>?_) (fun i j hi hj=>?_)
 · have hj2:j≠lb.length:=by have:=(ha' i hi).1;omega
   unfold sysM;rw[if_neg hj2,hg i hi,getD_at hj];exact(raw_of (allV_iff.1 (ha' i hi).2 j hj)).1.symm
 · unfold sysM;rw[if_pos rfl,getD_at hi];exact(raw_of (hb i hi)).1.symm
 · unfold sysM
   by_cases e:j=lb.length
   · rw[if_pos e,getD_at hi];exact(raw_of (hb i hi)).2
   · have hi2:i<la.length:=by omega
     have hj2:j<la[i].2.2.length:=by have:=(ha' i hi2).1;omega
     rw[if_neg e,hg i hi2,getD_at hj2];exact(raw_of (allV_iff.1 (ha' i hi2).2 j hj2)).2
theorem Solve_ok (Aa Ab:Option Addr) (ca cb:Nat) (la:List RowH) (lb xs:List Raw) (w:World) (hE:Env w) (hs:SysIn w Aa Ab la lb) (h:solveB (rowsOf la) lb=.ok xs) :
 Calls Tryz.prog 49 #[.slice Aa la.length ca,.slice Ab lb.length cb] w fun e w'=>(∃p c,e=.returned (.tuple #[.slice p xs.length c,.int .i64 0])∧InRow w' p xs)∧Below w.heap.size w w':=by
 unfold solveB at h;rw[rowsOf_length,matB_rows]at h
 split at h
 · rename_i hc;obtain⟨h1,h2,h3⟩:=hc
   split at h
   · rename_i h8;have key:=Solve_key Aa Ab ca cb la lb w hE hs h1 h2 h3 h8;rw[h1];refine key.mono fun e w' ⟨hB,hr⟩=>⟨?_,hB⟩
     rcases hr with⟨M,v,hM,he,hown⟩ | ⟨er,hM,he⟩
     · rw[hM]at h;simp only[Except.ok.injEq]at h;obtain⟨p,c,rfl,hin⟩:=inRow_of_own hown;refine⟨p,c,?_,by rw[←h];exact hin⟩;rw[he,←h,outL_length]
     · rw[hM]at h
       cases h
   · cases h
 · cases h
theorem Solve_er (Aa Ab:Option Addr) (ca cb:Nat) (la:List RowH) (lb:List Raw) (er:Int) (w:World) (hE:Env w) (hs:SysIn w Aa Ab la lb) (h:solveB (rowsOf la) lb=.error er) :
 Calls Tryz.prog 49 #[.slice Aa la.length ca,.slice Ab lb.length cb] w fun e w'=>e=.returned (.tuple #[.slice none 0 0,.int .i64 er])∧Below w.heap.size w w':=by
 unfold solveB at h;rw[rowsOf_length,matB_rows]at h
 split at h
 · rename_i hc;obtain⟨h1,h2,h3⟩:=hc
   split at h
   · rename_i h8;have key:=Solve_key Aa Ab ca cb la lb w hE hs h1 h2 h3 h8;rw[h1];refine key.mono fun e w' ⟨hB,hr⟩=>⟨?_,hB⟩
     rcases hr with⟨M,v,hM,he,hown⟩ | ⟨er2,hM,he⟩
     · rw[hM]at h
       cases h
     · rw[hM]at h;simp only[Except.error.injEq]at h;rw[he,h]
   · rename_i h8;simp only[Except.error.injEq]at h;rw[←h];exact Solve_big Aa Ab ca cb la lb w hE h1 hs h2 h3 (by omega)
 · rename_i hc;simp only[Except.error.injEq]at h;rw[←h]
   by_cases h1:la.length=lb.length
   · cases h2:allV lb
     · exact Solve_vb Aa Ab ca cb la lb w hE h1 hs h2
     · cases h3:matOk lb.length la
       · exact Solve_va Aa Ab ca cb la lb w hE h1 hs h2 h3
       · exact absurd ⟨h1,h2,h3⟩ hc
   · exact Solve_len Aa Ab ca cb la lb w h1 hs
end Nt
end
section
open Go.RowKit Go.Shelf
namespace Nt
def InM (n:Nat) (M N:Mx):Prop:=∀i,i<n→∀j,j≤n→M i j=N i j
section
variable {n:Nat} {M N:Mx}
theorem InM.sol (h:InM n M N) (y r:Nat→Rat):Sol n M y r↔Sol n N y r:=by
 have e:∀i,i<n→sumTo n (fun j=>M i j*y j)=sumTo n (fun j=>N i j*y j):=fun i hi=>sumTo_congr fun j hj=>by rw[h i hi j (by omega)]
 exact⟨fun k i hi=>(e i hi).symm.trans (k i hi),fun k i hi=>(e i hi).trans (k i hi)⟩
theorem InM.rhs (h:InM n M N) {y:Nat→Rat}:Sol n M y (fun i=>M i n)↔Sol n N y (fun i=>N i n) :=
 ⟨fun k=>((h.sol y _).1 k).congr fun i hi=>h i hi n (Nat.le_refl n),fun k=>((h.sol y _).2 k).congr fun i hi=>(h i hi n (Nat.le_refl n)).symm⟩
end
def ent (A:List (List Raw)) (i j:Nat):Rat:=vq ((A.getD i []).getD j zraw)
def rhs (b:List Raw) (i:Nat):Rat:=vq (b.getD i zraw)
def xsOf:Except Int (List Raw)→List Raw
 | .ok l=>l
 | .error _=>[]
def erOf:Except Int (List Raw)→Int
 | .ok _=>0
 | .error e=>e
end Nt
end
section
open Go.RowKit Go.Shelf
namespace Nt
end Nt
end
section
open Go.RowKit Go.Shelf
namespace Nt
theorem InRow.at {W:World} {A:Option Addr} {l:List Raw} (h:InRow W A l) {j:Nat} (hj:j<l.length):∃b o,A=some ⟨b,o,none⟩∧b<W.heap.size∧W.cell? ⟨b,o+j*3,none⟩=some (.bool l[j].1)∧W.cell? ⟨b,o+j*3+1,none⟩=some (.string l[j].2.1)∧W.cell? ⟨b,o+j*3+2,none⟩=some (.string l[j].2.2):=by
 obtain⟨b,o,e,hl,hc⟩:=h (by omega);exact⟨b,o,e,hl,hc j hj⟩
end Nt
end
section
namespace Sh
open Nt
def IsI (x:Rat):Prop:=∃z:Int,x=(z:Rat)
theorem IsI.zero:IsI 0:=⟨0,by simp⟩
theorem IsI.one:IsI 1:=⟨1,by simp⟩
theorem IsI.add {x y:Rat} (h1:IsI x) (h2:IsI y):IsI (x+y):=by
 obtain⟨a,rfl⟩:=h1;obtain⟨b,rfl⟩:=h2;exact⟨a+b,by simp[Rat.intCast_add]⟩
theorem IsI.mul {x y:Rat} (h1:IsI x) (h2:IsI y):IsI (x*y):=by
 obtain⟨a,rfl⟩:=h1;obtain⟨b,rfl⟩:=h2;exact⟨a*b,by simp[Rat.intCast_mul]⟩
theorem IsI.neg {x:Rat} (h1:IsI x):IsI (-x):=by
 obtain⟨a,rfl⟩:=h1;exact⟨-a,by simp[Rat.intCast_neg]⟩
theorem IsI.sum {n:Nat} {f:Nat→Rat} (h:∀i,i<n→IsI (f i)):IsI (sumTo n f):=by
 induction n with
 | zero=>exact IsI.zero
 | succ n ih=>unfold sumTo;exact(ih fun i hi=>h i (by omega)).add (h n (by omega))
def skip (i r:Nat):Nat:=if r<i then r else r+1
def sgn:Nat→Rat
 | 0=>1
 | n+1=>- sgn n
theorem sgn_int (n:Nat):IsI (sgn n):=by
 induction n with
 | zero=>exact IsI.one
 | succ n ih=>exact ih.neg
def det:Nat→Mx→Rat
 | 0,_=>1
 | n+1,M=>sumTo (n+1) fun i=>sgn i*M i 0*det n fun r c=>M (skip i r) (c+1)
theorem det_congr:∀{n:Nat} {M N:Mx},(∀i j,i<n→j<n→M i j=N i j)→det n M=det n N:=by
 intro n
 induction n with
 | zero=>intros;rfl
 | succ n ih =>
   intro M N h;unfold det;apply sumTo_congr;intro i hi;rw[h i 0 hi (by omega),ih (M:=fun r c=>M (skip i r) (c+1)) (N:=fun r c=>N (skip i r) (c+1))];intro r c hr hc;exact h _ _ (by unfold skip;split<;>omega) (by omega)
def setR (r:Nat) (u:Nat→Rat) (M:Mx):Mx:=fun i=>if i=r then u else M i
theorem skip_eq {i r:Nat} (h:r≠i):∃t,skip i t=r∧∀s,skip i s=r↔s=t:=by
 by_cases c:r<i
 · refine⟨r,by unfold skip;rw[if_pos c],fun s=>?_⟩;unfold skip;split<;>omega
 · refine⟨r-1,by unfold skip;rw[if_neg (by omega)];omega,fun s=>?_⟩;unfold skip;split<;>omega
theorem minor_set_same {i:Nat} (u:Nat→Rat) (M:Mx):(fun r c=>setR i u M (skip i r) (c+1))=fun r c=>M (skip i r) (c+1):=by
 funext r c
 unfold setR;rw[if_neg (by unfold skip;split<;>omega)]
theorem minor_set_other {i r t:Nat} (u:Nat→Rat) (M:Mx) (h:∀s,skip i s=r↔s=t):(fun s c=>setR r u M (skip i s) (c+1))=setR t (fun c=>u (c+1)) fun s c=>M (skip i s) (c+1):=by
 funext s c
 unfold setR
 by_cases e:s=t
 · rw[if_pos ((h s).2 e),if_pos e]
 · rw[if_neg (fun e2=>e ((h s).1 e2)),if_neg e]
theorem skip_lt {i r t n:Nat} (h:skip i t=r) (hr:r<n+1) (hi:i<n+1) (_:r≠i):t<n:=by
 unfold skip at h;split at h<;>omega
theorem det_lin:∀{n r:Nat} (u v:Nat→Rat) (a b:Rat) (M:Mx),r<n→det n (setR r (fun j=>a*u j+b*v j) M)=a*det n (setR r u M)+b*det n (setR r v M):=by
 intro n
 induction n with
 | zero=>intro r u v a b M h;omega
 | succ n ih =>
   intro r u v a b M hr;unfold det;rw[←sumTo_mul,←sumTo_mul,←sumTo_add];apply sumTo_congr;intro i hi
   by_cases e:r=i
   · subst e;rw[minor_set_same,minor_set_same,minor_set_same];unfold setR;rw[if_pos rfl,if_pos rfl,if_pos rfl];grind
   · obtain⟨t,h1,h2⟩:=skip_eq e;rw[minor_set_other _ _ h2,minor_set_other _ _ h2,minor_set_other _ _ h2,ih _ _ _ _ _ (skip_lt h1 hr hi e)];unfold setR;rw[if_neg (fun h=>e h.symm),if_neg (fun h=>e h.symm),if_neg (fun h=>e h.symm)];grind
theorem sumTo_two {n k:Nat} (f:Nat→Rat) (hk:k+1<n) (h:∀i,i<n→i≠k→i≠k+1→f i=0):sumTo n f=f k+f (k+1):=by
 induction n with
 | zero=>omega
 | succ n ih =>
   unfold sumTo
   by_cases e:k+1=n
   · subst e;rw[sumTo_one (k:=k) f (by omega) fun i hi hne=>h i (by omega) hne (by omega)]
   · rw[ih (by omega) fun i hi a b=>h i (by omega) a b,h n (by omega) (by omega) (by omega)];grind
theorem det_adj:∀{n r:Nat} {M:Mx},r+1<n→(∀j,j<n→M r j=M (r+1) j)→det n M=0:=by
 intro n
 induction n with
 | zero=>intro r M h;omega
 | succ n ih =>
   intro r M hr he;unfold det;rw[sumTo_two (k:=r) _ hr]
   · have e1:det n (fun s c=>M (skip r s) (c+1))=det n (fun s c=>M (skip (r+1) s) (c+1)):=by
      apply det_congr;intro s c hs hc;unfold skip
      by_cases c1:s<r
      · rw[if_pos c1,if_pos (by omega)]
      · by_cases c2:s=r
        · subst c2;rw[if_neg (by omega),if_pos (by omega)];exact(he _ (by omega)).symm
        · rw[if_neg c1,if_neg (by omega)]
     rw[e1,he 0 (by omega)]
     show sgn r*_*_+(- sgn r)*_*_=0
     grind
   · intro i hi h1 h2;obtain⟨t,k1,k2⟩:=skip_eq (i:=i) (r:=r) (fun e=>h1 e.symm);obtain⟨t2,l1,l2⟩:=skip_eq (i:=i) (r:=r+1) (fun e=>h2 e.symm)
     have:t2=t+1:=by
      have a:skip i (t+1)=r+1:=by unfold skip at k1 ⊢;split at k1<;>split<;>omega
      exact((l2 _).1 a).symm
     subst this;have ht:t+1<n:=skip_lt l1 hr hi (fun e=>h2 e.symm);rw[ih (r:=t) ht]
     · grind
     · intro j hj;rw[k1,l1];exact he _ (by omega)
theorem setR_same (r:Nat) (M:Mx):setR r (M r) M=M:=by
 funext i
 unfold setR
 split
 · next h=>rw[h]
 · rfl
theorem setR_comm {r s:Nat} (h:r≠s) (u v:Nat→Rat) (M:Mx):setR r u (setR s v M)=setR s v (setR r u M):=by
 funext i
 unfold setR
 by_cases e1:i=r
 · rw[if_pos e1,if_neg (by omega),if_pos e1]
 · rw[if_neg e1]
   by_cases e2:i=s
   · rw[if_pos e2,if_pos e2]
   · rw[if_neg e2,if_neg e2,if_neg e1]
theorem setR_setR (r:Nat) (u v:Nat→Rat) (M:Mx):setR r u (setR r v M)=setR r u M:=by
 funext i
 unfold setR
 split<;>rfl
theorem det_swap {n r:Nat} (u v:Nat→Rat) (M:Mx) (hr:r+1<n):det n (setR r u (setR (r+1) v M))=- det n (setR r v (setR (r+1) u M)):=by
 have z:∀x:Nat→Rat,det n (setR r x (setR (r+1) x M))=0:=fun x=>det_adj hr fun j _=>by
  unfold setR;rw[if_pos rfl,if_neg (by omega),if_pos rfl]
 have l1:∀x y z:Nat→Rat,det n (setR r (fun j=>1*x j+1*y j) (setR (r+1) z M))=1*det n (setR r x (setR (r+1) z M))+1*det n (setR r y (setR (r+1) z M)):=fun x y z=>det_lin x y 1 1 _ (by omega)
 have l2:∀x y z:Nat→Rat,det n (setR r z (setR (r+1) (fun j=>1*x j+1*y j) M))=1*det n (setR r z (setR (r+1) x M))+1*det n (setR r z (setR (r+1) y M)):=fun x y z=>by
  rw[setR_comm (by omega),setR_comm (by omega) z x,setR_comm (by omega) z y];exact det_lin x y 1 1 _ hr
 have h:=z fun j=>1*u j+1*v j;rw[l1,l2,l2,z u,z v]at h;grind
theorem det_eq:∀{d n r:Nat} {M:Mx},r+1+d<n→(∀j,j<n→M r j=M (r+1+d) j)→det n M=0:=by
 intro d
 induction d with
 | zero=>intro n r M h he;exact det_adj h he
 | succ d ih =>
   intro n r M h he
   have h1:M=setR (r+1+d) (M (r+1+d)) (setR (r+1+d+1) (M (r+1+(d+1))) M):=by
    have e1:=setR_same (r+1+d+1) M;rw[show r+1+(d+1)=r+1+d+1 by omega,e1,setR_same]
   rw[h1,det_swap _ _ _ (by omega),ih (r:=r) (by omega)]
   · rfl
   · intro j hj;unfold setR;rw[if_neg (by omega),if_neg (by omega),if_pos rfl];exact he j hj
theorem det_eq' {n r s:Nat} {M:Mx} (hr:r<n) (hs:s<n) (hne:r≠s) (he:∀j,j<n→M r j=M s j):det n M=0:=by
 by_cases c:r<s
 · exact det_eq (d:=s-r-1) (r:=r) (by omega) fun j hj=>by rw[show r+1+(s-r-1)=s by omega];exact he j hj
 · exact det_eq (d:=r-s-1) (r:=s) (by omega) fun j hj=>by rw[show s+1+(r-s-1)=r by omega];exact(he j hj).symm
theorem det_rowadd {n r s:Nat} (c:Rat) (M:Mx) (hr:r<n) (hs:s<n) (hne:r≠s):det n (setR r (fun j=>M r j+c*M s j) M)=det n M:=by
 have h:=det_lin (M r) (M s) 1 c M hr;rw[setR_same,det_eq' (M:=setR r (M s) M) hr hs hne fun j _=>by unfold setR;rw[if_pos rfl,if_neg (fun e=>hne e.symm)]]at h;have e:(fun j=>M r j+c*M s j)=fun j=>1*M r j+c*M s j:=by funext j;rw[Rat.one_mul]
 rw[e,h];grind
theorem det_rowmul {n r:Nat} (c:Rat) (M:Mx) (hr:r<n):det n (setR r (fun j=>c*M r j) M)=c*det n M:=by
 have h:=det_lin (M r) (M r) c 0 M hr;rw[setR_same]at h;have e:(fun j=>c*M r j)=fun j=>c*M r j+0*M r j:=by funext j;grind
 rw[e,h];grind
theorem det_unit:∀(n:Nat) {M:Mx},(∀i j,i<n→j<n→M i j=if i=j then 1 else 0)→det n M=1:=by
 intro n
 induction n with
 | zero=>intros;rfl
 | succ n ih =>
   intro M h;unfold det;rw[sumTo_one (k:=0) _ (by omega) fun i hi hne=>by rw[h i 0 hi (by omega),if_neg hne];grind];rw[h 0 0 (by omega) (by omega),if_pos rfl,ih]
   · show (1:Rat)*1*1=1
     grind
   · intro i j hi hj
     show M (i+1) (j+1)=_
     rw[h _ _ (by omega) (by omega)]
     by_cases e:i=j
     · rw[if_pos e,if_pos (by omega)]
     · rw[if_neg e,if_neg (by omega)]
theorem det_sum {n r:Nat} (M:Mx) (hr:r<n) (y:Nat→Rat) (R:Nat→Nat→Rat):∀m,det n (setR r (fun j=>sumTo m fun l=>y l*R l j) M)=sumTo m fun l=>y l*det n (setR r (R l) M):=by
 intro m
 induction m with
 | zero =>
   have h:=det_rowmul 0 (setR r (fun _=>0) M) hr;rw[setR_setR]at h;have e:(fun j=>0*setR r (fun _=>0) M r j)=(fun _=>0):=by funext j;grind
   rw[e]at h
   show det n (setR r (fun _=>0) M)=0
   rw[h];grind
 | succ m ih =>
   show det n (setR r (fun j=>(sumTo m fun l=>y l*R l j)+y m*R m j) M)=_
   have e:(fun j=>(sumTo m fun l=>y l*R l j)+y m*R m j)=fun j=>1*(sumTo m fun l=>y l*R l j)+y m*R m j:=by funext j;grind
   rw[e,det_lin _ _ _ _ _ hr,ih]
   show _=(sumTo m fun l=>y l*det n (setR r (R l) M))+y m*det n (setR r (R m) M)
   grind
theorem cramer {n i:Nat} (M:Mx) (y c:Nat→Rat) (hi:i<n) (h:∀j,j<n→sumTo n (fun l=>y l*M l j)=c j):y i*det n M=det n (setR i c M):=by
 have h1:det n (setR i c M)=det n (setR i (fun j=>sumTo n fun l=>y l*M l j) M):=by
  apply det_congr;intro r j _ hj;unfold setR
  split
  · exact(h j hj).symm
  · rfl
 rw[h1,det_sum M hi,sumTo_one (k:=i) _ hi fun l hl hne=>?_,setR_same];rw[det_eq' (M:=setR i (M l) M) hi hl (fun e=>hne e.symm) fun j _=>by unfold setR;rw[if_pos rfl,if_neg hne]];grind
def prodTo:Nat→(Nat→Rat)→Rat
 | 0,_=>1
 | n+1,f=>prodTo n f*f n
theorem prodTo_skip:∀{n i:Nat} (f:Nat→Rat),i<n+1→prodTo (n+1) f=f i*prodTo n fun r=>f (skip i r):=by
 intro n
 induction n with
 | zero => intro i f h;have:i=0:=by omega
           subst this;simp only[prodTo];grind
 | succ n ih =>
   intro i f h
   by_cases e:i=n+1
   · subst e
     show prodTo (n+1) f*f (n+1)=_
     have:prodTo (n+1) (fun r=>f (skip (n+1) r))=prodTo (n+1) f:=by
      have:∀m,m≤n+1→prodTo m (fun r=>f (skip (n+1) r))=prodTo m f:=by
       intro m
       induction m with
       | zero=>intro _;rfl
       | succ m ihm=>intro hm;unfold prodTo;rw[ihm (by omega)];congr 1;show f (if m<n+1 then m else m+1)=f m;rw[if_pos (by omega)]
      exact this _ (Nat.le_refl _)
     rw[this];grind
   · show prodTo (n+1) f*f (n+1)=_
     rw[ih f (by omega:i<n+1)]
     show _=f i*(prodTo n (fun r=>f (skip i r))*f (skip i n))
     rw[show skip i n=n+1 by unfold skip;rw[if_neg (by omega)]];grind
theorem det_int:∀{n:Nat} {s:Nat→Rat} {M:Mx},(∀i j,i<n→j<n→IsI (s i*M i j))→IsI (prodTo n s*det n M):=by
 intro n
 induction n with
 | zero=>intro s M _;show IsI (1*1);rw[Rat.one_mul];exact IsI.one
 | succ n ih =>
   intro s M h;unfold det;rw[←sumTo_mul];apply IsI.sum;intro i hi;rw[prodTo_skip s hi];have h1:=ih (s:=fun r=>s (skip i r)) (M:=fun r c=>M (skip i r) (c+1)) fun a b ha hb=>h _ _ (by unfold skip;split<;>omega) (by omega);have h2:=((sgn_int i).mul (h i 0 hi (by omega))).mul h1;have e:s i*prodTo n (fun r=>s (skip i r))*(sgn i*M i 0*det n fun r c=>M (skip i r) (c+1))=sgn i*(s i*M i 0)*(prodTo n (fun r=>s (skip i r))*det n fun r c=>M (skip i r) (c+1)):=by grind
   rw[e];exact h2
end Sh
end
section
namespace Sh
open Nt
theorem sumTo_le {n:Nat} {f g:Nat→Rat} (h:∀i,i<n→f i≤g i):sumTo n f≤sumTo n g:=by
 induction n with
 | zero=>exact Rat.le_refl
 | succ n ih =>
   unfold sumTo;have h1:=ih fun i hi=>h i (by omega);have h2:=h n (by omega);grind
theorem sumTo_split {n k:Nat} (f:Nat→Rat) (hk:k<n):sumTo n f=f k+sumTo n fun j=>if j=k then 0 else f j:=by
 induction n with
 | zero=>omega
 | succ n ih =>
   show sumTo n f+f n=f k+((sumTo n fun j=>if j=k then 0 else f j)+(if n=k then 0 else f n))
   by_cases e:k=n
   · subst e;rw[if_pos rfl,sumTo_congr (g:=f) (f:=fun j=>if j=k then 0 else f j) fun i hi=>if_neg (by omega)];grind
   · rw[if_neg (by omega),ih (by omega)];grind
theorem mul_np {a b:Rat} (h1:a≤0) (h2:0≤b):a*b≤0:=by
 have:=Rat.mul_nonneg (a:=-a) (b:=b) (by grind) h2;grind
def stepQ (k:Nat) (M:Mx):Mx:=fun i j=>if i=k then M k j*(M k k)⁻¹ else M i j-M i k*(M k j*(M k k)⁻¹)
structure Shs (n:Nat) (M:Mx) (v:Nat→Rat):Prop where
 le1:∀i,i<n→M i i≤1
 off:∀i j,i<n→j<n→j≠i→M i j≤0
 rhs:∀i,i<n→0≤M i n
 slack:∀i,i<n→M i n≤sumTo n (M i)
 pos:∀i,i<n→0<sumTo n fun j=>M i j*v j
 vnn:∀j,j<n→0≤v j
theorem Shs.piv {n k:Nat} {M:Mx} {v:Nat→Rat} (h:Shs n M v) (hk:k<n):0<M k k:=by
 have h1:=h.pos k hk;rw[sumTo_split _ hk]at h1
 have h2:(sumTo n fun j=>if j=k then 0 else M k j*v j)≤0:=by
  have:=sumTo_le (n:=n) (f:=fun j=>if j=k then 0 else M k j*v j) (g:=fun _=>0) fun j hj=>by
   split
   · exact Rat.le_refl
   · next e=>exact mul_np (h.off k j hk hj e) (h.vnn j hj)
  rw[sumTo_zero fun _ _=>rfl]at this;exact this
 by_cases c:0<M k k
 · exact c
 · have:=mul_np (Rat.not_lt.1 c) (h.vnn k hk);grind
theorem inv_pos {p:Rat} (h:0<p):0<p⁻¹:=Rat.inv_pos.2 h
theorem Shs.step {n k:Nat} {M:Mx} {v:Nat→Rat} (h:Shs n M v) (hk:k<n):Shs n (stepQ k M) v:=by
 have hp:=h.piv hk;have hq:=inv_pos hp;have hpq:M k k*(M k k)⁻¹=1:=Rat.mul_inv_cancel _ (by grind);have rowk:∀j,stepQ k M k j=(M k k)⁻¹*M k j:=fun j=>by unfold stepQ;rw[if_pos rfl];grind
 have rowi:∀i j,i≠k→stepQ k M i j=M i j+(- M i k*(M k k)⁻¹)*M k j:=fun i j e=>by unfold stepQ;rw[if_neg e];grind
 have hf:∀i,i<n→i≠k→0 ≤-M i k*(M k k)⁻¹:=fun i hi e=>Rat.mul_nonneg (by have:=h.off i k hi hk (fun a=>e a.symm);grind) (Rat.le_of_lt hq);refine⟨fun i hi=>?_,fun i j hi hj hne=>?_,fun i hi=>?_,fun i hi=>?_,fun i hi=>?_,h.vnn⟩
 · by_cases e:i=k
   · subst e;rw[rowk,Rat.mul_comm,hpq];exact Rat.le_refl
   · rw[rowi i i e];have h1:=h.le1 i hi;have h2:=mul_np (h.off k i hk hi e) (hf i hi e);grind
 · by_cases e:i=k
   · subst e;rw[rowk];have:=mul_np (h.off i j hi hj hne) (Rat.le_of_lt hq);grind
   · rw [rowi i j e]
     by_cases e2:j=k
     · subst e2;have e3:M i j+-M i j*(M j j)⁻¹*M j j=M i j-M i j*(M j j*(M j j)⁻¹):=by grind
       rw[e3,hpq];grind
     · have h1:=h.off i j hi hj hne;have h2:=mul_np (h.off k j hk hj e2) (hf i hi e);grind
 · by_cases e:i=k
   · subst e;rw[rowk];exact Rat.mul_nonneg (Rat.le_of_lt hq) (h.rhs i hi)
   · rw[rowi i n e];have h1:=h.rhs i hi;have h2:=Rat.mul_nonneg (hf i hi e) (h.rhs k hk);grind
 · by_cases e:i=k
   · subst e;rw[rowk,sumTo_congr fun j _=>rowk j,sumTo_mul];exact Rat.mul_le_mul_of_nonneg_left (h.slack i hi) (Rat.le_of_lt hq)
   · rw[rowi i n e,sumTo_congr fun j _=>rowi i j e,sumTo_add,sumTo_mul];have h1:=h.slack i hi;have h2:=Rat.mul_le_mul_of_nonneg_left (h.slack k hk) (hf i hi e);have h3:sumTo n (M i)=sumTo n fun j=>M i j:=rfl;have h4:sumTo n (M k)=sumTo n fun j=>M k j:=rfl;rw[h3]at h1;rw[h4]at h2;grind
 · by_cases e:i=k
   · subst e;rw[sumTo_congr (g:=fun j=>(M i i)⁻¹*(M i j*v j)) fun j _=>by rw[rowk];grind,sumTo_mul];exact Rat.mul_pos hq (h.pos i hi)
   · rw[sumTo_congr (g:=fun j=>M i j*v j+(- M i k*(M k k)⁻¹)*(M k j*v j)) fun j _=>by rw[rowi i j e];grind,sumTo_add,sumTo_mul];have h1:=h.pos i hi;have h2:=Rat.mul_nonneg (hf i hi e) (Rat.le_of_lt (h.pos k hk));grind
theorem Shs.diag {n i:Nat} {M:Mx} {v:Nat→Rat} (h:Shs n M v) (hi:i<n):0≤M i i∧M i n≤M i i∧∀j,j<n→- M i i≤M i j:=by
 have h1:=h.slack i hi;have h2:=h.rhs i hi;rw[sumTo_split _ hi]at h1
 have h3:(sumTo n fun j=>if j=i then 0 else M i j)≤0:=by
  have:=sumTo_le (n:=n) (f:=fun j=>if j=i then 0 else M i j) (g:=fun _=>0) fun j hj=>by
   split
   · exact Rat.le_refl
   · next e=>exact h.off i j hi hj e
  rw[sumTo_zero fun _ _=>rfl]at this;exact this
 refine⟨by grind,by grind,fun j hj=>?_⟩
 by_cases e:j=i
 · subst e;grind
 · rw [sumTo_split _ hj,if_neg e]at h1
   have h4:(sumTo n fun t=>if t=j then 0 else if t=i then 0 else M i t)≤0:=by
    have:=sumTo_le (n:=n) (f:=fun t=>if t=j then 0 else if t=i then 0 else M i t) (g:=fun _=>0) fun t ht=>by
     split
     · exact Rat.le_refl
     · split
       · exact Rat.le_refl
       · next e=>exact h.off i t hi ht e
    rw[sumTo_zero fun _ _=>rfl]at this;exact this
   grind
theorem Shs.abs {n i j:Nat} {M:Mx} {v:Nat→Rat} (h:Shs n M v) (hi:i<n) (hj:j≤n):-1≤M i j∧M i j≤1:=by
 obtain⟨h1,h2,h3⟩:=h.diag hi;have h4:=h.le1 i hi
 by_cases e:j=n
 · subst e;have:=h.rhs i hi;grind
 · have h5:=h3 j (by omega)
   by_cases e2:j=i
   · subst e2;grind
   · have:=h.off i j hi (by omega) e2;grind
structure Mad (n k:Nat) (A M:Mx):Prop where
 unit:Unit n k M
 comb:∀i,i<n→∃y:Nat→Rat,(∀l,k≤l→y l=0)∧∀j,j≤n→M i j=(if i<k then 0 else A i j)+sumTo k fun l=>y l*A l j
 dets:∃P:Rat,0<P∧P≤1∧∀K,k≤K→K≤n→det K A=P*det K M
theorem Mad.start (n:Nat) (A:Mx):Mad n 0 A A:=by
 refine⟨fun i j _ h=>absurd h (by omega),fun i _=>⟨fun _=>0,fun _ _=>rfl,fun j _=>?_⟩,1,by decide,by decide,fun K _ _=>(Rat.one_mul _).symm⟩;rw[if_neg (by omega)];exact(Rat.add_zero _).symm
def partQ (k m:Nat) (M:Mx):Mx:=fun i j=>if i=k then M k j*(M k k)⁻¹ else if i<m then M i j-M i k*(M k j*(M k k)⁻¹) else M i j
theorem partQ_det {n k K:Nat} {M:Mx} (hk:k<K) (_:K≤n):∀m,det K (partQ k m M)=(M k k)⁻¹*det K M:=by
 intro m
 induction m with
 | zero =>
   rw[←det_rowmul _ M hk]
   congr 1
   funext i j
   unfold partQ setR
   by_cases e:i=k
   · rw[if_pos e,if_pos e,Rat.mul_comm]
   · rw[if_neg e,if_neg (by omega),if_neg e]
 | succ m ih =>
   rw[←ih]
   by_cases e:m=k
   · congr 1
     funext i j
     unfold partQ
     by_cases e2:i=k
     · rw[if_pos e2,if_pos e2]
     · rw[if_neg e2,if_neg e2]
       by_cases c:i<m
       · rw[if_pos (by omega),if_pos c]
       · rw[if_neg (by omega),if_neg c]
   · by_cases c:m<K
     · rw [←det_rowadd (r:=m) (s:=k) (- M m k) (partQ k m M) c hk e]
       congr 1
       funext i j
       unfold setR
       by_cases e2:i=m
       · subst e2;unfold partQ;simp only[if_neg e,if_neg (Nat.lt_irrefl _),if_pos (Nat.lt_succ_self _)];simp only[if_true];grind
       · rw [if_neg e2];unfold partQ
         by_cases e3:i=k
         · rw[if_pos e3,if_pos e3]
         · rw[if_neg e3,if_neg e3]
           by_cases c2:i<m
           · rw[if_pos (by omega),if_pos c2]
           · rw[if_neg (by omega),if_neg c2]
     · apply det_congr;intro i j hi hj;unfold partQ
       by_cases e3:i=k
       · rw[if_pos e3,if_pos e3]
       · rw[if_neg e3,if_neg e3,if_pos (by omega),if_pos (by omega)]
theorem stepQ_det {n k K:Nat} {M:Mx} (hk:k<K) (hK:K≤n):det K (stepQ k M)=(M k k)⁻¹*det K M:=by
 rw[←partQ_det (n:=n) hk hK K];apply det_congr;intro i j hi _;unfold partQ stepQ
 by_cases e:i=k
 · rw[if_pos e,if_pos e]
 · rw[if_neg e,if_neg e,if_pos hi]
theorem Mad.step {n k:Nat} {A M:Mx} {v:Nat→Rat} (h:Mad n k A M) (hs:Shs n M v) (hk:k<n):Mad n (k+1) A (stepQ k M):=by
 have hp:=hs.piv hk;have hpq:M k k*(M k k)⁻¹=1:=Rat.mul_inv_cancel _ (by grind);have hz:=h.unit.zeros hk (Nat.le_refl _);refine⟨fun i j hi hj=>?_,fun i hi=>?_,?_⟩
 · unfold stepQ
   by_cases e:j=k
   · subst e
     by_cases e2:i=j
     · rw[if_pos e2,if_pos e2,hpq]
     · rw[if_neg e2,if_neg e2,hpq];grind
   · rw[hz j (by omega)]
     by_cases e2:i=k
     · rw[if_pos e2,if_neg (by omega)];grind
     · rw[if_neg e2,h.unit i j hi (by omega)];grind
 · obtain ⟨yk,k1,k2⟩:=h.comb k hk;have k2:∀j,j≤n→M k j=A k j+sumTo k fun l=>yk l*A l j:=fun j hj=>by have:=k2 j hj;rwa [if_neg (Nat.lt_irrefl _)]at this
   by_cases e:i=k
   · subst e;refine⟨fun l=>if l=i then (M i i)⁻¹ else (M i i)⁻¹*yk l,fun l hl=>?_,fun j hj=>?_⟩
     · dsimp only;rw[if_neg (by omega),k1 l (by omega)];grind
     · rw[if_pos (by omega)];unfold stepQ;rw[if_pos rfl]
       show _=0+((sumTo i fun l=>(if l=i then (M i i)⁻¹ else (M i i)⁻¹*yk l)*A l j)+(if i=i then (M i i)⁻¹ else (M i i)⁻¹*yk i)*A i j)
       rw[if_pos rfl,sumTo_congr (g:=fun l=>(M i i)⁻¹*(yk l*A l j)) fun l hl=>by rw[if_neg (by omega)];grind,sumTo_mul];have:=k2 j hj;grind
   · obtain ⟨y,h1,h2⟩:=h.comb i hi;refine⟨fun l=>if l=k then-M i k*(M k k)⁻¹ else y l+(- M i k*(M k k)⁻¹)*yk l,fun l hl=>?_,fun j hj=>?_⟩
     · dsimp only;rw[if_neg (by omega),k1 l (by omega),h1 l (by omega)];grind
     · have e1:(if i<k+1 then 0 else A i j)=(if i<k then 0 else A i j):=by
        by_cases c:i<k
        · rw[if_pos c,if_pos (by omega)]
        · rw[if_neg c,if_neg (by omega)]
       rw[e1];unfold stepQ;rw[if_neg e]
       show _=_+((sumTo k fun l=>(if l=k then-M i k*(M k k)⁻¹ else y l+(- M i k*(M k k)⁻¹)*yk l)*A l j)+(if k=k then-M i k*(M k k)⁻¹ else y k+(- M i k*(M k k)⁻¹)*yk k)*A k j)
       rw[if_pos rfl,sumTo_congr (g:=fun l=>y l*A l j+(- M i k*(M k k)⁻¹)*(yk l*A l j)) fun l hl=>by rw[if_neg (by omega)];grind,sumTo_add,sumTo_mul];have a:=k2 j hj;have b:=h2 j hj;grind
 · obtain ⟨P,p1,p2,p3⟩:=h.dets;refine⟨P*M k k,Rat.mul_pos p1 hp,?_,fun K h1 h2=>?_⟩
   · have h1:=hs.le1 k hk;have h2:=Rat.mul_le_mul_of_nonneg_left h1 (Rat.le_of_lt p1);grind
   · rw[p3 K (by omega) h2,stepQ_det (n:=n) (by omega) h2,Rat.mul_assoc,←Rat.mul_assoc (M k k),hpq,Rat.one_mul]
theorem Mad.det_k {n k:Nat} {A M:Mx} (h:Mad n k A M) (hk:k≤n):0<det k A∧det k A≤1:=by
 obtain⟨P,p1,p2,p3⟩:=h.dets;have:=p3 k (Nat.le_refl _) hk;rw[det_unit k fun i j hi hj=>h.unit i j (by omega) hj,Rat.mul_one]at this;rw[this];exact⟨p1,p2⟩
theorem prodTo_const (c:Rat) (n:Nat):prodTo n (fun _=>c)=c^n:=by
 induction n with
 | zero=>exact(Rat.pow_zero c).symm
 | succ n ih=>rw[prodTo,ih,Rat.pow_succ]
theorem prodTo_congr {n:Nat} {f g:Nat→Rat} (h:∀i,i<n→f i=g i):prodTo n f=prodTo n g:=by
 induction n with
 | zero=>rfl
 | succ n ih=>rw[prodTo,prodTo,ih fun i hi=>h i (by omega),h n (by omega)]
theorem comb_int {n k l:Nat} {A:Mx} {c:Rat} (hA:∀i j,i<n→j<n→IsI (c*A i j)) (hk:k≤n) (y r:Nat→Rat) (t:Rat) (hl:l<k) (ht:∀j,j<k→IsI (t*r j)) (h:∀j,j<k→(sumTo k fun l=>y l*A l j)=r j) :
 IsI (y l*(c^(k-1)*t*det k A)):=by
 have h1:=cramer A y r hl h
 have h2:=det_int (n:=k) (s:=fun i=>if i=l then t else c) (M:=setR l r A) fun i j hi hj=>by
  unfold setR
  by_cases e:i=l
  · rw[if_pos e,if_pos e];exact ht j hj
  · rw[if_neg e,if_neg e];exact hA i j (by omega) (by omega)
 have h3:prodTo k (fun i=>if i=l then t else c)=c^(k-1)*t:=by
  obtain⟨m,rfl⟩:∃m,k=m+1:=⟨k-1,by omega⟩;rw[prodTo_skip _ hl,if_pos rfl,prodTo_congr (g:=fun _=>c) fun i hi=>if_neg (by unfold skip;split<;>omega),prodTo_const,Nat.add_sub_cancel,Rat.mul_comm]
 rw[h3,←h1]at h2;have e:c^(k-1)*t*(y l*det k A)=y l*(c^(k-1)*t*det k A):=by grind
 rwa [e]at h2
theorem pow_pred (c:Rat) {k:Nat} (h:0<k):c^(k-1)*c=c^k:=by
 obtain⟨m,rfl⟩:∃m,k=m+1:=⟨k-1,by omega⟩;rw[Nat.add_sub_cancel,Rat.pow_succ]
theorem Mad.int_top {n k i j:Nat} {A M:Mx} {c D:Rat} (h:Mad n k A M) (hk:k≤n) (hA:∀i j,i<n→j<n→IsI (c*A i j)) (hb:∀i,i<n→IsI (c*D*A i n)) (hD:IsI D) (hi:i<k) (hj:j≤n):IsI (c^k*det k A*D*M i j):=by
 obtain⟨y,h1,h2⟩:=h.comb i (by omega)
 have h3:∀l,l<k→IsI (y l*(c^(k-1)*1*det k A)):=fun l hl=>comb_int hA hk y (fun j=>if i=j then 1 else 0) 1 hl (fun j _=>by split;(· rw[Rat.one_mul];exact IsI.one);(· rw[Rat.one_mul];exact IsI.zero)) fun j hj=>by
  have:=h2 j (by omega);rw[h.unit i j (by omega) hj,if_pos hi,Rat.zero_add]at this;exact this.symm
 rw[h2 j hj,if_pos hi,Rat.zero_add,←sumTo_mul];apply IsI.sum;intro l hl;have h4:=h3 l hl
 have h5:IsI (c*D*A l j):=by
  by_cases e:j=n
  · rw[e];exact hb l (by omega)
  · have:=(hA l j (by omega) (by omega)).mul hD;have e2:c*A l j*D=c*D*A l j:=by grind
    rwa [e2]at this
 have h6:=h4.mul h5;have e:y l*(c^(k-1)*1*det k A)*(c*D*A l j)=c^(k-1)*c*det k A*D*(y l*A l j):=by grind
 rw[e,pow_pred c (by omega)]at h6;exact h6
theorem Mad.int_all {n k i j:Nat} {A M:Mx} {c D:Rat} (h:Mad n k A M) (hk:k≤n) (hc:IsI c) (hA:∀i j,i<n→j<n→IsI (c*A i j)) (hb:∀i,i<n→IsI (c*D*A i n)) (hD:IsI D) (hi:i<n) (hj:j≤n):IsI (c^k*det k A*(c*D)*M i j):=by
 by_cases hik:i<k
 · have h1:=(h.int_top hk hA hb hD hik hj).mul hc;have e:c^k*det k A*D*M i j*c=c^k*det k A*(c*D)*M i j:=by grind
   rwa [e]at h1
 · obtain ⟨y,h1,h2⟩:=h.comb i hi
   have h3:∀l,l<k→IsI (y l*(c^(k-1)*c*det k A)):=fun l hl=>comb_int hA hk y (fun j=>- A i j) c hl (fun j hj=>by
    have:=(hA i j hi (by omega)).neg;have e:-(c*A i j)=c*(- A i j):=by grind
    rwa [e]at this) fun j hj=>by
    have:=h2 j (by omega);rw[h.unit i j hi hj,if_neg (by omega),if_neg hik]at this;grind
   have h5:∀l,l<n→IsI (c*D*A l j):=fun l hl=>by
    by_cases e:j=n
    · rw[e];exact hb l hl
    · have:=(hA l j hl (by omega)).mul hD;have e2:c*A l j*D=c*D*A l j:=by grind
      rwa [e2]at this
   have hdet:IsI (c^k*det k A):=by
    have:=det_int (n:=k) (s:=fun _=>c) (M:=A) fun i j hi hj=>hA i j (by omega) (by omega)
    rwa [prodTo_const]at this
   rw[h2 j hj,if_neg hik];have e:c^k*det k A*(c*D)*(A i j+sumTo k fun l=>y l*A l j)=c^k*det k A*(c*D*A i j)+(c^k*det k A*(c*D))*sumTo k fun l=>y l*A l j:=by grind
   rw[e,←sumTo_mul];refine(hdet.mul (h5 i hi)).add (IsI.sum fun l hl=>?_);have h6:=(h3 l hl).mul (h5 l (by omega));have e:y l*(c^(k-1)*c*det k A)*(c*D*A l j)=c^(k-1)*c*det k A*(c*D)*(y l*A l j):=by grind
   rwa [e,pow_pred c (by omega)]at h6
end Sh
end
section
namespace Sh
open Nt
theorem elimTo_some {S:Rat→Bool} {n k:Nat} {M:Mx}:∀{m:Nat},m≤n →
 (∀i,i<m→i≠k→∀j,k≤j→j≤n→S (M i k)=true∧S (M k j)=true∧S (M i j)=true∧S (M i k*M k j)=true) →
 elimTo S n k m M=some fun i j=>if i<m∧i≠k∧k≤j then M i j-M i k*M k j else M i j:=by
 intro m
 induction m with
 | zero =>
   intro _ _;unfold elimTo
   congr 1
 | succ m ih =>
   intro hm hS;unfold elimTo;rw[ih (by omega) fun i hi=>hS i (by omega)];rw[Option.bind_some];unfold elimRow;have e1:∀j,(if m<m∧m≠k∧k≤j then M m j-M m k*M k j else M m j)=M m j:=fun j=>if_neg fun h=>absurd h.1 (Nat.lt_irrefl _);have e2:∀j,(if k<m∧k≠k∧k≤j then M k j-M k k*M k j else M k j)=M k j:=fun j=>if_neg fun h=>h.2.1 rfl
   by_cases c:m=k∨M m k=0
   · rw [if_pos (by dsimp only;rw[e1];exact c)]
     congr 1
     funext i j
     by_cases e:i=m
     · subst e;rw[e1]
       by_cases d:i≠k∧k≤j
       · rw[if_pos ⟨by omega,d⟩]
         rcases c with c | c
         · exact absurd c d.1
         · rw[c];grind
       · rw[if_neg fun h=>d h.2]
     · by_cases d:i<m∧i≠k∧k≤j
       · rw[if_pos d,if_pos ⟨by omega,d.2⟩]
       · rw[if_neg d,if_neg fun h=>d ⟨by omega,h.2⟩]
   · have hmk:m≠k:=fun e=>c (.inl e);rw[if_neg (by dsimp only;rw[e1];exact c),if_pos]
     · congr 1
       funext i j
       unfold subR;dsimp only
       by_cases e:i=m
       · subst e;rw[e1,e1,e2]
         by_cases d:k≤j
         · rw[if_pos ⟨rfl,d⟩,if_pos ⟨by omega,hmk,d⟩]
         · rw[if_neg fun h=>d h.2,if_neg fun h=>d h.2.2]
       · rw[if_neg fun h=>e h.1]
         by_cases d:i<m∧i≠k∧k≤j
         · rw[if_pos d,if_pos ⟨by omega,d.2⟩]
         · rw[if_neg d,if_neg fun h=>d ⟨by omega,h.2⟩]
     · rw[okSub_iff];intro j h1 h2;rw[e1,e1,e2];exact hS m (by omega) hmk j h1 h2
theorem pivot_self {n k:Nat} {M:Mx} (hk:k<n) (h:M k k≠0):pivot n k M (n-k)=some k :=
 pivot_step (by omega) (by omega) hk h fun i a b=>by omega
theorem swap_self (k:Nat) (M:Mx):swapR k k M=M:=by
 funext i
 unfold swapR
 split
 · next h=>rw[h]
 · rfl
theorem stepK_ok {S:Rat→Bool} {n k:Nat} {M:Mx} (hk:k<n) (hu:Unit n k M) (h0:M k k≠0)
 (h1:∀i j,i<n→j≤n→S (M i j)=true) (h2:∀j,j≤n→S (stepQ k M k j)=true) (h3:∀i j,i<n→j≤n→S (M i k*stepQ k M k j)=true):∃M',stepK S n k M=.ok M'∧∀i j,i<n→M' i j=stepQ k M i j:=by
 have hpq:M k k*(M k k)⁻¹=1:=Rat.mul_inv_cancel _ h0;have hz:=hu.zeros hk (Nat.le_refl _)
 have hrow:∀j,divMx k M k j=stepQ k M k j:=fun j=>by
  unfold divMx stepQ;rw[if_pos rfl]
  by_cases c:k≤j
  · rw[if_pos ⟨rfl,c⟩,Rat.div_def]
  · rw[if_neg fun h=>c h.2,hz j (by omega)];grind
 have hother:∀i j,i≠k→divMx k M i j=M i j:=fun i j e=>by unfold divMx;rw[if_neg fun h=>e h.1]
 have he:=elimTo_some (S:=S) (n:=n) (k:=k) (M:=divMx k M) (Nat.le_refl n) fun i hi hne j _ hj=>by
  rw[hother i k hne,hrow,hother i j hne];exact⟨h1 i k hi (by omega),h2 j hj,h1 i j hi hj,h3 i j hi hj⟩
 refine⟨fun i j=>if i<n∧i≠k∧k≤j then divMx k M i j-divMx k M i k*divMx k M k j else divMx k M i j,?_,?_⟩
 · unfold stepK;rw[pivot_self hk h0];dsimp only;rw[swap_self,if_pos,he];rw[okDiv_iff];intro j _ hj;exact⟨h1 k j hk hj,h1 k k hk (by omega)⟩
 · intro i j hi
   by_cases e:i=k
   · subst e;dsimp only;rw[if_neg fun h=>h.2.1 rfl,hrow]
   · unfold stepQ;dsimp only;rw[if_neg e]
     by_cases c:k≤j
     · rw[if_pos ⟨hi,e,c⟩,hother i j e,hother i k e,hrow];unfold stepQ;rw[if_pos rfl]
     · rw[if_neg fun h=>c h.2.2,hother i j e,hz j (by omega)];grind
def Fit (B:Nat) (x:Rat):Prop:=-1≤x∧x≤1∧∃d:Nat,0<d∧d≤B∧IsI ((d:Rat)*x)
theorem Shs.congr {n:Nat} {M M':Mx} {v:Nat→Rat} (h:Shs n M v) (e:∀i j,i<n→M' i j=M i j):Shs n M' v:=by
 refine⟨fun i hi=>by rw[e i i hi];exact h.le1 i hi,fun i j hi hj hn=>by rw[e i j hi];exact h.off i j hi hj hn,fun i hi=>by rw[e i n hi];exact h.rhs i hi,fun i hi=>?_,fun i hi=>?_,h.vnn⟩
 · rw[e i n hi,sumTo_congr (f:=M' i) (g:=M i) fun j _=>e i j hi];exact h.slack i hi
 · rw[sumTo_congr (g:=fun j=>M i j*v j) fun j _=>by rw[e i j hi]];exact h.pos i hi
theorem Mad.congr {n k:Nat} {A M M':Mx} (h:Mad n k A M) (e:∀i j,i<n→M' i j=M i j):Mad n k A M':=by
 refine⟨fun i j hi hj=>by rw[e i j hi];exact h.unit i j hi hj,fun i hi=>?_,?_⟩
 · obtain⟨y,h1,h2⟩:=h.comb i hi;exact⟨y,h1,fun j hj=>by rw[e i j hi];exact h2 j hj⟩
 · obtain⟨P,h1,h2,h3⟩:=h.dets;exact⟨P,h1,h2,fun K a b=>by rw[h3 K a b,det_congr fun i j hi _=>(e i j (by omega)).symm]⟩
theorem IsI.nat (n:Nat):IsI (n:Rat):=⟨n,(Rat.intCast_natCast n).symm⟩
theorem IsI.toNat {x:Rat} (h:IsI x) (h0:0<x):∃d:Nat,x=(d:Rat)∧0<d:=by
 obtain⟨z,rfl⟩:=h
 have h1:0<z:=by
  have:((0:Int):Rat)<(z:Rat):=h0;exact Rat.intCast_lt_intCast.1 this
 refine⟨z.toNat,?_,by omega⟩;have:((z.toNat:Nat):Int)=z:=by omega
 rw[←Rat.intCast_natCast,this]
theorem natCast_le {a b:Nat} (h:(a:Rat)≤(b:Rat)):a≤b:=Rat.natCast_le_natCast.1 h
theorem pow_nonneg' {c:Rat} (h:0<c) (n:Nat):0<c^n:=by
 induction n with
 | zero=>rw[Rat.pow_zero];decide
 | succ n ih=>rw[Rat.pow_succ];exact Rat.mul_pos ih h
structure Sys (n c D:Nat) (A:Mx) (v:Nat→Rat):Prop where
 shs:Shs n A v
 cp:0<c
 dp:0<D
 lhs:∀i j,i<n→j<n→IsI ((c:Rat)*A i j)
 rgt:∀i,i<n→IsI ((c:Rat)*(D:Rat)*A i n)
theorem Sys.det_nat {n c D k:Nat} {A M:Mx} {v:Nat→Rat} (h:Sys n c D A v) (hm:Mad n k A M) (hk:k≤n):∃d:Nat,0<d∧d≤c^k∧(c:Rat)^k*det k A=(d:Rat):=by
 obtain⟨d1,d2⟩:=hm.det_k hk;have hc:0<(c:Rat):=by have:=h.cp;exact Rat.natCast_pos.2 this
 have hI:IsI ((c:Rat)^k*det k A):=by
  have:=det_int (n:=k) (s:=fun _=>(c:Rat)) (M:=A) fun i j hi hj=>h.lhs i j (by omega) (by omega)
  rwa [prodTo_const]at this
 obtain⟨d,e1,e2⟩:=hI.toNat (Rat.mul_pos (pow_nonneg' hc k) d1);refine⟨d,e2,natCast_le ?_,e1⟩;rw[←e1,Rat.natCast_pow];have:=Rat.mul_le_mul_of_nonneg_left d2 (Rat.le_of_lt (pow_nonneg' hc k));grind
theorem Sys.fit {n c D k i j:Nat} {A M:Mx} {v:Nat→Rat} (h:Sys n c D A v) (hm:Mad n k A M) (hs:Shs n M v) (hk:k≤n) (hi:i<n) (hj:j≤n):Fit (c^(n+1)*D) (M i j):=by
 obtain⟨a1,a2⟩:=hs.abs hi hj;obtain⟨d,d1,d2,d3⟩:=h.det_nat hm hk;refine⟨a1,a2,d*(c*D),Nat.mul_pos d1 (Nat.mul_pos h.cp h.dp),?_,?_⟩
 · have h1:d≤c^n:=Nat.le_trans d2 (Nat.pow_le_pow_right h.cp hk);rw[Nat.pow_succ,Nat.mul_assoc];exact Nat.mul_le_mul_right _ h1
 · have:=hm.int_all hk (IsI.nat c) h.lhs h.rgt (IsI.nat D) hi hj;rw[d3]at this
   simpa [Rat.natCast_mul] using this
theorem Sys.solve {S:Rat→Bool} {n c D:Nat} {A:Mx} {v:Nat→Rat} (h:Sys n c D A v) (hS:∀x,Fit ((c^(n+1)*D)*(c^(n+1)*D)) x→S x=true) :
 ∀k,k≤n→∃M,solveTo S n k A=.ok M∧Shs n M v∧Mad n k A M:=by
 have hB:0<c^(n+1)*D:=Nat.mul_pos (Nat.pow_pos h.cp) h.dp
 have hS1:∀x,Fit (c^(n+1)*D) x→S x=true:=fun x hx=>by
  obtain⟨a1,a2,d,d1,d2,d3⟩:=hx;refine hS x ⟨a1,a2,d,d1,Nat.le_trans d2 ?_,d3⟩;exact Nat.le_mul_of_pos_left _ hB
 have hS2:∀x y,Fit (c^(n+1)*D) x→Fit (c^(n+1)*D) y→S (x*y)=true:=fun x y hx hy=>by
  obtain⟨a1,a2,d,d1,d2,d3⟩:=hx;obtain⟨b1,b2,e,e1,e2,e3⟩:=hy
  have hab:x*y≤1∧-1≤x*y:=by
   have p1:=Rat.mul_nonneg (a:=1-x) (b:=1-y) (by grind) (by grind);have p2:=Rat.mul_nonneg (a:=1+x) (b:=1+y) (by grind) (by grind);have p3:=Rat.mul_nonneg (a:=1-x) (b:=1+y) (by grind) (by grind);have p4:=Rat.mul_nonneg (a:=1+x) (b:=1-y) (by grind) (by grind);constructor
   · grind
   · grind
  refine hS _ ⟨hab.2,hab.1,d*e,Nat.mul_pos d1 e1,Nat.mul_le_mul d2 e2,?_⟩;have:=d3.mul e3;have e:(d:Rat)*x*((e:Rat)*y)=((d*e:Nat):Rat)*(x*y):=by rw[Rat.natCast_mul];grind
  rwa [e]at this
 intro k
 induction k with
 | zero=>intro _;exact⟨A,rfl,h.shs,Mad.start n A⟩
 | succ k ih =>
   intro hk;obtain⟨M,m1,m2,m3⟩:=ih (by omega);have hp:=m2.piv (show k<n by omega);have s1:=m2.step (show k<n by omega);have s2:=m3.step m2 (show k<n by omega);have f1:∀i j,i<n→j≤n→Fit (c^(n+1)*D) (M i j):=fun i j hi hj=>h.fit m3 m2 (by omega) hi hj;have f2:∀i j,i<n→j≤n→Fit (c^(n+1)*D) (stepQ k M i j):=fun i j hi hj=>h.fit s2 s1 hk hi hj;obtain⟨M',e1,e2⟩:=stepK_ok (S:=S) (show k<n by omega) m3.unit (by grind) (fun i j hi hj=>hS1 _ (f1 i j hi hj)) (fun j hj=>hS1 _ (f2 k j (by omega) hj)) fun i j hi hj=>hS2 _ _ (f1 i k hi (by omega)) (f2 k j (by omega) hj);refine⟨M',?_,s1.congr fun i j hi=>e2 i j hi,s2.congr fun i j hi=>e2 i j hi⟩;unfold solveTo;rw[m1];exact e1
theorem Sys.result {S:Rat→Bool} {n c D:Nat} {A:Mx} {v:Nat→Rat} (h:Sys n c D A v) (hS:∀x,Fit ((c^(n+1)*D)*(c^(n+1)*D)) x→S x=true) :
 ∃M,solveTo S n n A=.ok M∧(∀y,Sol n A y (fun i=>A i n)↔∀i,i<n→y i=M i n)∧(∀i,i<n→0≤M i n∧M i n≤1)∧∃d:Nat,0<d∧d≤c^n∧∀i,i<n→IsI ((d*D:Nat)*M i n):=by
 obtain⟨M,m1,m2,m3⟩:=h.solve hS n (Nat.le_refl n);obtain⟨d,d1,d2,d3⟩:=h.det_nat m3 (Nat.le_refl n);refine⟨M,m1,(sol_ok m1).1,fun i hi=>⟨m2.rhs i hi,(m2.abs hi (Nat.le_refl n)).2⟩,d,d1,d2,fun i hi=>?_⟩;have:=m3.int_top (Nat.le_refl n) h.lhs h.rgt (IsI.nat D) hi (Nat.le_refl n);rw[d3]at this;rw[Rat.natCast_mul];exact this
end Sh
end
section
namespace Sh
open Nt Ci
abbrev Lp:=Nat×Nat×Rat
def lsum (p:Nat) (f:Nat→Rat):List Lp→Rat
 | []=>0
 | x::l=>(if x.1=p then x.2.2*f x.2.1 else 0)+lsum p f l
theorem lsum_congr {p:Nat} {f g:Nat→Rat} {L:List Lp} (h:∀x,x∈L→x.1=p→f x.2.1=g x.2.1):lsum p f L=lsum p g L:=by
 induction L with
 | nil=>rfl
 | cons x l ih =>
   unfold lsum;rw[ih fun y hy=>h y (List.mem_cons_of_mem _ hy)]
   by_cases e:x.1=p
   · rw[if_pos e,if_pos e,h x List.mem_cons_self e]
   · rw[if_neg e,if_neg e]
theorem lsum_add (p:Nat) (f g:Nat→Rat) (L:List Lp):lsum p (fun h=>f h+g h) L=lsum p f L+lsum p g L:=by
 induction L with
 | nil=>exact(Rat.add_zero 0).symm
 | cons x l ih=>unfold lsum;rw[ih];split<;>grind
theorem lsum_mul (p:Nat) (c:Rat) (f:Nat→Rat) (L:List Lp):lsum p (fun h=>c*f h) L=c*lsum p f L:=by
 induction L with
 | nil=>exact(Rat.mul_zero c).symm
 | cons x l ih=>unfold lsum;rw[ih];split<;>grind
theorem lsum_sub (p:Nat) (f g:Nat→Rat) (L:List Lp):lsum p (fun h=>f h-g h) L=lsum p f L-lsum p g L:=by
 induction L with
 | nil=>show (0:Rat)=0-0;grind
 | cons x l ih=>unfold lsum;rw[ih];split<;>grind
theorem lsum_zero {p:Nat} {f:Nat→Rat} {L:List Lp} (h:∀x,x∈L→x.1=p→f x.2.1=0):lsum p f L=0:=by
 have h1:=lsum_mul p 0 f L;rw[lsum_congr (g:=fun h=>0*f h) fun x hx e=>by rw[h x hx e,Rat.zero_mul],h1,Rat.zero_mul]
theorem lsum_none {p:Nat} {f:Nat→Rat} {L:List Lp} (h:∀x,x∈L→x.1≠p):lsum p f L=0:=lsum_zero fun x hx e=>absurd e (h x hx)
theorem lsum_sum (p n:Nat) (g:Nat→Nat→Rat) (L:List Lp):sumTo n (fun j=>lsum p (g j) L)=lsum p (fun h=>sumTo n fun j=>g j h) L:=by
 induction n with
 | zero=>exact(lsum_zero fun _ _ _=>rfl).symm
 | succ n ih =>
   show (sumTo n fun j=>lsum p (g j) L)+lsum p (g n) L=_
   rw[ih,←lsum_add];rfl
structure Caps (n:Nat) (L:List Lp):Prop where
 lt:∀x,x∈L→x.1<n∧x.2.1<n
 whole:∀x,x∈L→IsI (6000*x.2.2)
 pos:∀x,x∈L→0<x.2.2
 le1:∀p,lsum p (fun _=>1) L≤1
def edgesL (L:List Lp):List (Nat×Nat):=L.map fun x=>(x.2.1,x.1)
theorem lsum_le {p:Nat} {f g:Nat→Rat} {L:List Lp} (hp:∀x,x∈L→0<x.2.2) (h:∀x,x∈L→x.1=p→f x.2.1≤g x.2.1):lsum p f L≤lsum p g L:=by
 induction L with
 | nil=>exact Rat.le_refl
 | cons x l ih =>
   unfold lsum;have h1:=ih (fun y hy=>hp y (List.mem_cons_of_mem _ hy)) fun y hy=>h y (List.mem_cons_of_mem _ hy)
   by_cases e:x.1=p
   · rw[if_pos e,if_pos e];have h2:=Rat.mul_le_mul_of_nonneg_left (h x List.mem_cons_self e) (Rat.le_of_lt (hp x List.mem_cons_self));grind
   · rw[if_neg e,if_neg e];grind
theorem lsum_gap {p:Nat} {f g:Nat→Rat} {L:List Lp} (hp:∀x,x∈L→0<x.2.2) (h:∀x,x∈L→x.1=p→f x.2.1≤g x.2.1) {x0:Lp} (h0:x0∈L) (e0:x0.1=p):lsum p f L+x0.2.2*(g x0.2.1-f x0.2.1)≤lsum p g L:=by
 induction L with
 | nil=>cases h0
 | cons x l ih =>
   unfold lsum
   rcases List.mem_cons.1 h0 with rfl | h0
   · rw[if_pos e0,if_pos e0];have h1:=lsum_le (p:=p) (f:=f) (g:=g) (L:=l) (fun y hy=>hp y (List.mem_cons_of_mem _ hy)) fun y hy=>h y (List.mem_cons_of_mem _ hy);grind
   · have h1:=ih (fun y hy=>hp y (List.mem_cons_of_mem _ hy)) (fun y hy=>h y (List.mem_cons_of_mem _ hy)) h0
     by_cases e:x.1=p
     · rw[if_pos e,if_pos e];have h2:=Rat.mul_le_mul_of_nonneg_left (h x List.mem_cons_self e) (Rat.le_of_lt (hp x List.mem_cons_self));grind
     · rw[if_neg e,if_neg e];grind
theorem lsum_nonneg {p:Nat} {f:Nat→Rat} {L:List Lp} (hp:∀x,x∈L→0<x.2.2) (h:∀x,x∈L→x.1=p→0≤f x.2.1):0≤lsum p f L:=by
 have:=lsum_le (p:=p) (f:=fun _=>0) (g:=f) hp h
 rwa [lsum_zero fun _ _ _=>rfl]at this
theorem Caps.le_of {n p:Nat} {L:List Lp} {f:Nat→Rat} {c:Rat} (h:Caps n L) (hc:0≤c) (hf:∀x,x∈L→x.1=p→f x.2.1≤c):lsum p f L≤c:=by
 have h1:=lsum_le (p:=p) (f:=f) (g:=fun h=>c*(fun _=>1) h) h.pos fun x hx e=>by rw[Rat.mul_one];exact hf x hx e
 rw[lsum_mul]at h1;have h2:=Rat.mul_le_mul_of_nonneg_left (h.le1 p) hc;grind
theorem Caps.int_sum {n p:Nat} {L:List Lp} {f:Nat→Rat} {D:Rat} (h:Caps n L) (hf:∀x,x∈L→x.1=p→IsI (D*f x.2.1)):IsI (6000*D*lsum p f L):=by
 have hw:=h.whole;clear h
 induction L with
 | nil=>show IsI (6000*D*0);rw[Rat.mul_zero];exact IsI.zero
 | cons x l ih =>
   unfold lsum;have h1:=ih (fun y hy=>hf y (List.mem_cons_of_mem _ hy)) fun y hy=>hw y (List.mem_cons_of_mem _ hy)
   by_cases e:x.1=p
   · rw[if_pos e];have h2:=(hw x List.mem_cons_self).mul (hf x List.mem_cons_self e);have e2:6000*D*(x.2.2*f x.2.1+lsum p f l)=6000*x.2.2*(D*f x.2.1)+6000*D*lsum p f l:=by grind
     rw[e2];exact h2.add h1
   · rw[if_neg e];have e2:6000*D*(0+lsum p f l)=6000*D*lsum p f l:=by grind
     rw[e2];exact h1
theorem part_ge {x:Rat} (h1:IsI (6000*x)) (h2:0<x):1/6000≤x:=by
 obtain⟨d,e,hd⟩:=h1.toNat (by grind)
 have h3:(1:Rat)≤(d:Rat):=by
  have:((1:Nat):Rat)≤(d:Rat):=Rat.natCast_le_natCast.2 hd
  simpa using this
 grind
theorem max_principle {n:Nat} {L:List Lp} (hL:Caps n L) (d:Nat→Rat) (ρ:Nat→Nat)
 (h:∀p,p<n→0<d p→d p≤lsum p d L∧∃x,x∈L∧x.1=p∧ρ x.2.1<ρ p):∀p,p<n→d p≤0:=by
 intro p0 hp0
 have key : ∀ m,(∀p,p<m→d p≤0)∨∃q,q<m∧0<d q∧∀p,p<m→d p<d q∨(d p=d q∧ρ q≤ρ p):=by
  intro m
  induction m with
  | zero=>exact .inl fun p hp=>absurd hp (by omega)
  | succ m ih =>
    by_cases c:0<d m
    · rcases ih with ih | ⟨q,q1,q2,q3⟩
      · refine .inr ⟨m,by omega,c,fun p hp=>?_⟩
        by_cases e:p=m
        · subst e;exact .inr ⟨rfl,Nat.le_refl _⟩
        · have:=ih p (by omega);exact .inl (by grind)
      · by_cases c2:d q<d m∨(d q=d m∧ρ m≤ρ q)
        · refine .inr ⟨m,by omega,c,fun p hp=>?_⟩
          by_cases e:p=m
          · subst e;exact .inr ⟨rfl,Nat.le_refl _⟩
          · have:=q3 p (by omega)
            rcases c2 with c2 | ⟨c2,c3⟩
            · rcases this with t | ⟨t,_⟩
              · exact .inl (by grind)
              · exact .inl (by grind)
            · rcases this with t | ⟨t,t2⟩
              · exact .inl (by grind)
              · exact .inr ⟨by grind,by omega⟩
        · refine .inr ⟨q,by omega,q2,fun p hp=>?_⟩
          by_cases e:p=m
          · subst e
            by_cases c3:d p<d q
            · exact .inl c3
            · refine .inr ?_;have h1:¬d q<d p:=fun a=>c2 (.inl a);have h2:d p=d q:=by grind
              refine⟨h2,?_⟩
              rcases Nat.lt_or_ge (ρ p) (ρ q) with a | a
              · exact absurd (Or.inr ⟨h2.symm,by omega⟩) c2
              · exact a
          · exact q3 p (by omega)
    · rcases ih with ih | ⟨q,q1,q2,q3⟩
      · refine .inl fun p hp=>?_
        by_cases e:p=m
        · subst e;exact Rat.not_lt.1 c
        · exact ih p (by omega)
      · refine .inr ⟨q,by omega,q2,fun p hp=>?_⟩
        by_cases e:p=m
        · subst e;exact .inl (by have:=Rat.not_lt.1 c;grind)
        · exact q3 p (by omega)
 rcases key n with k | ⟨q,q1,q2,q3⟩
 · exact k p0 hp0
 · exfalso;obtain⟨h1,x,x1,x2,x3⟩:=h q q1 q2
   have hle:∀y,y∈L→d y.2.1≤d q:=fun y hy=>by
    rcases q3 _ (hL.lt y hy).2 with a | ⟨a,_⟩
    · exact Rat.le_of_lt a
    · rw[a];exact Rat.le_refl
   have hg:=lsum_gap (p:=q) (f:=d) (g:=fun _=>d q) hL.pos (fun y hy _=>hle y hy) x1 x2;have h2:lsum q (fun _=>d q) L≤d q:=hL.le_of (Rat.le_of_lt q2) fun _ _ _=>Rat.le_refl
   have h3:d x.2.1<d q:=by
    rcases q3 _ (hL.lt x x1).2 with a | ⟨_,b⟩
    · exact a
    · omega
   have h4:=Rat.mul_pos (hL.pos x x1) (show 0<d q-d x.2.1 by grind);grind
def sysA (L:List Lp) (u:List Nat) (val:Nat→Rat):Mx:=fun i j =>
 let p:=u.getD i 0
 if j=u.length then lsum p (fun h=>if h∈u then 0 else val h) L
 else (if i=j then 1 else 0)-lsum p (fun h=>if h=u.getD j 0 then 1 else 0) L
def nextV (S:Rat→Bool) (L:List Lp) (u:List Nat) (val:Nat→Rat):Nat→Rat :=
 match solveTo S u.length u.length (sysA L u val) with
 | .ok M=>fun p=>if p∈u then M (u.idxOf p) u.length else val p
 | .error _=>val
def runV (S:Rat→Bool) (L:List Lp):List (List Nat)→(Nat→Rat)→Nat→Rat
 | [],val=>val
 | u::us,val=>runV S L us (nextV S L u val)
theorem getD_get {u:List Nat} {i:Nat} (h:i<u.length):u.getD i 0=u[i]:=by simp[List.getD,h]
theorem getD_mem {u:List Nat} {i:Nat} (h:i<u.length):u.getD i 0∈u:=by
 rw[getD_get h];exact List.getElem_mem h
theorem idx_getD {u:List Nat} (hu:u.Nodup) {i:Nat} (h:i<u.length):u.idxOf (u.getD i 0)=i:=by
 rw[getD_get h];exact hu.idxOf_getElem i h
theorem getD_idx {u:List Nat} {p:Nat} (h:p∈u):u.getD (u.idxOf p) 0=p:=by
 have:=List.idxOf_lt_length_iff.2 h;rw[getD_get this];exact List.getElem_idxOf this
theorem sum_pick {u:List Nat} (hu:u.Nodup) (y:Nat→Rat) (h:Nat):(sumTo u.length fun j=>(if h=u.getD j 0 then 1 else 0)*y j)=if h∈u then y (u.idxOf h) else 0:=by
 by_cases e:h∈u
 · rw [if_pos e,sumTo_one (k:=u.idxOf h) _ (List.idxOf_lt_length_iff.2 e) fun j hj hne=>?_]
   · rw[getD_idx e,if_pos rfl,Rat.one_mul]
   · rw[if_neg,Rat.zero_mul];intro e2;rw[e2,idx_getD hu hj]at hne;exact hne rfl
 · rw[if_neg e];exact sumTo_zero fun j hj=>by rw[if_neg (fun e2=>e (by rw[e2];exact getD_mem hj)),Rat.zero_mul]
theorem sysA_row {L:List Lp} {u:List Nat} {val:Nat→Rat} (hu:u.Nodup) {i:Nat} (hi:i<u.length) (y:Nat→Rat) :
 (sumTo u.length fun j=>sysA L u val i j*y j)=y i-lsum (u.getD i 0) (fun h=>if h∈u then y (u.idxOf h) else 0) L:=by
 rw [sumTo_congr (g:=fun j=>(if i=j then 1 else 0)*y j+(-1)*lsum (u.getD i 0) (fun h=>y j*if h=u.getD j 0 then 1 else 0) L) fun j hj=>by
  unfold sysA;dsimp only;rw[if_neg (by omega),lsum_mul];grind]
 rw[sumTo_add,sumTo_mul,sumTo_one (k:=i) _ hi fun j _ hne=>by rw[if_neg (fun e=>hne e.symm),Rat.zero_mul],if_pos rfl,Rat.one_mul,lsum_sum]
 rw [lsum_congr (g:=fun h=>if h∈u then y (u.idxOf h) else 0) fun x _ _=>by
  rw[←sum_pick hu];exact sumTo_congr fun j _=>Rat.mul_comm _ _]
 grind
theorem sysA_sol {L:List Lp} {u:List Nat} {val:Nat→Rat} (hu:u.Nodup) (y:Nat→Rat) :
 Sol u.length (sysA L u val) y (fun i=>sysA L u val i u.length)↔∀i,i<u.length→y i=lsum (u.getD i 0) (fun h=>if h∈u then y (u.idxOf h) else val h) L:=by
 have key:∀i,i<u.length→((sumTo u.length fun j=>sysA L u val i j*y j)=sysA L u val i u.length↔y i=lsum (u.getD i 0) (fun h=>if h∈u then y (u.idxOf h) else val h) L):=by
  intro i hi;rw[sysA_row hu hi,lsum_congr (f:=fun h=>if h∈u then y (u.idxOf h) else val h) (g:=fun h=>(if h∈u then y (u.idxOf h) else 0)+(if h∈u then 0 else val h)) fun x _ _=>by split<;>grind,lsum_add]
  have e:sysA L u val i u.length=lsum (u.getD i 0) (fun h=>if h∈u then 0 else val h) L:=by
   unfold sysA;dsimp only;rw[if_pos rfl]
  rw[e];constructor<;>intro h<;>grind
 unfold Sol;exact⟨fun h i hi=>(key i hi).1 (h i hi),fun h i hi=>(key i hi).2 (h i hi)⟩
end Sh
end
section
namespace Sh
open Nt Ci
theorem Fit.mono {B B':Nat} {x:Rat} (h:Fit B x) (hB:B≤B'):Fit B' x:=by
 obtain⟨a,b,d,d1,d2,d3⟩:=h;exact⟨a,b,d,d1,Nat.le_trans d2 hB,d3⟩
structure Inv (L:List Lp) (F:List Nat) (done:List Nat) (val:Nat→Rat) (D:Nat):Prop where
 rng:∀p,0≤val p∧val p≤1
 dp:0<D
 dle:D≤6000^done.length
 whole:∀p,IsI ((D:Rat)*val p)
 eqs:∀p,p∈done→val p=lsum p val L
 rest:∀p,p∉done→val p=if p∈F then 1 else 0
 clo:∀p,p∈done→∀x,x∈L→x.1=p→rk (edgesL L) F x.2.1≤0∨x.2.1∈done
 dn:∀p,p∈done→0<rk (edgesL L) F p
theorem Inv.start (L:List Lp) (F:List Nat):Inv L F [] (fun p=>if p∈F then 1 else 0) 1:=by
 refine⟨fun p=>?_,by omega,by simp,fun p=>?_,fun p h=>by simp at h,fun p _=>rfl,fun p h=>by simp at h,fun p h=>by simp at h⟩
 · split<;>constructor<;>decide
 · split
   · exact(IsI.nat 1).mul IsI.one
   · exact(IsI.nat 1).mul IsI.zero
structure Nxt (L:List Lp) (F:List Nat) (done u:List Nat):Prop where
 nodup:u.Nodup
 new:∀p,p∈u→p∉done
 pos:∀p,p∈u→0<rk (edgesL L) F p
 clo:∀p,p∈u→∀x,x∈L→x.1=p→rk (edgesL L) F x.2.1≤0∨x.2.1∈u∨x.2.1∈done
def Ready (L:List Lp) (F:List Nat):List Nat→List (List Nat)→Prop
 | _,[]=>True
 | done,u::us=>Nxt L F done u∧Ready L F (done++u) us
def tq:Rat:=1/12000
theorem tq_pow (k:Nat):0<tq^k∧tq^k≤1:=by
 induction k with
 | zero=>rw[Rat.pow_zero];constructor<;>decide
 | succ k ih =>
   rw[Rat.pow_succ];have h1:(0:Rat)<tq:=by unfold tq;grind
   refine⟨Rat.mul_pos ih.1 h1,?_⟩;have h2:=Rat.mul_le_mul_of_nonneg_left (show tq≤1 by unfold tq;grind) (Rat.le_of_lt ih.1);grind
theorem mem_edges {L:List Lp} {h p:Nat} (e:(h,p)∈edgesL L):∃x,x∈L∧x.1=p∧x.2.1=h:=by
 unfold edgesL at e;obtain⟨x,hx,e2⟩:=List.mem_map.1 e;injection e2 with a b;exact⟨x,hx,b,a⟩
theorem edges_mem {L:List Lp} {x:Lp} (h:x∈L):(x.2.1,x.1)∈edgesL L:=List.mem_map.2 ⟨x,h,rfl⟩
theorem Nxt.sys {n D:Nat} {L:List Lp} {F done u:List Nat} {val:Nat→Rat} (hL:Caps n L) (hi:Inv L F done val D) (hx:Nxt L F done u) :
 Sys u.length 6000 D (sysA L u val) (fun j=>1-tq^(rk (edgesL L) F (u.getD j 0)).toNat):=by
 have one01:∀(c:Prop) [Decidable c],0≤(if c then (1:Rat) else 0):=fun c _=>by split<;>decide
 refine⟨⟨fun i hi2=>?_,fun i j h1 h2 h3=>?_,fun i h1=>?_,fun i h1=>?_,fun i h1=>?_,fun j _=>?_⟩,by omega,hi.dp,fun i j h1 h2=>?_,fun i h1=>?_⟩
 · unfold sysA;dsimp only;rw[if_neg (by omega),if_pos rfl];have:=lsum_nonneg (p:=u.getD i 0) (f:=fun h=>if h=u.getD i 0 then 1 else 0) hL.pos fun x _ _=>one01 _;grind
 · unfold sysA;dsimp only;rw[if_neg (by omega),if_neg (fun e=>h3 e.symm)];have:=lsum_nonneg (p:=u.getD i 0) (f:=fun h=>if h=u.getD j 0 then 1 else 0) hL.pos fun x _ _=>one01 _;grind
 · unfold sysA;dsimp only;rw[if_pos rfl]
   exact lsum_nonneg hL.pos fun x _ _=>by
    split
    · exact Rat.le_refl
    · exact(hi.rng _).1
 · have h2:=sysA_row (L:=L) (val:=val) hx.nodup h1 (fun _=>1);rw[sumTo_congr (g:=sysA L u val i) fun j _=>Rat.mul_one _]at h2;rw[h2];unfold sysA;dsimp only;rw[if_pos rfl]
   have h3:lsum (u.getD i 0) (fun h=>(if h∈u then 0 else val h)+if h∈u then 1 else 0) L≤1:=hL.le_of (by decide) fun x _ _=>by
    split
    · grind
    · have:=(hi.rng x.2.1).2;grind
   rw[lsum_add]at h3;grind
 · rw [sysA_row hx.nodup h1];have hp:=hx.pos _ (getD_mem h1);obtain⟨r,hr⟩:∃r:Nat,rk (edgesL L) F (u.getD i 0)=((r+1:Nat):Int):=⟨(rk (edgesL L) F (u.getD i 0)).toNat-1,by omega⟩;obtain⟨h0,k1,k2⟩:=rk_pred hr;obtain⟨x0,x1,x2,x3⟩:=mem_edges k2
   have hg:=lsum_gap (p:=u.getD i 0) (f:=fun h=>if h∈u then 1-tq^(rk (edgesL L) F (u.getD (u.idxOf h) 0)).toNat else 0) (g:=fun _=>1) hL.pos (fun y _ _=>by
    split
    · have:=(tq_pow (rk (edgesL L) F (u.getD (u.idxOf y.2.1) 0)).toNat).1;grind
    · decide) x1 x2
   have hle:=hL.le1 (u.getD i 0);have hge:=part_ge (hL.whole x0 x1) (hL.pos x0 x1)
   have hgap:tq^r≤1-(if x0.2.1∈u then 1-tq^(rk (edgesL L) F (u.getD (u.idxOf x0.2.1) 0)).toNat else 0):=by
    split
    · next e =>
      rw[getD_idx e,x3,k1]
      show tq^r≤1-(1-tq^((r:Int)).toNat)
      rw[Int.toNat_natCast];grind
    · have:=(tq_pow r).2;grind
   have e1:((rk (edgesL L) F (u.getD i 0)).toNat)=r+1:=by rw[hr];exact Int.toNat_natCast _
   rw[e1,Rat.pow_succ];have h5:=Rat.mul_le_mul_of_nonneg_left hgap (Rat.le_of_lt (hL.pos x0 x1));have h6:=Rat.mul_le_mul_of_nonneg_left hge (Rat.le_of_lt (tq_pow r).1);have h7:tq^r*tq<tq^r*(1/6000):=Rat.mul_lt_mul_of_pos_left (by unfold tq;grind) (tq_pow r).1;grind
 · have:=(tq_pow (rk (edgesL L) F (u.getD j 0)).toNat).2;grind
 · unfold sysA;dsimp only;rw[if_neg (by omega)]
   have h3:=hL.int_sum (p:=u.getD i 0) (f:=fun h=>if h=u.getD j 0 then 1 else 0) (D:=1) fun x _ _=>by
    split
    · exact IsI.one.mul IsI.one
    · exact IsI.one.mul IsI.zero
   have h4:IsI ((if i=j then 1 else 0)*6000):=by
    split
    · exact IsI.one.mul (IsI.nat 6000)
    · exact IsI.zero.mul (IsI.nat 6000)
   have e:((6000:Nat):Rat)*((if i=j then 1 else 0)-lsum (u.getD i 0) (fun h=>if h=u.getD j 0 then 1 else 0) L)=(if i=j then 1 else 0)*6000+-(6000*1*lsum (u.getD i 0) (fun h=>if h=u.getD j 0 then 1 else 0) L):=by
    rw[show ((6000:Nat):Rat)=6000 from rfl];grind
   rw[e];exact h4.add h3.neg
 · unfold sysA;dsimp only;rw[if_pos rfl]
   exact hL.int_sum fun x _ _=>by
    split
    · rw[Rat.mul_zero];exact IsI.zero
    · exact hi.whole _
theorem pow_bound {m d D:Nat} (h1:D≤6000^d) (h2:d+m≤16):(6000^(m+1)*D)*(6000^(m+1)*D)≤6000^34:=by
 have h3:6000^(m+1)*D≤6000^17:=by
  calc 6000^(m+1)*D≤6000^(m+1)*6000^d:=Nat.mul_le_mul_left _ h1
   _=6000^(m+1+d):=(Nat.pow_add _ _ _).symm
   _≤6000^17:=Nat.pow_le_pow_right (by omega) (by omega)
 calc _≤6000^17*6000^17:=Nat.mul_le_mul h3 h3
  _=6000^34:=(Nat.pow_add _ _ _).symm
theorem Inv.step {n D:Nat} {S:Rat→Bool} {L:List Lp} {F done u:List Nat} {val:Nat→Rat} (hL:Caps n L) (hS:∀x,Fit (6000^34) x→S x=true)
 (hi:Inv L F done val D) (hx:Nxt L F done u) (hlen:done.length+u.length≤16) :
 ∃M D',solveTo S u.length u.length (sysA L u val)=.ok M∧Inv L F (done++u) (nextV S L u val) D':=by
 obtain⟨M,m1,m2,m3,d,d1,d2,d3⟩:=(hx.sys hL hi).result (S:=S) fun x h=>hS x (h.mono (pow_bound hi.dle hlen));have hv:nextV S L u val=fun p=>if p∈u then M (u.idxOf p) u.length else val p:=by unfold nextV;rw[m1]
 have hsol:=(sysA_sol (L:=L) (val:=val) hx.nodup fun i=>M i u.length).1 ((m2 _).2 fun _ _=>rfl);have hlt:∀{p},p∈u→u.idxOf p<u.length:=fun h=>List.idxOf_lt_length_iff.2 h
 have hkeep:∀p,p∈done→lsum p (fun q=>if q∈u then M (u.idxOf q) u.length else val q) L=lsum p val L:=fun p hp=>lsum_congr fun x hxL e=>by
  rw[if_neg];intro hm
  rcases hi.clo p hp x hxL e with a | a
  · have:=hx.pos _ hm;omega
  · exact hx.new _ hm a
 refine⟨M,d*D,m1,?_⟩;rw[hv];refine⟨fun p=>?_,Nat.mul_pos d1 hi.dp,?_,fun p=>?_,fun p hp=>?_,fun p hp=>?_,fun p hp x hxL e=>?_,fun p hp=>?_⟩
 · split
   · next e=>exact m3 _ (hlt e)
   · exact hi.rng p
 · rw[List.length_append,Nat.pow_add,Nat.mul_comm];exact Nat.mul_le_mul hi.dle d2
 · split
   · next e=>exact d3 _ (hlt e)
   · have:=(IsI.nat d).mul (hi.whole p)
     rwa [Rat.natCast_mul,Rat.mul_assoc]
 · by_cases e:p∈u
   · rw[if_pos e];have:=hsol _ (hlt e)
     rwa [getD_idx e]at this
   · rw[if_neg e]
     rcases List.mem_append.1 hp with h | h
     · rw[hkeep p h];exact hi.eqs p h
     · exact absurd h e
 · rw[if_neg (fun h=>hp (List.mem_append_right _ h))];exact hi.rest p fun h=>hp (List.mem_append_left _ h)
 · rcases List.mem_append.1 hp with h | h
   · rcases hi.clo p h x hxL e with a | a
     · exact .inl a
     · exact .inr (List.mem_append_left _ a)
   · rcases hx.clo p h x hxL e with a | a | a
     · exact .inl a
     · exact .inr (List.mem_append_right _ a)
     · exact .inr (List.mem_append_left _ a)
 · rcases List.mem_append.1 hp with h | h
   · exact hi.dn p h
   · exact hx.pos p h
theorem Inv.run {n:Nat} {S:Rat→Bool} {L:List Lp} {F:List Nat} (hL:Caps n L) (hS:∀x,Fit (6000^34) x→S x=true) :
 ∀(us:List (List Nat)) (done:List Nat) (val:Nat→Rat) (D:Nat),Inv L F done val D→Ready L F done us→done.length+us.flatten.length≤16→∃D',Inv L F (done++us.flatten) (runV S L us val) D':=by
 intro us
 induction us with
 | nil=>intro done val D hi _ _;exact⟨D,by simpa [runV] using hi⟩
 | cons u us ih =>
   intro done val D hi hr hlen;rw[List.flatten_cons,List.length_append]at hlen;obtain⟨M,D',_,h⟩:=hi.step hL hS hr.1 (by omega);have:=ih (done++u) _ D' h hr.2 (by rw[List.length_append];omega);rw[List.flatten_cons,←List.append_assoc];exact this
structure Eff (n:Nat) (L:List Lp) (F:List Nat) (e:Nat→Rat):Prop where
 rng:∀p,0≤e p∧e p≤1
 listed:∀p,p∈F→e p=1
 out:∀p,p<n→rk (edgesL L) F p<0→e p=0
 sum:∀p,p<n→p∉F→e p=lsum p e L
 pos:∀p,p<n→(0<e p↔0≤rk (edgesL L) F p)
theorem Inv.eff {n D:Nat} {L:List Lp} {F done:List Nat} {val:Nat→Rat} (hL:Caps n L) (hi:Inv L F done val D) (hall:∀p,p<n→0<rk (edgesL L) F p→p∈done):Eff n L F val:=by
 have hin:InN n (edgesL L):=fun y hy=>by
  obtain⟨x,hx,rfl⟩:=List.mem_map.1 hy;exact⟨(hL.lt x hx).2,(hL.lt x hx).1⟩
 have hl:∀p,p∈F→val p=1:=fun p hp=>by
  have:p∉done:=fun h=>by
   have h1:=hi.dn p h;have h2:rk (edgesL L) F p=0:=rk_zero.2 hp;omega
  rw[hi.rest p this,if_pos hp]
 have ho:∀p,p<n→rk (edgesL L) F p<0→val p=0:=fun p _ hr=>by
  rw[hi.rest p fun h=>by have:=hi.dn p h;omega,if_neg fun h=>by have:rk (edgesL L) F p=0:=rk_zero.2 h;omega]
 have hs:∀p,p<n→p∉F→val p=lsum p val L:=fun p hp hF=>by
  by_cases c:0<rk (edgesL L) F p
  · exact hi.eqs p (hall p hp c)
  · have c0:rk (edgesL L) F p≠0:=fun e=>hF (rk_zero.1 e);rw[ho p hp (by omega)];refine(lsum_zero fun x hx e=>ho _ (hL.lt x hx).2 ?_).symm
    rcases Int.lt_or_le (rk (edgesL L) F x.2.1) 0 with a | a
    · exact a
    · have:=rk_edge a (edges_mem hx);rw[e]at this;omega
 refine⟨hi.rng,hl,ho,hs,fun p hp=>⟨fun h=>?_,fun h=>?_⟩⟩
 · rcases Int.lt_or_le (rk (edgesL L) F p) 0 with a | a
   · rw[ho p hp a]at h;exact absurd h (by decide)
   · exact a
 · obtain ⟨r,hr⟩:∃r:Nat,rk (edgesL L) F p=(r:Int):=⟨(rk (edgesL L) F p).toNat,by omega⟩;clear h
   induction r generalizing p with
   | zero=>rw[hl p (rk_zero.1 hr)];decide
   | succ r ih =>
     have hF:p∉F:=fun h=>by have:rk (edgesL L) F p=0:=rk_zero.2 h;omega
     obtain⟨h0,k1,k2⟩:=rk_pred hr;obtain⟨x0,x1,x2,x3⟩:=mem_edges k2;have h4:=ih x0.2.1 (hL.lt x0 x1).2 (by rw[x3];exact k1);have h5:=lsum_gap (p:=p) (f:=fun _=>0) (g:=val) hL.pos (fun y _ _=>(hi.rng _).1) x1 x2;rw[lsum_zero fun _ _ _=>rfl]at h5;rw[hs p hp hF];have h6:=Rat.mul_pos (hL.pos x0 x1) h4;grind
section eff
variable {n:Nat} {L:List Lp} {F:List Nat} {e:Nat→Rat}
theorem Eff.least (hL:Caps n L) (h:Eff n L F e) {v:Nat→Rat} (h0:∀p,p<n→0≤v p) (h1:∀p,p<n→p∈F→1≤v p) (h2:∀p,p<n→p∉F→lsum p v L≤v p):∀p,p<n→e p≤v p:=by
 intro p hp
 have:=max_principle hL (fun p=>e p-v p) (fun p=>(rk (edgesL L) F p).toNat) (fun p hp hd=>by
  have hep:0<e p:=by have:=h0 p hp;grind
  have hr:=(h.pos p hp).1 hep
  have hF:p∉F:=fun hm=>by
   have a:=h.listed p hm;have b:=h1 p hp hm;grind
  have hr0:rk (edgesL L) F p≠0:=fun e=>hF (rk_zero.1 e);refine⟨?_,?_⟩
  · rw[lsum_sub,←h.sum p hp hF];have:=h2 p hp hF;grind
  · obtain⟨r,hr⟩:∃r:Nat,rk (edgesL L) F p=((r+1:Nat):Int):=⟨(rk (edgesL L) F p).toNat-1,by omega⟩;obtain⟨h0,k1,k2⟩:=rk_pred hr;obtain⟨x0,x1,x2,x3⟩:=mem_edges k2;exact⟨x0,x1,x2,by rw[x3];omega⟩) p hp
 grind
theorem Eff.one (hL:Caps n L) {e':Nat→Rat} (h:Eff n L F e) (h':Eff n L F e'):∀p,p<n→e p=e' p:=fun p hp=>by
 have a:=h.least hL (fun q _=>(h'.rng q).1) (fun q _ hq=>by rw[h'.listed q hq];exact Rat.le_refl) (fun q hq hF=>by rw[←h'.sum q hq hF];exact Rat.le_refl) p hp;have b:=h'.least hL (fun q _=>(h.rng q).1) (fun q _ hq=>by rw[h.listed q hq];exact Rat.le_refl) (fun q hq hF=>by rw[←h.sum q hq hF];exact Rat.le_refl) p hp;grind
theorem Eff.more (hL:Caps n L) {F':List Nat} {e':Nat→Rat} (h:Eff n L F e) (h':Eff n L F' e') (hs:∀p,p∈F→p∈F'):∀p,p<n→e p≤e' p :=
 h.least hL (fun q _=>(h'.rng q).1) (fun q _ hq=>by rw[h'.listed q (hs q hq)];exact Rat.le_refl) fun q hq _=>by
  by_cases c:q∈F'
  · rw[h'.listed q c];exact hL.le_of (by decide) fun x _ _=>(h'.rng _).2
  · rw[←h'.sum q hq c];exact Rat.le_refl
theorem Eff.both (hL:Caps n L) {A B:List Nat} {x y:Nat→Rat} (h:Eff n L F e) (hx:Eff n L A x) (hy:Eff n L B y) (hs:∀p,p∈F→p∈A∨p∈B) (ha:∀p,p∈A→p∈F) (hb:∀p,p∈B→p∈F):∀p,p<n→e p≤x p+y p :=
 h.least hL (fun q _=>by have:=(hx.rng q).1;have:=(hy.rng q).1;grind) (fun q _ hq=>by
  rcases hs q hq with c | c
  · have:=hx.listed q c;have:=(hy.rng q).1;grind
  · have:=hy.listed q c;have:=(hx.rng q).1;grind) fun q hq hF=>by
  rw[lsum_add,←hx.sum q hq (fun c=>hF (ha q c)),←hy.sum q hq (fun c=>hF (hb q c))];exact Rat.le_refl
theorem lsum_erase {p:Nat} {f:Nat→Rat} (hf:∀q,0≤f q):∀{L:List Lp} (k:Nat),(∀x,x∈L→0<x.2.2)→lsum p f (L.eraseIdx k)≤lsum p f L:=by
 intro L
 induction L with
 | nil=>intro k _;exact Rat.le_refl
 | cons x l ih =>
   intro k hp
   have h0:0≤(if x.1=p then x.2.2*f x.2.1 else 0):=by
    split
    · exact Rat.mul_nonneg (Rat.le_of_lt (hp x List.mem_cons_self)) (hf _)
    · exact Rat.le_refl
   cases k with
   | zero=>show lsum p f l≤_+lsum p f l;grind
   | succ k =>
     have:=ih k fun y hy=>hp y (List.mem_cons_of_mem _ hy)
     show _+lsum p f (l.eraseIdx k)≤_+lsum p f l
     grind
theorem Caps.erase (hL:Caps n L) (k:Nat):Caps n (L.eraseIdx k):=by
 have hm:∀x,x∈L.eraseIdx k→x∈L:=fun x hx=>List.mem_of_mem_eraseIdx hx;refine⟨fun x hx=>hL.lt x (hm x hx),fun x hx=>hL.whole x (hm x hx),fun x hx=>hL.pos x (hm x hx),fun p=>?_⟩;have h1:=lsum_erase (p:=p) (f:=fun _=>1) (fun _=>by decide) k hL.pos;have h2:=hL.le1 p;grind
theorem Eff.without (hL:Caps n L) {e':Nat→Rat} {k:Nat} (h:Eff n L F e) (h':Eff n (L.eraseIdx k) F e'):∀p,p<n→e' p≤e p :=
 h'.least (hL.erase k) (fun q _=>(h.rng q).1) (fun q _ hq=>by rw[h.listed q hq];exact Rat.le_refl) fun q hq hF=>by
  have h1:=lsum_erase (p:=q) (f:=e) (fun q=>(h.rng q).1) k hL.pos;rw[←h.sum q hq hF]at h1;exact h1
end eff
end Sh
end
section
namespace Ci
section
variable {E:List (Nat×Nat)} {n p q:Nat}
theorem nodup_inj {l:List Nat} (h:l.Nodup) {i j:Nat} {hi:i<l.length} {hj:j<l.length} (e:l[i]=l[j]):i=j:=by
 have hp:=List.pairwise_iff_getElem.1 h
 rcases Nat.lt_trichotomy i j with c | c | c
 · exact absurd e (hp i j hi hj c)
 · exact c
 · exact absurd e.symm (hp j i hj hi c)
theorem mem_ords (hE:InN n E):p∈ords n E↔p<n∧fst E p=p:=by
 unfold ords;rw[ord_mem n _ (Left.start hE) leasts_len];exact mem_leasts
theorem ords_nodup (hE:InN n E):(ords n E).Nodup:=(ord_nodup n _ (Left.start hE) leasts_len).1
theorem ords_len (hE:InN n E):(ords n E).length≤n:=by
 have:=(ord_nodup n _ (Left.start hE) leasts_len).2;have h2:=leasts_len (n:=n) (E:=E);unfold ords;omega
theorem comps_len:(comps n E).length=(ords n E).length:=by simp[comps]
theorem comps_get {k:Nat} (hk:k<(comps n E).length):(comps n E)[k]=comp n E ((ords n E)[k]'(by simpa [comps] using hk)):=by simp[comps]
noncomputable def at' (n:Nat) (E:List (Nat×Nat)) (p:Nat):Nat:=(ords n E).idxOf (fst E p)
theorem at_lt (hE:InN n E) (hp:p<n):at' n E p<(ords n E).length:=List.idxOf_lt_length_iff.2 ((mem_ords hE).2 ⟨fst_lt hp,fst_fst⟩)
theorem at_get (hE:InN n E) (hp:p<n):(ords n E)[at' n E p]'(at_lt hE hp)=fst E p:=List.getElem_idxOf (at_lt hE hp)
theorem at_iff (hE:InN n E) (hp:p<n) {k:Nat} (hk:k<(comps n E).length):p∈(comps n E)[k]↔k=at' n E p:=by
 have hk2:k<(ords n E).length:=by rwa [comps_len]at hk
 have ho:=(mem_ords hE).1 (List.getElem_mem hk2);rw[comps_get,mem_comp];constructor
 · rintro ⟨_,hm⟩
   have h1:(ords n E)[k]=(ords n E)[at' n E p]'(at_lt hE hp):=by
    rw[at_get hE hp,←ho.2];exact fst_eq hm
   exact nodup_inj (ords_nodup hE) h1
 · intro e;subst e;refine⟨hp,?_⟩;rw[at_get hE hp];exact fst_mut.symm
theorem at_edge (hE:InN n E) (e:(p,q)∈E):at' n E p≤at' n E q:=by
 obtain⟨hp,hq⟩:=hE _ e;exact ord_links n _ (Left.start hE) leasts_len _ _ (at_lt hE hp) (at_lt hE hq) p q e (at_get hE hp).symm (at_get hE hq).symm
variable {F F':List Nat}
end
end Ci
end
section
namespace Sh
open Nt Ci
noncomputable def unk (E:List (Nat×Nat)) (F:List Nat) (c:List Nat):List Nat:=c.filter fun p=>decide (0<rk E F p)
noncomputable def syst (n:Nat) (E:List (Nat×Nat)) (F:List Nat):List (List Nat):=(comps n E).map (unk E F)
theorem mem_unk {E:List (Nat×Nat)} {F c:List Nat} {p:Nat}:p∈unk E F c↔p∈c∧0<rk E F p:=by
 unfold unk;rw[List.mem_filter,decide_eq_true_iff]
theorem comps_nodup {n:Nat} {E:List (Nat×Nat)} {k:Nat} (hk:k<(comps n E).length):((comps n E)[k]).Nodup:=by
 rw[comps_get];exact comp_nodup
theorem syst_get {n:Nat} {E:List (Nat×Nat)} {F:List Nat} {k:Nat} (hk:k<(comps n E).length):(syst n E F)[k]'(by unfold syst;rw[List.length_map];exact hk)=unk E F (comps n E)[k]:=by
 unfold syst;rw[List.getElem_map]
theorem mem_flat_take {n:Nat} {E:List (Nat×Nat)} {F:List Nat} (hE:InN n E) {t p:Nat} (ht:t≤(comps n E).length):p∈((syst n E F).take t).flatten↔p<n∧0<rk E F p∧at' n E p<t:=by
 have hl:(syst n E F).length=(comps n E).length:=by unfold syst;rw[List.length_map]
 rw[List.mem_flatten];constructor
 · rintro ⟨u,hu,hp⟩;obtain⟨k,hk,rfl⟩:=List.getElem_of_mem hu;rw[List.length_take]at hk;have hk2:k<(comps n E).length:=by omega
   rw[List.getElem_take,syst_get hk2,mem_unk]at hp
   have hpn:p<n:=by
    rw[comps_get,mem_comp]at hp;exact hp.1.1
   have:=(at_iff hE hpn hk2).1 hp.1;exact⟨hpn,hp.2,by omega⟩
 · rintro ⟨h1,h2,h3⟩;have hk2:at' n E p<(comps n E).length:=by omega
   refine⟨(syst n E F)[at' n E p]'(by omega),?_,?_⟩
   · rw[List.mem_iff_getElem];exact⟨at' n E p,by rw[List.length_take];omega,by rw[List.getElem_take]⟩
   · rw[syst_get hk2,mem_unk];exact⟨(at_iff hE h1 hk2).2 rfl,h2⟩
theorem ready_drop {n:Nat} {L:List Lp} {F:List Nat} (hE:InN n (edgesL L)):∀(m t:Nat),t+m=(comps n (edgesL L)).length→Ready L F ((syst n (edgesL L) F).take t).flatten ((syst n (edgesL L) F).drop t):=by
 have hl:(syst n (edgesL L) F).length=(comps n (edgesL L)).length:=by unfold syst;rw[List.length_map]
 intro m
 induction m with
 | zero =>
   intro t ht;rw[List.drop_eq_nil_of_le (by omega)];trivial
 | succ m ih =>
   intro t ht;have ht2:t<(comps n (edgesL L)).length:=by omega
   have ht3:t<(syst n (edgesL L) F).length:=by omega
   rw[List.drop_eq_getElem_cons ht3];refine⟨?_,?_⟩
   · rw [syst_get ht2];refine⟨(comps_nodup ht2).filter _,fun p hp hd=>?_,fun p hp=>(mem_unk.1 hp).2,fun p hp x hx e=>?_⟩
     · have h1:=(mem_flat_take hE (by omega)).1 hd;have h2:=(at_iff hE h1.1 ht2).1 (mem_unk.1 hp).1;omega
     · by_cases c:rk (edgesL L) F x.2.1≤0
       · exact .inl c
       · have he:=edges_mem hx;rw[e]at he;have hpn:x.2.1<n∧p<n:=hE _ he;have h2:=(at_iff hE hpn.2 ht2).1 (mem_unk.1 hp).1;have h3:at' n (edgesL L) x.2.1≤at' n (edgesL L) p:=at_edge hE he
         by_cases c2:at' n (edgesL L) x.2.1=t
         · exact .inr (.inl (mem_unk.2 ⟨(at_iff hE hpn.1 ht2).2 c2.symm,by omega⟩))
         · exact .inr (.inr ((mem_flat_take hE (by omega)).2 ⟨hpn.1,by omega,by omega⟩))
   · have h1:=ih (t+1) (by omega);rw[List.take_add_one,List.getElem?_eq_getElem ht3,Option.toList_some,List.flatten_append,List.flatten_singleton]at h1;exact h1
theorem ready_all {n:Nat} {L:List Lp} {F:List Nat} (hE:InN n (edgesL L)):Ready L F [] (syst n (edgesL L) F):=by
 have:=ready_drop (F:=F) hE (comps n (edgesL L)).length 0 (by omega)
 simpa using this
theorem all_in {n:Nat} {L:List Lp} {F:List Nat} (hE:InN n (edgesL L)) {p:Nat} (hp:p<n) (hr:0<rk (edgesL L) F p):p∈(syst n (edgesL L) F).flatten:=by
 have hl:(syst n (edgesL L) F).length=(comps n (edgesL L)).length:=by unfold syst;rw[List.length_map]
 have h1:=(mem_flat_take (F:=F) hE (t:=(comps n (edgesL L)).length) (Nat.le_refl _)).2 ⟨hp,hr,by have:=at_lt hE hp;rw[comps_len];exact this⟩
 rwa [List.take_of_length_le (by omega)]at h1
theorem Ready.drop_nil {L:List Lp} {F:List Nat}:∀{us:List (List Nat)} {done:List Nat},Ready L F done us→Ready L F done (us.filter fun u=>decide (u≠[])):=by
 intro us
 induction us with
 | nil=>intro done _;trivial
 | cons u us ih =>
   intro done h;rw[List.filter_cons]
   by_cases e:u=[]
   · rw[if_neg (by simp[e])];have h2:=h.2;rw[e,List.append_nil]at h2;exact ih h2
   · rw[if_pos (by simp[e])];exact⟨h.1,ih h.2⟩
theorem flat_filter (us:List (List Nat)):(us.filter fun u=>decide (u≠[])).flatten=us.flatten:=by
 induction us with
 | nil=>rfl
 | cons u us ih =>
   rw[List.filter_cons]
   by_cases e:u=[]
   · rw[if_neg (by simp[e]),ih,e];rfl
   · rw[if_pos (by simp[e]),List.flatten_cons,List.flatten_cons,ih]
noncomputable def systs (n:Nat) (E:List (Nat×Nat)) (F:List Nat):List (List Nat):=(syst n E F).filter fun u=>decide (u≠[])
noncomputable def effV (S:Rat→Bool) (n:Nat) (L:List Lp) (F:List Nat):Nat→Rat:=runV S L (systs n (edgesL L) F) fun p=>if p∈F then 1 else 0
theorem Caps.inN {n:Nat} {L:List Lp} (hL:Caps n L):InN n (edgesL L):=fun y hy=>by
 obtain⟨x,hx,rfl⟩:=List.mem_map.1 hy;exact⟨(hL.lt x hx).2,(hL.lt x hx).1⟩
theorem effV_inv {n:Nat} {S:Rat→Bool} {L:List Lp} {F:List Nat} (hL:Caps n L) (hS:∀x,Fit (6000^34) x→S x=true) (hlen:(syst n (edgesL L) F).flatten.length≤16) :
 ∃D,D≤6000^16∧Inv L F (syst n (edgesL L) F).flatten (effV S n L F) D:=by
 have hr:=(ready_all (F:=F) hL.inN).drop_nil;obtain⟨D,hD⟩:=Inv.run hL hS _ [] _ 1 (Inv.start L F) hr (by rw[flat_filter];simpa using hlen);rw[flat_filter,List.nil_append]at hD;exact⟨D,Nat.le_trans hD.dle (Nat.pow_le_pow_right (by omega) hlen),hD⟩
theorem effV_eff {n:Nat} {S:Rat→Bool} {L:List Lp} {F:List Nat} (hL:Caps n L) (hS:∀x,Fit (6000^34) x→S x=true) (hlen:(syst n (edgesL L) F).flatten.length≤16):Eff n L F (effV S n L F):=by
 obtain⟨D,_,h⟩:=effV_inv hL hS hlen;exact h.eff hL fun p hp hr=>all_in hL.inN hp hr
end Sh
end
section
namespace Sh
open Nt Ci
def capL (l:List Lk):List Lp:=l.map fun x=>(x.1.toNat,x.2.1.toNat,vq (lkP x))
theorem units_valid {x:Rw} (h:unitsN x≠0):validB x.1 x.2.1 x.2.2=true∧x.1=false∧val x.2.1≤val x.2.2∧6000%val x.2.2=0∧unitsN x=val x.2.1*(6000/val x.2.2):=by
 unfold unitsN at h ⊢
 split at h
 · exact absurd rfl h
 · rename_i h1
   split at h
   · exact absurd rfl h
   · rename_i h2;rw[if_neg h1,if_neg h2];refine⟨?_,?_,by omega,by omega,rfl⟩
     · cases c:validB x.1 x.2.1 x.2.2 with
       | true=>rfl
       | false=>exact absurd (.inl c) h1
     · cases c:x.1 with
       | false=>rfl
       | true=>exact absurd (.inr (.inl c)) h1
theorem valid_den {g:Bool} {n d:ByteArray} (h:validB g n d=true):val d≠0:=by
 obtain⟨q,_,_,_,rfl⟩:=of_valid h
 show val (num q.den)≠0
 rw[val_num];exact q.den_nz
theorem units_rat {x:Rw} (h:unitsN x≠0):6000*vq x=(unitsN x:Rat):=by
 obtain⟨h1,h2,h3,h4,h5⟩:=units_valid h;have hd:=valid_den h1;obtain⟨g,n,d⟩:=x;simp only at h1 h2 h3 h4 h5 hd;subst h2;rw[h5];unfold vq
 show 6000*mkRat (sg false (val n)) (val d)=_
 have hk:val d*(6000/val d)=6000:=by have:=Nat.div_add_mod 6000 (val d);omega
 have hdr:(val d:Rat)≠0:=by
  intro e;exact hd (Rat.natCast_inj.1 (show ((val d:Nat):Rat)=((0:Nat):Rat) from e))
 have hk2:(val d:Rat)*((6000/val d:Nat):Rat)=6000:=by
  rw[←Rat.natCast_mul,hk];rfl
 rw[Rat.mkRat_eq_div];have e1:((sg false (val n):Int):Rat)=(val n:Rat):=by unfold sg;simp[Rat.intCast_natCast]
 rw[e1,Rat.natCast_mul];generalize (val d:Rat)=D at hdr hk2;generalize ((6000/val d:Nat):Rat)=K at hk2;generalize (val n:Rat)=N;rw[←hk2,Rat.div_def];have:=Rat.mul_inv_cancel D hdr;grind
theorem units_pos {x:Rw} (h:unitsN x≠0):0<vq x:=by
 have h1:=units_rat h;have h2:(0:Rat)<(unitsN x:Rat):=Rat.natCast_pos.2 (by omega);grind
theorem lsum_units {p:Nat}:∀{l:List Lk},(∀x,x∈l→0≤x.1∧unitsN (lkP x)≠0)→6000*lsum p (fun _=>1) (capL l)=(sumU l (p:Int):Rat):=by
 intro l
 induction l with
 | nil=>intro _;show 6000*0=((0:Nat):Rat);grind
 | cons x l ih =>
   intro h;obtain⟨h0,h1⟩:=h x List.mem_cons_self;have h2:=ih fun y hy=>h y (List.mem_cons_of_mem _ hy);have h3:=units_rat h1;unfold capL;rw[List.map_cons]
   show 6000*((if x.1.toNat=p then vq (lkP x)*1 else 0)+lsum p (fun _=>1) (capL l))=_
   unfold sumU at h2 ⊢;rw[List.filter_cons]
   by_cases e:x.1=(p:Int)
   · rw[if_pos (by omega),if_pos (by simpa using e),List.map_cons,List.sum_cons,Rat.natCast_add,←h2,←h3];grind
   · rw[if_neg (by omega),if_neg (by simpa using e),←h2];grind
theorem cap_own {s:SR} (h:soundB s=true) {x:Lk} (hx:x∈s.cap):(0≤x.1∧x.1<s.ps.length)∧(0≤x.2.1∧x.2.1<s.ps.length)∧unitsN (lkP x)≠0:=by
 unfold soundB at h;simp only[Bool.and_eq_true,decide_eq_true_eq]at h;obtain⟨i,hi,rfl⟩:=List.getElem_of_mem hx;obtain⟨⟨a1,a2,_,a4⟩,_,_⟩:=good_at h.2.2.1 hi;exact⟨a1,a2,a4⟩
theorem caps_of {s:SR} (h:soundB s=true):Caps s.ps.length (capL s.cap):=by
 refine⟨fun y hy=>?_,fun y hy=>?_,fun y hy=>?_,fun p=>?_⟩
 · obtain⟨x,hx,rfl⟩:=List.mem_map.1 hy;obtain⟨h1,h2,_⟩:=cap_own h hx;exact⟨by show x.1.toNat<_;omega,by show x.2.1.toNat<_;omega⟩
 · obtain⟨x,hx,rfl⟩:=List.mem_map.1 hy;exact⟨(unitsN (lkP x):Nat),by show 6000*vq (lkP x)=_;rw[units_rat (cap_own h hx).2.2,Rat.intCast_natCast]⟩
 · obtain⟨x,hx,rfl⟩:=List.mem_map.1 hy;exact units_pos (cap_own h hx).2.2
 · have h1:=lsum_units (p:=p) (l:=s.cap) fun x hx=>⟨(cap_own h hx).1.1,(cap_own h hx).2.2⟩
   have hg:goodB s.ps.length s.cap=true:=by
    unfold soundB at h;simp only[Bool.and_eq_true]at h;exact h.2.2.1
   have h2:=sumU_le (n:=s.ps.length) (l:=s.cap) s.cap.length (Nat.le_refl _) (fun i hi _=>good_at hg hi) (p:Int);rw[List.take_length]at h2;have h3:(sumU s.cap (p:Int):Rat)≤((6000:Nat):Rat):=Rat.natCast_le_natCast.2 h2;rw[←h1]at h3;have h4:((6000:Nat):Rat)=6000:=rfl;rw[h4]at h3;grind
theorem edges_cap (s:SR):edgesL (capL s.cap)=edges s:=by
 unfold edgesL capL edges;rw[List.map_map];rfl
theorem isI_den {x:Rat} {d:Nat} (hd:0<d) (h:IsI ((d:Rat)*x)):x.den∣d:=by
 obtain⟨z,hz⟩:=h
 have hdr:(d:Rat)≠0:=by
  have:(0:Rat)<(d:Rat):=Rat.natCast_pos.2 hd;grind
 have e:x=mkRat z d:=by
  rw[Rat.mkRat_eq_div,←hz,Rat.div_def];have:=Rat.mul_inv_cancel _ hdr;grind
 rw[e,Rat.den_mkRat,if_neg (by omega)];exact Nat.div_dvd_of_dvd (Nat.gcd_dvd_left _ _)
theorem abs_le {x:Rat} (h1:-1≤x) (h2:x≤1):x.num.natAbs≤x.den:=by
 have a:=(Rat.le_iff _ _).1 h1;have b:=(Rat.le_iff _ _).1 h2;have e1:(-1:Rat).num=-1:=rfl;have e2:(-1:Rat).den=1:=rfl;have e3:(1:Rat).num=1:=rfl;have e4:(1:Rat).den=1:=rfl;rw[e1,e2]at a;rw[e3,e4]at b;omega
theorem pow34:6000^34<L1:=by
 unfold L1;rw[mx1_eq];decide
theorem fit_short {x:Rat} {B:Nat} (h:Fit B x) (hB:B<L1):ShortQ x:=by
 obtain⟨a,b,d,d1,d2,d3⟩:=h;have h1:=Nat.le_of_dvd d1 (isI_den d1 d3);have h2:=abs_le a b;exact⟨by omega,by omega⟩
theorem SQ_fit:∀x,Fit (6000^34) x→SQ x=true:=fun _ h=>decide_eq_true (fit_short h pow34)
end Sh
end
end Go.Proofs.YtioidbebjgeahaaGreatDoor

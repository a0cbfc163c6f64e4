/- Texts that the proof needs: ShaEffP, ShaEReg, CirThru, CirPhase, CirLists, CirP, CirQueue, CirRepeat, CirList, CirRanks, CirParts, ShaEffQ, ShaProper. -/
import Derived.Deep.QuietTactic
import Derived.BigQuiet
import Derived.IntWalk
import Derived.ArgAppend
import Derived.Test.YtioidbebjgeahaaGreatDoorShelf
import Derived.Laws.CopyOwn
import Derived.Deep.RegionLaw
import Derived.Deep.LoopGhost
import Derived.WalkMore
import Derived.Test.YtioidbebjgeahaaGreatDoorKtA
import Derived.Test.YtioidbebjgeahaaGreatDoorKtB
import Derived.Test.YtioidbebjgeahaaGreatDoorKtC
import Derived.Test.YtioidbebjgeahaaGreatDoorKtD
import Derived.Test.YtioidbebjgeahaaGreatDoorKtE
import Derived.Test.YtioidbebjgeahaaGreatDoorKtF
import Derived.Test.YtioidbebjgeahaaGreatDoorKtG
set_option maxHeartbeats 32000000
set_option maxRecDepth 1000000
namespace Go.Proofs.YtioidbebjgeahaaGreatDoor
section
open Go.RowKit Go.Shelf
namespace Sh
open Nt Ci
structure VMC (w:World) (vb mb n:Nat) (val:Nat→Rat) (C:Nat):Prop where
 x:Bk w vb 68 [.map (some mb)]
 m:∃c f,MapK Tryz.prog 3 κi w mb c f∧c≤C∧∀p:Nat,p<n→match f (p:Int) with | some v=>v=qv (val p) | none=>val p=0
 ne:vb≠mb
section
variable {w w':World} {vb mb n C:Nat} {val:Nat→Rat}
theorem VMC.vm (h:VMC w vb mb n val C) (hC:C≤100000):VM w vb mb n val:=by
 obtain⟨c,f,h1,h2,h3⟩:=h.m;exact⟨h.x,c,f,h1,by omega,h3⟩
theorem VMC.lt (h:VMC w vb mb n val C):mb<w.heap.size:=by
 obtain⟨c,f,h1,_⟩:=h.m;exact h1.lt
theorem VMC.kp {xs:List Nat} (h:VMC w vb mb n val C) (hk:Kp xs w w') (h1:vb∉xs) (h2:mb∉xs):VMC w' vb mb n val C:=by
 obtain⟨c,f,a1,a2,a3⟩:=h.m;exact⟨h.x.kp hk h1,⟨c,f,a1.block (hk.block mb a1.lt h2),a2,a3⟩,h.ne⟩
theorem VMC.below (h:VMC w vb mb n val C) (hb:Below w.heap.size w w'):VMC w' vb mb n val C:=by
 obtain⟨c,f,a1,a2,a3⟩:=h.m;exact⟨h.x.below hb,⟨c,f,a1.below hb,a2,a3⟩,h.ne⟩
theorem VMC.congr {val':Nat→Rat} (h:VMC w vb mb n val C) (e:∀p,p<n→val' p=val p):VMC w vb mb n val' C:=by
 obtain⟨c,f,a1,a2,a3⟩:=h.m;exact⟨h.x,⟨c,f,a1,a2,fun p hp=>by rw[e p hp];exact a3 p hp⟩,h.ne⟩
theorem VMC.put (h:VMC w vb mb n val C) (hC:C<100000) {p:Nat} (hp:p<100000) (q:Rat) :
 ∃w',(Instr.mapUpdate 68 (.map (some mb)) (.int .i64 (p:Int)) (qv q)).run Tryz.prog w=.ok () w'∧VMC w' vb mb n (fun x=>if x=p then q else val x) (C+1)∧w.grownBy w' (some mb):=by
 obtain⟨c,f,a1,a2,a3⟩:=h.m;obtain⟨w',r1,r2,r3⟩:=a1.put κi_inj keyI Tryz.underlying68 (by unfold maxLen;omega) (key_i Tryz.underlying3 (a:=(p:Int)) (by omega) (by omega)) (qv q);refine⟨w',r1,⟨h.x.grown r3 (by simpa using h.ne),⟨_,_,r2,?_,fun x hx=>?_⟩,h.ne⟩,r3⟩
 · split<;>omega
 · by_cases e:x=p
   · subst e;rw[putF_same,if_pos rfl]
   · rw[putF_other (by omega),if_neg e];exact a3 x hx
end
theorem inInt_kp {w w':World} {xs:List Nat} {A:Option Addr} {l:List Int} (h:InInt w A l) (hk:Kp xs w w') (hb:∀b o,A=some ⟨b,o,none⟩→b∉xs):InInt w' A l:=fun h0=>by
 obtain⟨b,o,e,hl,hc⟩:=h h0;have hbl:=hk.block b hl (hb b o e);exact⟨b,o,e,Nat.lt_of_lt_of_le hl hk.size,fun j hj=>(World.cell?_of_block (a:=⟨b,o+j,none⟩) hbl).trans (hc j hj)⟩
structure EntB (W:World) (B xb:Nat) (A:Option Addr) (c:Nat) (u:List Nat):Prop where
 x:Bk W xb 74 [.slice A u.length c,.slice none 0 0,.slice none 0 0]
 o:W.ownsRow B 3 1 (.slice A u.length c) u.length (intsL u)
 nx:(Value.slice A u.length c).ownBlock≠some xb
section
variable {W W':World} {B xb c:Nat} {A:Option Addr} {u:List Nat}
theorem EntB.start (h:Bk W xb 74 [.slice none 0 0,.slice none 0 0,.slice none 0 0]):EntB W B xb none 0 [] :=
 ⟨h,World.ownsRow_nil _ _ _ _,by simp[Value.ownBlock]⟩
theorem EntB.below (h:EntB W B xb A c u) (hb:Below W.heap.size W W'):EntB W' B xb A c u:=⟨h.x.below hb,own_below' h.o hb,h.nx⟩
theorem EntB.inInt (h:EntB W B xb A c u):InInt W A (u.map fun(q:Nat)=>(q:Int)):=fun h0=>by
 rcases own_ints h.o with⟨e,e2⟩ | ⟨g,cap,e,h1,h2,_,h4⟩
 · rw[e2]at h0;simp at h0
 · injection e with e1 _ _;refine⟨g,0,e1,h2,fun j hj=>?_⟩;have hj':j<u.length:=by simpa using hj
   rw[List.getElem_map,Nat.zero_add];exact h4 j hj'
theorem EntB.blk (h:EntB W B xb A c u) (b o:Nat) (e:A=some ⟨b,o,none⟩):B≤b∧b<W.heap.size∧b≠xb:=by
 rcases own_ints h.o with⟨e1,_⟩ | ⟨g,cap,e1,h1,h2,_,_⟩
 · injection e1 with e1 _ _;rw[e]at e1;cases e1
 · injection e1 with e1 _ _;have hb:b=g:=by rw[e]at e1;injection e1 with e1;injection e1
   subst hb;have ho:o=0:=by rw[e]at e1;injection e1 with e1;injection e1
   subst ho;refine⟨h1,h2,fun hx=>h.nx ?_⟩;rw[e,←hx];rfl
theorem EntB.step (h:EntB W B xb A c u) {p:Nat} {v':Value} {w':World} (ho:w'.ownsRow B 3 1 v' (u.length+1) (intsL u++[.int .i64 (p:Int)])) (hg:W.grownBy w' (Value.slice A u.length c).ownBlock)
 (hn:v'.ownBlock=(Value.slice A u.length c).ownBlock∨v'.ownBlock=some W.heap.size):∃A' c',v'=.slice A' (u.length+1) c'∧EntB (w'.setCell ⟨xb,0,none⟩ v') B xb A' c' (u++[p])∧Bk w' xb 74 [.slice A u.length c,.slice none 0 0,.slice none 0 0]:=by
 obtain⟨A',c',rfl⟩:=Ci.own_form ho;have hx:=h.x.grown hg fun e=>h.nx e.symm
 have hnx:(Value.slice A' (u.length+1) c').ownBlock≠some xb:=fun e=>by
  rcases hn with c1 | c1
  · exact h.nx (c1▸e)
  · rw[c1]at e;cases e;exact absurd h.x.lt (Nat.lt_irrefl _)
 have hl:(u++[p]).length=u.length+1:=by simp
 refine⟨A',c',rfl,⟨?_,?_,?_⟩,hx⟩
 · rw[hl];exact hx.set 0 _
 · rw[hl,intsL_snoc];exact own_kpS ho ((Kp.refl [xb] w').set _ (.inl (by simp))) (fun b e hb=>hnx (by rw[e,List.mem_singleton.1 hb]))
 · rw[hl];exact hnx
end
structure Ent where
 x:Nat
 A:Option Addr
 c:Nat
 u:List Nat
def Ent.pt (e:Ent):Value:=.pointer (some ⟨e.x,0,none⟩)
structure SyM (W:World) (B:Nat) (v:Value) (E:List Ent):Prop where
 row:W.ownsRow B 71 1 v E.length (E.map Ent.pt)
 ent:∀e,e∈E→Bk W e.x 74 [.slice e.A e.u.length e.c,.slice none 0 0,.slice none 0 0]∧InInt W e.A (e.u.map fun(q:Nat)=>(q:Int))∧B≤e.x
 blk:∀e,e∈E→∀b o,e.A=some ⟨b,o,none⟩→B≤b∧b<W.heap.size∧∀f,f∈E→b≠f.x
 nd:(E.map Ent.x).Nodup
 rb:∀b,v.ownBlock=some b→∀e,e∈E→b≠e.x∧∀o,e.A≠some ⟨b,o,none⟩
section
variable {W W':World} {B:Nat} {v:Value} {E:List Ent}
theorem SyM.start (W:World) (B:Nat):SyM W B (.slice none 0 0) [] :=
 ⟨World.ownsRow_nil _ _ _ _,(fun e h=>by cases h),(fun e h=>by cases h),List.nodup_nil,fun b e=>by cases e⟩
theorem SyM.below (h:SyM W B v E) (hb:Below W.heap.size W W'):SyM W' B v E :=
 ⟨own_below' h.row hb,fun e he=>⟨(h.ent e he).1.below hb,(h.ent e he).2.1.below hb,(h.ent e he).2.2⟩,fun e he b o q=>by
   obtain⟨h1,h2,h3⟩:=h.blk e he b o q;exact⟨h1,Nat.lt_of_lt_of_le h2 hb.size,h3⟩,h.nd,h.rb⟩
theorem SyM.add {W2 W3:World} {v':Value} {e:Ent} (h:SyM W B v E) (hB:B≤W.heap.size) (hb:Below W.heap.size W W2) (hx:Bk W2 e.x 74 [.slice e.A e.u.length e.c,.slice none 0 0,.slice none 0 0]) (hi:InInt W2 e.A (e.u.map fun(q:Nat)=>(q:Int)))
 (hn:W.heap.size≤e.x) (hA:∀b o,e.A=some ⟨b,o,none⟩→W.heap.size≤b∧b<W2.heap.size∧b≠e.x)
 (ho:W3.ownsRow B 71 1 v' (E.length+1) (E.map Ent.pt++[e.pt])) (hg:W2.grownBy W3 v.ownBlock) (hv:v'.ownBlock=v.ownBlock∨∃b,v'.ownBlock=some b∧W2.heap.size≤b):SyM W3 B v' (E++[e]):=by
 have h2:=h.below hb;have rlt:∀b,v.ownBlock=some b→b<W.heap.size:=fun b q=>(h.row.lt b q).2;have xlt:∀f,f∈E→f.x<W.heap.size:=fun f hf=>(h.ent f hf).1.lt;have key:∀f,f∈E++[e]→f∈E∨f=e:=fun f hf=>by simpa using hf
 refine⟨by rw[List.length_append,List.map_append];exact ho,fun f hf=>?_,fun f hf b o q=>?_,?_,fun b q f hf=>?_⟩
 · rcases key f hf with c | rfl
   · obtain⟨e1,e2,e3⟩:=h2.ent f c;refine⟨e1.grown hg fun q=>(h.rb _ q.symm f c).1 rfl,fun h0=>?_,e3⟩;obtain⟨b,o,q,hl,hc⟩:=e2 h0;refine⟨b,o,q,Nat.lt_of_lt_of_le hl hg.size,fun j hj=>(World.cell?_of_block (a:=⟨b,o+j,none⟩) (hg.block b hl fun z=>?_)).trans (hc j hj)⟩;exact(h.rb b z.symm f c).2 o q
   · refine ⟨hx.grown hg fun q=>?_,fun h0=>?_,Nat.le_trans hB hn⟩
     · have:=rlt _ q.symm;omega
     · obtain⟨b,o,q,hl,hc⟩:=hi h0;refine⟨b,o,q,Nat.lt_of_lt_of_le hl hg.size,fun j hj=>(World.cell?_of_block (a:=⟨b,o+j,none⟩) (hg.block b hl fun z=>?_)).trans (hc j hj)⟩;have:=rlt _ z.symm;have:=(hA b o q).1;omega
 · rcases key f hf with c | rfl
   · obtain⟨e1,e2,e3⟩:=h.blk f c b o q;refine⟨e1,Nat.lt_of_lt_of_le e2 (Nat.le_trans hb.size hg.size),fun g hgm=>?_⟩
     rcases key g hgm with d | rfl
     · exact e3 g d
     · omega
   · obtain⟨e1,e2,e3⟩:=hA b o q;refine⟨by omega,Nat.lt_of_lt_of_le e2 hg.size,fun g hgm=>?_⟩
     rcases key g hgm with d | rfl
     · have:=xlt g d;omega
     · exact e3
 · rw[List.map_append,List.map_singleton];refine List.nodup_append.2 ⟨h.nd,by simp,fun a ha b hb2=>?_⟩;obtain⟨f,hf,rfl⟩:=List.mem_map.1 ha;rw[List.mem_singleton.1 hb2];have:=xlt f hf;omega
 · have hbk:v.ownBlock=some b∨W2.heap.size≤b:=by
    rcases hv with c | ⟨b2,c,d⟩
    · exact .inl (c▸q)
    · rw[c]at q;cases q;exact .inr d
   have hex:e.x<W2.heap.size:=hx.lt;have hws:=hb.size
   rcases key f hf with c | rfl
   · rcases hbk with d | d
     · exact h.rb b d f c
     · refine⟨by have:=xlt f c;omega,fun o z=>?_⟩;have:=(h.blk f c b o z).2.1;omega
   · rcases hbk with d | d
     · have hlb:=rlt b d;refine⟨by omega,fun o z=>?_⟩;have:=(hA b o z).1;omega
     · refine⟨by omega,fun o z=>?_⟩;have:=(hA b o z).2.1;omega
end
end Sh
end
section
open Go.RowKit Go.Shelf
namespace Sh
open Nt Ci
theorem shnum_qv (k:Int) (q:Rat) (hq:(k:Rat)=q) (hk:-10≤k∧k≤10) (w:World) (hE:Env w) :
 Calls Tryz.prog 46 #[.int .i64 k] w fun e w'=>e=.returned (.agg #[.bool (rq q).1,.string (rq q).2.1,.string (rq q).2.2])∧Below w.heap.size w w':=shnum_rq k q hq hk w hE
theorem put_run {w:World} {vb mb n C:Nat} {val:Nat→Rat} (h:VMC w vb mb n val C) (hC:C<100000) {p:Nat} (hp:p<100000) (q:Rat) :
 ∃w',(Instr.mapUpdate 68 (.map (some mb)) (.int .i64 (p:Int)) (.agg #[.bool (rq q).1,.string (rq q).2.1,.string (rq q).2.2])).run Tryz.prog w=.ok () w'∧VMC w' vb mb n (fun x=>if x=p then q else val x) (C+1)∧w.grownBy w' (some mb):=h.put hC hp q
noncomputable def efR (j:Nat):Code:=((Tryz.f17.body.map Ci.regsOf).bind fun l=>l.find? (isRegS j)).getD .skip
theorem ef9 {c0 c1 c2 c3 c4 c5 c6 c7 c8 c9 c11 c13 c14 c15 c16 c17 c18 c19 c20 c21 c22 c23 c24 c25 c26 c27 c28 c29 c30 c31 c32 c33 c34 c35 c36 c37 c38 c39 c40 c41 c42 c43 c44 c45 c46 c47 c48 c49 c50 c51 c52 c53 c54 c55 c56 c57 c61 c62 c63 c64 c65 c66 c67 c68 c69 c70 c71 c72 c73 c74 c75 c76 c77 c78 c79 c80 c81 c82 c83 c84 c85 c86 c87 c88 c89 c90 c91 c92 c93 c94 c95 c96 c97 c98 c99 c100 c101 c102 c103 c104 c105 c106 c107 c108 c109 c110 c111 c112 c113 c114 c115 c116 c117 c118 c119 c120 c121 c122 c123 c124 c125 c126 c127 c128 c129 c130 c131 c132 c133 c134 c135 c136 c137 c138 c139 c140 c141 c142 c143 c144 c145 c146 c147 c148 c149 c150 c151 c152 c153 c154 c155 c156 c157 c158 c159 c160 c161 c162 c163 c164 c165 c166 c167 c168 c169 c170 c171 c172 c173 c174 c175 c176 c177 a58 a59 a60:Value} {Q:Exit→Act→World→Prop} (vb mb n C p:Nat) (val:Nat→Rat) (w:World) (hE:Env w) (hV:VMC w vb mb n val C) (hC:C<100000) (hp:p<100000)
 (h:∀(u58 u59 u60:Value) (W:World) (_:Hid (VMC W vb mb n (fun x=>if x=p then 1 else val x) (C+1))) (_:Hid (Kp [mb] w W)),Q .normal ⟨#[c0,c1,c2,c3,c4,c5,c6,c7,c8,c9,.pointer (some ⟨vb,0,none⟩),c11,.int .i64 (p:Int),c13,c14,c15,c16,c17,c18,c19,c20,c21,c22,c23,c24,c25,c26,c27,c28,c29,c30,c31,c32,c33,c34,c35,c36,c37,c38,c39,c40,c41,c42,c43,c44,c45,c46,c47,c48,c49,c50,c51,c52,c53,c54,c55,c56,c57,u58,u59,u60,c61,c62,c63,c64,c65,c66,c67,c68,c69,c70,c71,c72,c73,c74,c75,c76,c77,c78,c79,c80,c81,c82,c83,c84,c85,c86,c87,c88,c89,c90,c91,c92,c93,c94,c95,c96,c97,c98,c99,c100,c101,c102,c103,c104,c105,c106,c107,c108,c109,c110,c111,c112,c113,c114,c115,c116,c117,c118,c119,c120,c121,c122,c123,c124,c125,c126,c127,c128,c129,c130,c131,c132,c133,c134,c135,c136,c137,c138,c139,c140,c141,c142,c143,c144,c145,c146,c147,c148,c149,c150,c151,c152,c153,c154,c155,c156,c157,c158,c159,c160,c161,c162,c163,c164,c165,c166,c167,c168,c169,c170,c171,c172,c173,c174,c175,c176,c177],[]⟩ W) :
 Code.wp Tryz.prog (efR 9) Q ⟨#[c0,c1,c2,c3,c4,c5,c6,c7,c8,c9,.pointer (some ⟨vb,0,none⟩),c11,.int .i64 (p:Int),c13,c14,c15,c16,c17,c18,c19,c20,c21,c22,c23,c24,c25,c26,c27,c28,c29,c30,c31,c32,c33,c34,c35,c36,c37,c38,c39,c40,c41,c42,c43,c44,c45,c46,c47,c48,c49,c50,c51,c52,c53,c54,c55,c56,c57,a58,a59,a60,c61,c62,c63,c64,c65,c66,c67,c68,c69,c70,c71,c72,c73,c74,c75,c76,c77,c78,c79,c80,c81,c82,c83,c84,c85,c86,c87,c88,c89,c90,c91,c92,c93,c94,c95,c96,c97,c98,c99,c100,c101,c102,c103,c104,c105,c106,c107,c108,c109,c110,c111,c112,c113,c114,c115,c116,c117,c118,c119,c120,c121,c122,c123,c124,c125,c126,c127,c128,c129,c130,c131,c132,c133,c134,c135,c136,c137,c138,c139,c140,c141,c142,c143,c144,c145,c146,c147,c148,c149,c150,c151,c152,c153,c154,c155,c156,c157,c158,c159,c160,c161,c162,c163,c164,c165,c166,c167,c168,c169,c170,c171,c172,c173,c174,c175,c176,c177],[]⟩ w:=by
 conv=>arg 2;whnf
 conv=>arg 4;zeta
 replace h:=Lib.hid h;have hB1:Hid (Below w.heap.size w w.drew):=(Below.refl _ w).drew;have kn:=Lib.hid (fun W hW=>shnum_qv 1 1 (by decide +kernel) (by omega) W hW);have hx1:Hid (w.drew.cell? ⟨vb,0,none⟩=some (.map (some mb))):=(hV.below (Below.refl _ w).drew).x.cell (j:=0) rfl;replace hE:=Lib.hid hE;replace hV:=Lib.hid hV;refine wp_region_noPanic ?_;refine wp_region_held_drew (S:=fun W=>W.cell? ⟨vb,0,none⟩=some (.map (some mb))) (by kernel_rfl) (hx1.out) (fun hS0=>?_);replace hS0:=Lib.hid hS0;refine wpAnyH_take (i:=0) (oi:=_) (v:=?_) rfl (by kernel_rfl) (by kernel_rfl) (by kernel_rfl) (fun _ _ _ h=>h) (Or.inl ⟨by rfl,?_⟩) (hS0.out) ?_;rotate_left
 · (intro w hSw;obtain q1:=hSw;go_simp<;>with_reducible rfl)
 try simp only[Act.put,List.setIfInBounds_toArray]
 refine wpAnyH_take (i:=1) (oi:=_) (v:=?_) rfl (by kernel_rfl) (by kernel_rfl) (by kernel_rfl) (fun _ _ _ h=>h) (Or.inl ⟨by rfl,?_⟩) (hS0.out) ?_;rotate_left
 · (intro w hSw;obtain q1:=hSw;go_simp<;>with_reducible rfl)
 try simp only[Act.put]
 refine wpAnyH_ready (rs:=[2]) (by kernel_rfl) (by simp) ?_;refine AllReadyH.cons (o:=_) rfl (fun K hK=>?_) ?_
 · go_simp;refine(kn.out _ (hE.out.below hB1.out)).mono ?_;rintro e W2 ⟨rfl,hb⟩;have hB2:Hid (Below w.heap.size w W2):=hB1.out.trans (hb.mono hB1.out.size);have hV2:Hid (VMC W2 vb mb n val C):=hV.out.below hB2.out;clear hb;refine hK.out _ _ (hV2.out.x.cell (j:=0) rfl) (fun _=>?_);clear hK K
   try simp only[Act.put,List.setIfInBounds_toArray,List.set_cons_zero,List.set_cons_succ]
   obtain⟨W3,hrun,hV3,hg⟩:=put_run hV2.out hC hp 1;have hK3:Hid (Kp [mb] w W3):=((Kp.refl [mb] w).below hB2.out).grown hg (fun b e=>.inl (by cases e;simp));replace hV3:=Lib.hid hV3;clear hg;refine wpAnyH_ready (rs:=[3]) (by kernel_rfl) (by simp) ?_;refine AllReadyH.cons (o:=_) rfl (fun K hK=>?_) ?_
   · go_simp;refine hK.out _ _ (hV3.out.x.cell (j:=0) rfl) (fun _=>?_);clear hK K
     try simp only[Act.put,List.setIfInBounds_toArray,List.set_cons_zero,List.set_cons_succ]
     refine wpAnyH_done (by kernel_rfl) ?_ _;refine NoPanic.normal ?_;exact h.out _ _ _ _ hV3 hK3
   exact AllReadyH.nil
 exact AllReadyH.nil
theorem ef40 {c0 c1 c2 c3 c4 c5 c6 c7 c8 c9 c11 c12 c13 c14 c15 c16 c17 c18 c19 c20 c21 c23 c24 c27 c28 c29 c30 c31 c32 c33 c34 c35 c36 c37 c38 c39 c40 c41 c42 c43 c44 c45 c46 c47 c48 c49 c50 c51 c52 c53 c54 c55 c56 c57 c58 c59 c60 c61 c62 c63 c64 c65 c66 c67 c68 c69 c70 c71 c72 c73 c74 c75 c76 c77 c78 c79 c80 c81 c82 c83 c84 c85 c86 c87 c88 c89 c90 c91 c92 c93 c94 c95 c96 c97 c98 c99 c100 c101 c102 c103 c104 c105 c106 c107 c108 c109 c110 c111 c112 c113 c114 c115 c116 c117 c118 c119 c120 c121 c122 c123 c124 c125 c126 c127 c128 c129 c130 c131 c132 c133 c134 c135 c136 c137 c138 c139 c140 c141 c142 c143 c144 c145 c146 c147 c148 c149 c159 c160 c161 c162 c163 c164 c165 c166 c167 c168 c169 c170 c171 c172 c173 c174 c175 c176 c177 a150 a151 a152 a153 a154 a155 a156 a157 a158:Value} {Q:Exit→Act→World→Prop} (vb mb n C p xb ub uo m cu i lb:Nat) (q:Rat) (val:Nat→Rat) (w:World) (hV:VMC w vb mb n val C) (hC:C<100000) (hp:p<100000) (hi:i<m) (hx:w.cell? ⟨xb,0,none⟩=some (.slice (some ⟨ub,uo,none⟩) m cu)) (hxl:xb<w.heap.size) (hu:w.cell? ⟨ub,uo+i,none⟩=some (.int .i64 (p:Int))) (hul:ub<w.heap.size) (hl:Bk w lb 37 [.bool (rq q).1,.string (rq q).2.1,.string (rq q).2.2]) (n1:xb≠mb) (n2:ub≠mb) (n3:lb≠mb)
 (h:∀(u150 u151 u152 u153 u154 u155 u156 u157 u158:Value) (W:World) (_:Hid (VMC W vb mb n (fun x=>if x=p then q else val x) (C+1))) (_:Hid (Kp [mb] w W)),Q .normal ⟨#[c0,c1,c2,c3,c4,c5,c6,c7,c8,c9,.pointer (some ⟨vb,0,none⟩),c11,c12,c13,c14,c15,c16,c17,c18,c19,c20,c21,.pointer (some ⟨xb,0,none⟩),c23,c24,.int .i64 (i:Int),.pointer (some ⟨lb,0,none⟩),c27,c28,c29,c30,c31,c32,c33,c34,c35,c36,c37,c38,c39,c40,c41,c42,c43,c44,c45,c46,c47,c48,c49,c50,c51,c52,c53,c54,c55,c56,c57,c58,c59,c60,c61,c62,c63,c64,c65,c66,c67,c68,c69,c70,c71,c72,c73,c74,c75,c76,c77,c78,c79,c80,c81,c82,c83,c84,c85,c86,c87,c88,c89,c90,c91,c92,c93,c94,c95,c96,c97,c98,c99,c100,c101,c102,c103,c104,c105,c106,c107,c108,c109,c110,c111,c112,c113,c114,c115,c116,c117,c118,c119,c120,c121,c122,c123,c124,c125,c126,c127,c128,c129,c130,c131,c132,c133,c134,c135,c136,c137,c138,c139,c140,c141,c142,c143,c144,c145,c146,c147,c148,c149,u150,u151,u152,u153,u154,u155,u156,u157,u158,c159,c160,c161,c162,c163,c164,c165,c166,c167,c168,c169,c170,c171,c172,c173,c174,c175,c176,c177],[]⟩ W) :
 Code.wp Tryz.prog (efR 40) Q ⟨#[c0,c1,c2,c3,c4,c5,c6,c7,c8,c9,.pointer (some ⟨vb,0,none⟩),c11,c12,c13,c14,c15,c16,c17,c18,c19,c20,c21,.pointer (some ⟨xb,0,none⟩),c23,c24,.int .i64 (i:Int),.pointer (some ⟨lb,0,none⟩),c27,c28,c29,c30,c31,c32,c33,c34,c35,c36,c37,c38,c39,c40,c41,c42,c43,c44,c45,c46,c47,c48,c49,c50,c51,c52,c53,c54,c55,c56,c57,c58,c59,c60,c61,c62,c63,c64,c65,c66,c67,c68,c69,c70,c71,c72,c73,c74,c75,c76,c77,c78,c79,c80,c81,c82,c83,c84,c85,c86,c87,c88,c89,c90,c91,c92,c93,c94,c95,c96,c97,c98,c99,c100,c101,c102,c103,c104,c105,c106,c107,c108,c109,c110,c111,c112,c113,c114,c115,c116,c117,c118,c119,c120,c121,c122,c123,c124,c125,c126,c127,c128,c129,c130,c131,c132,c133,c134,c135,c136,c137,c138,c139,c140,c141,c142,c143,c144,c145,c146,c147,c148,c149,a150,a151,a152,a153,a154,a155,a156,a157,a158,c159,c160,c161,c162,c163,c164,c165,c166,c167,c168,c169,c170,c171,c172,c173,c174,c175,c176,c177],[]⟩ w:=by
 conv=>arg 2;whnf
 conv=>arg 4;zeta
 replace h:=Lib.hid h;have hS1:Hid (w.drew.cell? ⟨vb,0,none⟩=some (.map (some mb))∧w.drew.cell? ⟨xb,0,none⟩=some (.slice (some ⟨ub,uo,none⟩) m cu)∧w.drew.cell? ⟨ub,uo+i,none⟩=some (.int .i64 (p:Int))∧w.drew.cell? ⟨lb,0,none⟩=some (.bool (rq q).1)∧w.drew.cell? ⟨lb,1,none⟩=some (.string (rq q).2.1)∧w.drew.cell? ⟨lb,2,none⟩=some (.string (rq q).2.2)):=⟨hV.x.cell (j:=0) rfl,hx,hu,hl.cell (j:=0) rfl,hl.cell (j:=1) rfl,hl.cell (j:=2) rfl⟩;have j0:(0:Int)≤(i:Int):=by omega
 have j1:(i:Int)<(m:Int):=by omega
 obtain⟨W3,hrun,hV3,hg⟩:=put_run (w:=w.drew) (hV.below (Below.refl _ w).drew) hC hp q;have hK3:Hid (Kp [mb] w W3):=((Kp.refl [mb] w).drew).grown hg (fun b e=>.inl (by cases e;simp));have hS3:Hid (W3.cell? ⟨vb,0,none⟩=some (.map (some mb))∧W3.cell? ⟨xb,0,none⟩=some (.slice (some ⟨ub,uo,none⟩) m cu)∧W3.cell? ⟨ub,uo+i,none⟩=some (.int .i64 (p:Int))∧W3.cell? ⟨lb,0,none⟩=some (.bool (rq q).1)∧W3.cell? ⟨lb,1,none⟩=some (.string (rq q).2.1)∧W3.cell? ⟨lb,2,none⟩=some (.string (rq q).2.2)):=⟨hV3.x.cell (j:=0) rfl,(World.cell?_of_block (a:=⟨xb,0,none⟩) (hK3.out.block xb hxl (by simpa using n1))).trans hx,(World.cell?_of_block (a:=⟨ub,uo+i,none⟩) (hK3.out.block ub hul (by simpa using n2))).trans hu,(hl.kp hK3.out (by simpa using n3)).cell (j:=0) rfl,(hl.kp hK3.out (by simpa using n3)).cell (j:=1) rfl,(hl.kp hK3.out (by simpa using n3)).cell (j:=2) rfl⟩;have xl1:xb<w.drew.heap.size:=hxl;have ul1:ub<w.drew.heap.size:=hul;have ll1:lb<w.drew.heap.size:=hl.lt;replace hV:=Lib.hid hV;replace hl:=Lib.hid hl;replace hV3:=Lib.hid hV3;replace hx:=Lib.hid hx;replace hu:=Lib.hid hu;clear hg;refine wp_region_noPanic ?_;refine wp_region_held_drew (S:=fun W=>W.cell? ⟨vb,0,none⟩=some (.map (some mb))∧W.cell? ⟨xb,0,none⟩=some (.slice (some ⟨ub,uo,none⟩) m cu)∧W.cell? ⟨ub,uo+i,none⟩=some (.int .i64 (p:Int))∧W.cell? ⟨lb,0,none⟩=some (.bool (rq q).1)∧W.cell? ⟨lb,1,none⟩=some (.string (rq q).2.1)∧W.cell? ⟨lb,2,none⟩=some (.string (rq q).2.2)) (by kernel_rfl) (hS1.out) (fun hS0=>?_);replace hS0:=Lib.hid hS0;refine wpAnyH_take (i:=0) (oi:=_) (v:=?_) rfl (by kernel_rfl) (by kernel_rfl) (by kernel_rfl) (fun _ _ _ h=>h) (Or.inl ⟨by rfl,?_⟩) (hS0.out) ?_;rotate_left
 · (intro w hSw;obtain⟨q1,q2,q3,q4,q5,q6⟩:=hSw;go_simp<;>with_reducible rfl)
 try simp only[Act.put,List.setIfInBounds_toArray]
 refine wpAnyH_take (i:=1) (oi:=_) (v:=?_) rfl (by kernel_rfl) (by kernel_rfl) (by kernel_rfl) (fun _ _ _ h=>h) (Or.inl ⟨by rfl,?_⟩) (hS0.out) ?_;rotate_left
 · (intro w hSw;obtain⟨q1,q2,q3,q4,q5,q6⟩:=hSw;go_simp<;>with_reducible rfl)
 try simp only[Act.put]
 refine wpAnyH_take (i:=2) (oi:=_) (v:=?_) rfl (by kernel_rfl) (by kernel_rfl) (by kernel_rfl) (fun _ _ _ h=>h) (Or.inl ⟨by rfl,?_⟩) (hS0.out) ?_;rotate_left
 · (intro w hSw;obtain⟨q1,q2,q3,q4,q5,q6⟩:=hSw;go_simp<;>with_reducible rfl)
 try simp only[Act.put]
 refine wpAnyH_take (i:=3) (oi:=_) (v:=?_) rfl (by kernel_rfl) (by kernel_rfl) (by kernel_rfl) (fun _ _ _ h=>h) (Or.inl ⟨by rfl,?_⟩) (hS0.out) ?_;rotate_left
 · (intro w hSw;obtain⟨q1,q2,q3,q4,q5,q6⟩:=hSw;go_simp<;>with_reducible rfl)
 try simp only[Act.put]
 refine wpAnyH_take (i:=4) (oi:=_) (v:=?_) rfl (by kernel_rfl) (by kernel_rfl) (by kernel_rfl) (fun _ _ _ h=>h) (Or.inl ⟨by rfl,?_⟩) (hS0.out) ?_;rotate_left
 · (intro w hSw;obtain⟨q1,q2,q3,q4,q5,q6⟩:=hSw;go_simp<;>with_reducible rfl)
 try simp only[Act.put]
 refine wpAnyH_take (i:=5) (oi:=_) (v:=?_) rfl (by kernel_rfl) (by kernel_rfl) (by kernel_rfl) (fun _ _ _ h=>h) (Or.inl ⟨by rfl,?_⟩) (hS0.out) ?_;rotate_left
 · (intro w hSw;obtain⟨q1,q2,q3,q4,q5,q6⟩:=hSw;go_simp<;>with_reducible rfl)
 try simp only[Act.put]
 refine wpAnyH_take (i:=6) (oi:=_) (v:=?_) rfl (by kernel_rfl) (by kernel_rfl) (by kernel_rfl) (fun _ _ _ h=>h) (Or.inl ⟨by rfl,?_⟩) (hS0.out) ?_;rotate_left
 · (intro w hSw;obtain⟨q1,q2,q3,q4,q5,q6⟩:=hSw;go_simp<;>with_reducible rfl)
 try simp only[Act.put]
 refine wpAnyH_take (i:=7) (oi:=_) (v:=?_) rfl (by kernel_rfl) (by kernel_rfl) (by kernel_rfl) (fun _ _ _ h=>h) (Or.inl ⟨by rfl,?_⟩) (hS0.out) ?_;rotate_left
 · (intro w hSw;obtain⟨q1,q2,q3,q4,q5,q6⟩:=hSw;go_simp<;>with_reducible rfl)
 try simp only[Act.put]
 refine wpAnyH_take (i:=8) (oi:=_) (v:=?_) rfl (by kernel_rfl) (by kernel_rfl) (by kernel_rfl) (fun _ _ _ h=>h) (Or.inl ⟨by rfl,?_⟩) (hS0.out) ?_;rotate_left
 · (intro w hSw;obtain⟨q1,q2,q3,q4,q5,q6⟩:=hSw;go_simp<;>with_reducible rfl)
 try simp only[Act.put]
 refine wpAnyH_ready (rs:=[9]) (by kernel_rfl) (by simp) ?_;refine AllReadyH.cons (o:=_) rfl (fun K hK=>?_) ?_
 · go_simp;refine hK.out _ _ (hS3.out) (fun _=>?_);clear hK K
   try simp only[Act.put,List.setIfInBounds_toArray,List.set_cons_zero,List.set_cons_succ]
   refine wpAnyH_done (by kernel_rfl) ?_ _;refine NoPanic.normal ?_;exact h.out _ _ _ _ _ _ _ _ _ _ hV3 hK3
 exact AllReadyH.nil
end Sh
end
section
namespace Ci
def Thru (E:List (Nat×Nat)):Nat→Nat→Nat→Prop
 | 0,i,j=>i=j∨(i,j)∈E
 | k+1,i,j=>Thru E k i j∨(Thru E k i k∧Thru E k k j)
section
variable {E:List (Nat×Nat)} {n i j k m:Nat}
theorem thru_refl:∀k,Thru E k i i
 | 0=>.inl rfl
 | k+1=>.inl (thru_refl k)
theorem thru_in:Thru E (k+1) i k↔Thru E k i k:=⟨fun h=>h.elim id fun h=>h.1,.inl⟩
theorem thru_out:Thru E (k+1) k j↔Thru E k k j:=⟨fun h=>h.elim id fun h=>h.2,.inl⟩
theorem thru_trans:∀k m i j,m<k→Thru E k i m→Thru E k m j→Thru E k i j:=by
 intro k
 induction k with
 | zero=>intro m i j h;omega
 | succ k ih =>
   intro m i j hm h1 h2
   by_cases e:m=k
   · subst e;exact .inr ⟨thru_in.1 h1,thru_out.1 h2⟩
   · have hmk:m<k:=by omega
     rcases h1 with h1 | ⟨h1,h3⟩
     · rcases h2 with h2 | ⟨h2,h4⟩
       · exact .inl (ih m i j hmk h1 h2)
       · exact .inr ⟨ih m i k hmk h1 h2,h4⟩
     · rcases h2 with h2 | ⟨_,h4⟩
       · exact .inr ⟨h1,ih m k j hmk h3 h2⟩
       · exact .inr ⟨h1,h4⟩
theorem thru_reach:∀k i j,Thru E k i j→Reach E i j:=by
 intro k
 induction k with
 | zero =>
   rintro i j (rfl | h)
   · exact .refl _
   · exact .one h
 | succ k ih =>
   rintro i j (h | ⟨h1,h2⟩)
   · exact ih i j h
   · exact(ih i k h1).trans (ih k j h2)
theorem thru_mono (h:Thru E 0 i j):∀k,Thru E k i j
 | 0=>h
 | k+1=>.inl (thru_mono h k)
theorem thru_all (hE:InN n E):Thru E n i j↔Reach E i j:=by
 constructor
 · exact thru_reach n i j
 · intro h;refine h.closed (C:=fun x=>Thru E n i x) (thru_refl n) fun a b ha e=>?_;exact thru_trans n a i b (hE _ e).1 ha (thru_mono (.inr e) n)
def Tab (E:List (Nat×Nat)) (n k i j:Nat) (T:Nat→Nat→Prop):Prop :=
 ∀a b,a<n→b<n→(T a b↔if a<i∨(a=i∧b<j) then Thru E (k+1) a b else Thru E k a b)
theorem Tab.row {T:Nat→Nat→Prop} (h:Tab E n k i j T) (hk:k<n) {a:Nat} (ha:a<n):T a k↔Thru E k a k:=by
 rw[h a k ha hk]
 split
 · exact thru_in
 · exact Iff.rfl
theorem Tab.col {T:Nat→Nat→Prop} (h:Tab E n k i j T) (hk:k<n) {b:Nat} (hb:b<n):T k b↔Thru E k k b:=by
 rw[h k b hk hb]
 split
 · exact thru_out
 · exact Iff.rfl
theorem Tab.step {T T':Nat→Nat→Prop} (h:Tab E n k i j T) (hk:k<n) (hi:i<n) (hj:j<n) (hT:∀a b,T' a b↔T a b∨(a=i∧b=j∧T i k∧T k j)):Tab E n k i (j+1) T':=by
 intro a b ha hb;rw[hT]
 by_cases e:a=i∧b=j
 · obtain⟨rfl,rfl⟩:=e;rw[if_pos (by omega),h.row hk ha,h.col hk hb,h a b ha hb,if_neg (by omega)];exact⟨fun c=>c.elim .inl fun c=>.inr c.2.2,fun c=>c.elim .inl fun c=>.inr ⟨rfl,rfl,c⟩⟩
 · rw [h a b ha hb];have e2:¬(a=i∧b=j∧T i k∧T k j):=fun c=>e ⟨c.1,c.2.1⟩
   by_cases c:a<i∨(a=i∧b<j)
   · rw[if_pos c,if_pos (by omega)];exact⟨fun x=>x.elim id fun y=>absurd y e2,.inl⟩
   · rw[if_neg c,if_neg (by omega)];exact⟨fun x=>x.elim id fun y=>absurd y e2,.inl⟩
theorem Tab.next {T:Nat→Nat→Prop} (h:Tab E n k i n T):Tab E n k (i+1) 0 T:=by
 intro a b ha hb;rw[h a b ha hb]
 by_cases c:a<i∨(a=i∧b<n)
 · rw[if_pos c,if_pos (by omega)]
 · rw[if_neg c,if_neg (by omega)]
theorem Tab.round {T:Nat→Nat→Prop} (h:Tab E n k n 0 T):Tab E n (k+1) 0 0 T:=by
 intro a b ha hb;rw[h a b ha hb,if_pos (.inl ha),if_neg (by omega)]
theorem Tab.end {T:Nat→Nat→Prop} (h:Tab E n n 0 0 T) (hE:InN n E) {a b:Nat} (ha:a<n) (hb:b<n):T a b↔Reach E a b:=by
 rw[h a b ha hb,if_neg (by omega)];exact thru_all hE
end
end Ci
end
section
namespace Ci
open Classical
section
variable {E:List (Nat×Nat)} {n p q x:Nat}
def revE (E:List (Nat×Nat)):List (Nat×Nat):=E.map fun e=>(e.2,e.1)
theorem mem_revE:(p,q)∈revE E↔(q,p)∈E:=by
 unfold revE;rw[List.mem_map];constructor
 · rintro⟨⟨a,b⟩,h,e⟩;simp only[Prod.mk.injEq]at e;rw[←e.1,←e.2];exact h
 · exact fun h=>⟨(q,p),h,rfl⟩
theorem revE_in (h:InN n E):InN n (revE E):=fun x hx=>by
 obtain⟨a,b⟩:=x;have:=h _ (mem_revE.1 hx);exact⟨this.2,this.1⟩
theorem reach_turn (h:Reach E p q):Reach (revE E) q p :=
 h.closed (C:=fun x=>Reach (revE E) x p) (.refl p) fun _ _ ha e=>(Reach.one (mem_revE.2 e)).trans ha
theorem reach_rev:Reach (revE E) p q↔Reach E q p:=⟨fun h=>h.closed (C:=fun x=>Reach E x p) (.refl p) fun _ _ ha e=>(Reach.one (mem_revE.1 e)).trans ha,reach_turn⟩
def PL (E:List (Nat×Nat)) (p q x:Nat):Prop:=fst E x<p∨(Mut E p x∧x<q)
noncomputable def lsO (E:List (Nat×Nat)) (n p x:Nat):List Nat:=if x<p∧fst E x=x then comp n E x else []
noncomputable def part (E:List (Nat×Nat)) (p q:Nat):List Nat:=(List.range q).filter fun y=>decide (Mut E p y)
noncomputable def lsQ (E:List (Nat×Nat)) (n p q x:Nat):List Nat:=if x=p then part E p q else lsO E n p x
noncomputable def cO (E:List (Nat×Nat)) (p:Nat):Nat:=((List.range p).filter fun y=>decide (fst E y=y)).length
noncomputable def cQ (E:List (Nat×Nat)) (p q:Nat):Nat:=if part E p q=[] then cO E p else cO E p+1
theorem comp_ne (hp:p<n):comp n E p≠[]:=fun h=>by
 have:=mem_comp.2 ⟨hp,Mut.refl (E:=E) p⟩;rw[h]at this
 cases this
theorem part_zero:part E p 0=[]:=rfl
theorem part_succ:part E p (q+1)=if Mut E p q then part E p q++[q] else part E p q:=by
 unfold part;rw[List.range_succ,List.filter_append,List.filter_cons]
 by_cases h:Mut E p q
 · rw[if_pos h,if_pos (decide_eq_true h)];rfl
 · rw[if_neg h,if_neg (by rw[decide_eq_false h];simp)];simp
theorem part_all:part E p n=comp n E p:=rfl
theorem lsQ_zero:lsQ E n p 0 x=lsO E n p x:=by
 unfold lsQ
 by_cases e:x=p
 · rw[if_pos e,part_zero];unfold lsO;rw[if_neg (by omega)]
 · rw[if_neg e]
theorem lsQ_skip (h:¬Mut E p q):lsQ E n p (q+1) x=lsQ E n p q x:=by
 unfold lsQ;rw[part_succ,if_neg h]
theorem lsQ_step (h:Mut E p q):lsQ E n p (q+1) x=if x=p then lsQ E n p q x++[q] else lsQ E n p q x:=by
 unfold lsQ;rw[part_succ,if_pos h]
 by_cases e:x=p
 · rw[if_pos e,if_pos e,if_pos e]
 · rw[if_neg e,if_neg e,if_neg e]
theorem cQ_zero:cQ E p 0=cO E p:=if_pos rfl
theorem cQ_skip (h:¬Mut E p q):cQ E p (q+1)=cQ E p q:=by unfold cQ;rw[part_succ,if_neg h]
theorem cQ_step (h:Mut E p q):cQ E p (q+1)=if lsQ E n p q p=[] then cQ E p q+1 else cQ E p q:=by
 unfold cQ lsQ;rw[part_succ,if_pos h,if_neg (by simp),if_pos rfl]
 by_cases e:part E p q=[]
 · rw[if_pos e,if_pos e]
 · rw[if_neg e,if_neg e]
theorem PL_skip (h:¬Mut E p q):PL E p (q+1) x↔PL E p q x:=by
 unfold PL;constructor
 · rintro (a | ⟨a,b⟩)
   · exact .inl a
   · by_cases e:x=q
     · subst e;exact absurd a h
     · exact .inr ⟨a,by omega⟩
 · rintro(a | ⟨a,b⟩)
   · exact .inl a
   · exact .inr ⟨a,by omega⟩
theorem PL_step (h:Mut E p q):PL E p (q+1) x↔PL E p q x∨x=q:=by
 unfold PL;constructor
 · rintro (a | ⟨a,b⟩)
   · exact .inl (.inl a)
   · by_cases e:x=q
     · exact .inr e
     · exact .inl (.inr ⟨a,by omega⟩)
 · rintro((a | ⟨a,b⟩) | e)
   · exact .inl a
   · exact .inr ⟨a,by omega⟩
   · subst e;exact .inr ⟨h,by omega⟩
theorem PL_zero:PL E p 0 x↔fst E x<p:=⟨fun h=>h.elim id fun h=>absurd h.2 (Nat.not_lt_zero _),.inl⟩
theorem PL_own:PL E p 0 p↔fst E p≠p:=by
 have:=fst_le (Mut.refl (E:=E) p);rw[PL_zero];omega
theorem PL_had (h:fst E p≠p):PL E (p+1) 0 x↔PL E p 0 x:=by
 rw[PL_zero,PL_zero];constructor
 · intro h1
   by_cases e:fst E x=p
   · exact absurd (by rw[←e,fst_fst]) h
   · omega
 · omega
theorem PL_next (h:fst E p=p) (hx:x<n):PL E (p+1) 0 x↔PL E p n x:=by
 rw[PL_zero];unfold PL;constructor
 · intro h1
   by_cases e:fst E x=p
   · exact .inr ⟨fst_iff.1 (by rw[e,h]),hx⟩
   · exact .inl (by omega)
 · rintro (a | ⟨a,_⟩)
   · omega
   · have:=fst_eq a;omega
theorem lsO_had (h:fst E p≠p):lsO E n (p+1) x=lsO E n p x:=by
 unfold lsO
 by_cases e:x<p∧fst E x=x
 · rw[if_pos e,if_pos ⟨by omega,e.2⟩]
 · rw[if_neg e,if_neg];rintro⟨a,b⟩
   by_cases c:x=p
   · subst c;exact h b
   · exact e ⟨by omega,b⟩
theorem lsO_next (h:fst E p=p):lsO E n (p+1) x=lsQ E n p n x:=by
 unfold lsO lsQ
 by_cases e:x=p
 · subst e;rw[if_pos rfl,if_pos ⟨by omega,h⟩,part_all]
 · rw[if_neg e];unfold lsO
   by_cases c:x<p∧fst E x=x
   · rw[if_pos c,if_pos ⟨by omega,c.2⟩]
   · rw[if_neg c,if_neg fun d=>c ⟨by omega,d.2⟩]
theorem cO_succ:cO E (p+1)=if fst E p=p then cO E p+1 else cO E p:=by
 unfold cO;rw[List.range_succ,List.filter_append,List.length_append,List.filter_cons]
 by_cases h:fst E p=p
 · rw[if_pos h,if_pos (decide_eq_true h)];rfl
 · rw[if_neg h,if_neg (by rw[decide_eq_false h];simp)];simp
theorem cO_next (h:fst E p=p) (hp:p<n):cQ E p n=cO E (p+1):=by
 rw[cO_succ,if_pos h];unfold cQ;rw[part_all,if_neg (comp_ne hp)]
theorem cO_all:cO E n=(leasts n E).length:=rfl
theorem cO_le:cO E p≤p:=by
 have:=List.length_filter_le (fun y=>decide (fst E y=y)) (List.range p);rw[List.length_range]at this;exact this
theorem cQ_le:cQ E p q≤p+1:=by
 unfold cQ;have:=cO_le (E:=E) (p:=p)
 split<;>omega
theorem lsO_all (hx:x<n):lsO E n n x=if x∈leasts n E then comp n E x else []:=by
 unfold lsO
 by_cases h:fst E x=x
 · rw[if_pos ⟨hx,h⟩,if_pos (mem_leasts.2 ⟨hx,h⟩)]
 · rw[if_neg fun c=>h c.2,if_neg fun c=>h (mem_leasts.1 c).2]
theorem PL_all (hx:x<n):PL E n 0 x:=PL_zero.2 (fst_lt hx)
end
end Ci
end
section
open Go.RowKit Go.Shelf
namespace Ci
open Nt
def InLs (W:World) (A:Option Addr) (l:List (Option Addr×Nat×List Int)):Prop :=
 0<l.length→∃b off,A=some ⟨b,off,none⟩∧b<W.heap.size∧∀j (h:j<l.length),W.cell? ⟨b,off+j,none⟩=some (.slice l[j].1 l[j].2.2.length l[j].2.1)∧InInt W l[j].1 l[j].2.2∧l[j].2.2.length≤140737488355328
def bare (l:List (Option Addr×Nat×List Int)):List (List Int):=l.map fun x=>x.2.2
end Ci
end
section
open Go.RowKit Go.Shelf
namespace Ci
open Nt
open Classical
structure P1 (E:List (Nat×Nat)) (n:Nat) (w0:World) (S p q:Nat) (v:Nat→Value) (F:Nat→Int) (wr:World):Prop where
 kp:Kp [S,S+1,S+1+1] w0 wr
 lm:LM wr w0.heap.size S n (cQ E p q) v (lsQ E n p q)
 pl:∃c f,MapK Tryz.prog 3 κi wr (S+1+1) c f∧c≤1000*p+q∧∀x:Nat,x<n→f (x:Int)=if PL E p q x then some (.bool true) else none
 ro:RoI wr (S+1) n F
 fs:∀x,x<n→PL E p q x→F x=(fst E x:Int)
section
variable {E:List (Nat×Nat)} {n p q S:Nat} {w0 wr w':World} {v:Nat→Value} {F:Nat→Int}
theorem LM.congr {w:World} {B mb c c':Nat} {ls ls':Nat→List Nat} (h:LM w B mb n c v ls) (e:∀x,ls x=ls' x) (ec:c=c'):LM w B mb n c' v ls':=by
 obtain rfl:ls=ls':=funext e;subst ec;exact h
theorem P1.below (h:P1 E n w0 S p q v F wr) (hb:Below wr.heap.size wr w'):P1 E n w0 S p q v F w':=by
 obtain⟨c,f,h1,h2⟩:=h.pl;exact⟨h.kp.below hb,h.lm.below hb,⟨c,f,h1.below hb,h2⟩,h.ro.below hb,h.fs⟩
theorem P1.had (h:P1 E n w0 S p 0 v F wr) (hp:fst E p≠p):P1 E n w0 S (p+1) 0 v F wr:=by
 obtain⟨c,f,h1,h2,h3⟩:=h.pl;refine⟨h.kp,h.lm.congr (fun x=>?_) ?_,⟨c,f,h1,by omega,fun x hx=>?_⟩,h.ro,fun x hx hP=>h.fs x hx ((PL_had hp).1 hP)⟩
 · rw[lsQ_zero,lsQ_zero,lsO_had hp]
 · rw[cQ_zero,cQ_zero,cO_succ,if_neg hp]
 · rw[h3 x hx]
   by_cases e:PL E p 0 x
   · rw[if_pos e,if_pos ((PL_had hp).2 e)]
   · rw[if_neg e,if_neg fun c=>e ((PL_had hp).1 c)]
theorem P1.next (h:P1 E n w0 S p n v F wr) (hp:fst E p=p) (hpn:p<n) (hn:n≤1000):P1 E n w0 S (p+1) 0 v F wr:=by
 obtain⟨c,f,h1,h2,h3⟩:=h.pl;refine⟨h.kp,h.lm.congr (fun x=>?_) ?_,⟨c,f,h1,by omega,fun x hx=>?_⟩,h.ro,fun x hx hP=>h.fs x hx ((PL_next hp hx).1 hP)⟩
 · rw[lsQ_zero,lsO_next hp]
 · rw[cQ_zero,cO_next hp hpn]
 · rw[h3 x hx]
   by_cases e:PL E p n x
   · rw[if_pos e,if_pos ((PL_next hp hx).2 e)]
   · rw[if_neg e,if_neg fun c=>e ((PL_next hp hx).1 c)]
theorem P1.skip (h:P1 E n w0 S p q v F wr) (hm:¬Mut E p q):P1 E n w0 S p (q+1) v F wr:=by
 obtain⟨c,f,h1,h2,h3⟩:=h.pl;refine⟨h.kp,h.lm.congr (fun x=>(lsQ_skip hm).symm) (cQ_skip hm).symm,⟨c,f,h1,by omega,fun x hx=>?_⟩,h.ro,fun x hx hP=>h.fs x hx ((PL_skip hm).1 hP)⟩;rw[h3 x hx]
 by_cases e:PL E p q x
 · rw[if_pos e,if_pos ((PL_skip hm).2 e)]
 · rw[if_neg e,if_neg fun c=>e ((PL_skip hm).1 c)]
theorem P1.look (h:P1 E n w0 S p 0 v F wr) (hpn:p<n) (hn:n≤1000):(Instr.lookup 112 (.map (some (S+1+1))) (.int .i64 (p:Int)) false).run Tryz.prog wr=.ok (.bool (bV (fst E p≠p))) wr:=by
 obtain⟨c,f,h1,_,h3⟩:=h.pl;have:=h1.look keyI Tryz.underlying112 (zeroB wr) (key_i Tryz.underlying3 (a:=(p:Int)) (by omega) (by omega));rw[this,h3 p hpn]
 by_cases e:fst E p≠p
 · rw[if_pos (PL_own.2 e),bV_true e];rfl
 · rw[if_neg fun c=>e (PL_own.1 c),bV_false e];rfl
theorem ReachM.look {mb:Nat} {w:World} (h:ReachM w n mb E p) (hq:q<n) (hn:n≤1000):(Instr.lookup 112 (.map (some mb)) (.int .i64 (q:Int)) false).run Tryz.prog w=.ok (.bool (bV (Reach E p q))) w:=by
 obtain⟨c,f,h1,h3⟩:=h;have:=h1.look keyI Tryz.underlying112 (zeroB w) (key_i Tryz.underlying3 (a:=(q:Int)) (by omega) (by omega));rw[this,h3 q hq]
 by_cases e:Reach E p q
 · rw[if_pos e,bV_true e];rfl
 · rw[if_neg e,bV_false e];rfl
theorem ReachM.below {mb:Nat} {w:World} (h:ReachM w n mb E p) (hb:Below w.heap.size w w'):ReachM w' n mb E p:=by
 obtain⟨c,f,h1,h3⟩:=h;exact⟨c,f,h1.below hb,h3⟩
theorem ReachM.kp {mb:Nat} {xs:List Nat} {w:World} (h:ReachM w n mb E p) (hk:Kp xs w w') (hm:mb∉xs):ReachM w' n mb E p:=by
 obtain⟨c,f,h1,h3⟩:=h;exact⟨c,f,h1.kp hk hm,h3⟩
theorem P1.start (E:List (Nat×Nat)) (n:Nat) (wS:World) (t:TypeId) :
 P1 E n (((wS.alloc (.map #[] 0)).alloc (.cells (madeCells #[.int .i64 0] n) t)).alloc (.map #[] 0)) wS.heap.size 0 0 (fun _=>.slice none 0 0) (fun _=>0) (((wS.alloc (.map #[] 0)).alloc (.cells (madeCells #[.int .i64 0] n) t)).alloc (.map #[] 0)):=by
 have s1:(wS.alloc (.map #[] 0)).heap.size=wS.heap.size+1:=by simp
 have s2:((wS.alloc (.map #[] 0)).alloc (.cells (madeCells #[.int .i64 0] n) t)).heap.size=wS.heap.size+1+1:=by simp
 have hR:=(RoI.made (wS.alloc (.map #[] 0)) n t).alloc (.map #[] 0);rw[s1]at hR;have hM:=MapK.made ((wS.alloc (.map #[] 0)).alloc (.cells (madeCells #[.int .i64 0] n) t)) Tryz.prog 3 κi;rw[s2]at hM;refine⟨Kp.refl _ _,(((LM.made wS _ n).alloc _).alloc _).congr (fun x=>?_) ?_,⟨0,_,hM,Nat.zero_le _,fun x _=>?_⟩,hR,fun x _ hP=>?_⟩
 · rw[lsQ_zero];unfold lsO;rw[if_neg (by omega)]
 · rw[cQ_zero];rfl
 · rw[if_neg fun c=>by have:=PL_zero.1 c;omega]
 · have:=PL_zero.1 hP;omega
theorem P1.step (h:P1 E n w0 S p q v F wr) (hw0:w0.heap.size=S+3) (hm:Mut E p q) (hpn:p<n) (hqn:q<n) (hn:n≤1000) (hfp:fst E p=p) :
 ∃ W1,(Instr.mapUpdate 112 (.map (some (S+1+1))) (.int .i64 (q:Int)) (.bool true)).run Tryz.prog wr=.ok () W1∧W1.heap.size=W1.heap.size∧RoI W1 (S+1) n F ∧
  (∀ W2,W2=W1.setCell ⟨S+1,q,none⟩ (.int .i64 (p:Int))→(Instr.lookup 111 (.map (some S)) (.int .i64 (p:Int)) false).run Tryz.prog W2=.ok (v p) W2∧wr.heap.size≤W2.heap.size ∧
    ∀ W3,W3=W2.alloc (.cells #[.int .i64 (q:Int)] 3)→W3.ownsRow w0.heap.size 3 1 (v p) (lsQ E n p q p).length (intsL (lsQ E n p q p)) ∧
     ∀ vb wb,wb.ownsRow w0.heap.size 3 1 vb ((lsQ E n p q p).length+1) (intsL (lsQ E n p q p)++[.int .i64 (q:Int)])→W3.grownBy wb (v p).ownBlock→(vb.ownBlock=(v p).ownBlock∨vb.ownBlock=some W3.heap.size) →
      ∃ W4,(Instr.mapUpdate 111 (.map (some S)) (.int .i64 (p:Int)) vb).run Tryz.prog wb=.ok () W4∧P1 E n w0 S p (q+1) (fun i=>if i=p then vb else v i) (setI F q (p:Int)) W4 ∧
       (∀w6,Kp [S,S+1,S+1+1] w6 wr→(∀b,(v p).ownBlock=some b→w6.heap.size≤b)→Kp [S,S+1,S+1+1] w6 W4∧∀b,vb.ownBlock=some b→w6.heap.size≤b)):=by
 obtain⟨c,f,h1,h2,h3⟩:=h.pl;obtain⟨W1,hrun,hM1,hg1⟩:=h1.put κi_inj keyI Tryz.underlying112 (by unfold maxLen;omega) (key_i Tryz.underlying3 (a:=(q:Int)) (by omega) (by omega)) (.bool true);have hrowlt:∀x b,x<n→(v x).ownBlock=some b→w0.heap.size≤b:=fun x b hx e=>((h.lm.rows x hx).lt b e).1
 have hL1:LM W1 w0.heap.size S n (cQ E p q) v (lsQ E n p q):=h.lm.grown hg1 (by simp;omega) fun x b hx e e2=>by
  have:=hrowlt x b hx e
  cases e2;omega
 have hR1:RoI W1 (S+1) n F:=h.ro.grown hg1 (by simp);refine⟨W1,hrun,rfl,hR1,?_⟩;rintro W2 rfl
 have hL2:=hL1.set (a:=⟨S+1,q,none⟩) (.int .i64 (p:Int)) (by simp) fun x hx e=>by
  have:=hrowlt x _ hx e;simp only at this;omega
 have hR2:=hR1.set hqn (p:Int);have hM2:=hM1.set (a:=⟨S+1,q,none⟩) (by simp) (.int .i64 (p:Int));refine⟨hL2.look hpn hn,by have:=hg1.size;simpa using this,?_⟩;rintro W3 rfl;have hL3:=hL2.alloc (.cells #[.int .i64 (q:Int)] 3);refine⟨hL3.rows p hpn,fun vb wb ho hg hnb=>?_⟩;have hc:=cQ_le (E:=E) (p:=p) (q:=q);obtain⟨W4,hrun4,hL4,hg4⟩:=hL3.step hpn hn (by unfold maxLen;omega) hg ho hnb;have hS:∀b,(v p).ownBlock=some b→S+1+1<b:=fun b e=>by have:=hrowlt p b hpn e;omega
 refine⟨W4,hrun4,⟨?_,hL4.congr (fun x=>?_) ?_,⟨if (f (q:Int)).isSome then c else c+1,putF f (q:Int) (some (.bool true)),?_,?_,fun x hx=>?_⟩,?_,fun x hx hP=>?_⟩,fun w6 hk hb6=>⟨?_,fun b e=>?_⟩⟩
 · exact((((h.kp.grown hg1 fun b e=>by cases e;simp).set (a:=⟨S+1,q,none⟩) _ (by simp)).alloc _).grown hg fun b e=>.inr (hrowlt p b hpn e)).grown hg4 fun b e=>by cases e;simp
 · rw[lsQ_step hm];rfl
 · rw[cQ_step (n:=n) hm]
 · exact((hM2.alloc _).kept hg fun e=>by have:=hS _ e.symm;omega).kept hg4 (by simp;omega)
 · split<;>omega
 · by_cases e:x=q
   · subst e;rw[putF_same,if_pos ((PL_step hm).2 (.inr rfl))]
   · rw[putF_other (fun c=>e (by omega)),h3 x hx]
     by_cases e2:PL E p q x
     · rw[if_pos e2,if_pos ((PL_step hm).2 (.inl e2))]
     · rw[if_neg e2,if_neg fun c=>((PL_step hm).1 c).elim e2 e]
 · exact((hR2.alloc _).grown hg fun e=>by have:=hS _ e;omega).grown hg4 (by simp)
 · by_cases e:x=q
   · subst e;rw[setI_same,←fst_eq hm,hfp]
   · rw[setI_other e];exact h.fs x hx (((PL_step hm).1 hP).elim id fun c=>absurd c e)
 · exact((((hk.grown hg1 fun b e=>by cases e;simp).set (a:=⟨S+1,q,none⟩) _ (by simp)).alloc _).grown hg fun b e=>.inr (hb6 b e)).grown hg4 fun b e=>by cases e;simp
 · rcases hnb with hnb | hnb
   · exact hb6 b (by rw[←hnb,e])
   · rw[e]at hnb;have h1:=hk.size;have h2:=hg1.size;simp only[Option.some.injEq,World.size_alloc,World.size_setCell]at hnb;omega
end
structure P2 (E:List (Nat×Nat)) (n:Nat) (w7:World) (S:Nat) (v:Nat→Value) (pre left:List Nat) (vo:Value) (wr:World):Prop where
 st:Stage n E pre left
 kp:Kp [S] w7 wr
 mp:∃f,MapK Tryz.prog 3 κi wr S left.length f∧∀x:Nat,x<n→f (x:Int)=if x∈left then some (v x) else none
 out:wr.ownsRow w7.heap.size 26 1 vo pre.length (pre.map v)
section
variable {E:List (Nat×Nat)} {n p q S:Nat} {w0 w7 wr w':World} {v:Nat→Value} {F:Nat→Int} {pre left:List Nat} {vo:Value}
theorem P2.start (h:P1 E n w0 S n 0 v F w7) (hE:InN n E):P2 E n w7 S v [] (leasts n E) (.slice none 0 0) w7:=by
 obtain⟨f,h1,h2⟩:=h.lm.map;rw[cQ_zero,cO_all]at h1;refine⟨Stage.start hE,Kp.refl _ _,⟨f,h1,fun x hx=>?_⟩,World.ownsRow_nil _ _ _ _⟩;rw[h2 x hx,lsQ_zero,lsO_all hx]
 by_cases e:x∈leasts n E
 · rw[if_pos e,if_pos e,if_neg (comp_ne hx)]
 · rw[if_neg e,if_neg e,if_pos rfl]
theorem P2.pre_nodup (h:P2 E n w7 S v pre left vo wr) (hE:InN n E):pre.Nodup:=by
 have h1:=ords_nodup hE;rw[h.st.eq]at h1;exact(List.nodup_append.1 h1).1
theorem P2.len (h:P2 E n w7 S v pre left vo wr) (ty:TypeId):(Builtin.len_ #[111] ty #[.map (some S)]).run Tryz.prog wr=.ok (.int .i64 (left.length:Int)) wr:=by
 obtain⟨f,h1,_⟩:=h.mp;exact h1.len Tryz.underlying111 ty
theorem P2.look (h:P2 E n w7 S v pre left vo wr) (hp:p<n) (hn:n≤1000):(Instr.lookup 111 (.map (some S)) (.int .i64 (p:Int)) true).run Tryz.prog wr=.ok (.tuple #[if p∈left then v p else .slice none 0 0,.bool (bV (p∈left))]) wr:=by
 obtain⟨f,h1,h2⟩:=h.mp;have:=h1.look_ok keyI Tryz.underlying111 (zeroSl wr) (key_i Tryz.underlying3 (a:=(p:Int)) (by omega) (by omega));rw[this,h2 p hp]
 by_cases e:p∈left
 · rw[if_pos e,if_pos e,bV_true e];rfl
 · rw[if_neg e,if_neg e,bV_false e];rfl
theorem P2.step (h:P2 E n w7 S v pre left vo wr) (hp:pick E left=some p) (hpn:p<n) (hn:n≤1000) (hS:S<w7.heap.size) :
 (wr.alloc (.cells #[v p] 26)).ownsRow w7.heap.size 26 1 vo pre.length (pre.map v)∧w7.heap.size≤(wr.alloc (.cells #[v p] 26)).heap.size ∧
 ∀ vb wb,wb.ownsRow w7.heap.size 26 1 vb (pre.length+1) (pre.map v++[v p])→(wr.alloc (.cells #[v p] 26)).grownBy wb vo.ownBlock →
  ∃W4,(Builtin.delete_ #[111,3] 0 #[.map (some S),.int .i64 (p:Int)]).run Tryz.prog wb=.ok (.tuple #[]) W4∧P2 E n w7 S v (pre++[p]) (left.erase p) vb W4:=by
 have hs:=h.kp.size;obtain⟨hpl,_,_⟩:=pick_says h.st.ok hp;obtain⟨f,h1,h2⟩:=h.mp;have hvo:∀b,vo.ownBlock=some b→w7.heap.size≤b:=fun b e=>(h.out.lt b e).1;refine⟨own_below' h.out ((Below.refl _ wr).alloc (Nat.le_refl _) _),by simp;omega,fun vb wb ho hg=>?_⟩;have hne:∀b,vo.ownBlock=some b→b≠S:=fun b e c=>by have:=hvo b e;omega
 have hM:=(h1.alloc (.cells #[v p] 26)).kept hg fun e=>hne S e.symm rfl;obtain⟨W4,hrun,hM4,hg4⟩:=hM.del κi_inj keyI Tryz.underlying111 (key_i Tryz.underlying3 (a:=(p:Int)) (by omega) (by omega)) 0
 have hc:(if (f (p:Int)).isSome then left.length-1 else left.length)=(left.erase p).length:=by
  rw[h2 p hpn,if_pos hpl,List.length_erase_of_mem hpl];rfl
 rw[hc]at hM4;refine⟨W4,hrun,h.st.step hp,?_,⟨_,hM4,fun x hx=>?_⟩,?_⟩
 · exact((h.kp.alloc _).grown hg fun b e=>.inr (hvo b e)).grown hg4 fun b e=>by cases e;simp
 · by_cases e:x=p
   · subst e;rw[putF_same,if_neg fun c=>(h.st.ok.nodup.mem_erase_iff.1 c).1 rfl]
   · rw[putF_other (fun c=>e (by omega)),h2 x hx]
     by_cases e2:x∈left
     · rw[if_pos e2,if_pos ((List.mem_erase_of_ne e).2 e2)]
     · rw[if_neg e2,if_neg fun c=>e2 ((List.mem_erase_of_ne e).1 c)]
 · rw[List.length_append,List.map_append];refine ho.kept hg4 ?_
   cases hu:vb.ownBlock with
   | none=>exact .inl rfl
   | some b=>exact .inr fun e=>(by have:=(ho.lt b hu).1;cases e;omega)
def slA:Value→Option Addr
 | .slice a _ _=>a
 | _=>none
def slC:Value→Nat
 | .slice _ _ c=>c
 | _=>0
noncomputable def outL (E:List (Nat×Nat)) (n:Nat) (v:Nat→Value) (pre:List Nat):List (Option Addr×Nat×List Int):=pre.map fun p=>(slA (v p),slC (v p),(comp n E p).map fun(q:Nat)=>(q:Int))
theorem bare_outL:bare (outL E n v pre)=pre.map fun p=>(comp n E p).map fun(q:Nat)=>(q:Int):=by
 unfold bare outL;rw[List.map_map];rfl
theorem own_inInt {W:World} {base:Nat} {e:TypeId} {u:Value} {l:List Nat} (h:W.ownsRow base e 1 u l.length (intsL l)):u=.slice (slA u) l.length (slC u)∧InInt W (slA u) (l.map fun(q:Nat)=>(q:Int)):=by
 rcases own_ints h with⟨rfl,rfl⟩ | ⟨g,cap,rfl,_,h1,_,h2⟩
 · exact⟨rfl,fun h=>absurd h (by simp)⟩
 · refine⟨rfl,fun _=>⟨g,0,rfl,h1,fun j hj=>?_⟩⟩;have hj2:j<l.length:=by simpa using hj
   rw[Nat.zero_add,h2 j hj2];simp
theorem inLs_out {W:World} {base base2 c:Nat} {A:Option Addr} (hn:n≤1000) (h:W.ownsRow base 26 1 (.slice A pre.length c) pre.length (pre.map v)) (hr:∀p,p∈pre→W.ownsRow base2 3 1 (v p) (comp n E p).length (intsL (comp n E p))):InLs W A (outL E n v pre):=fun h0=>by
 have hl:(outL E n v pre).length=pre.length:=by simp[outL]
 rw[hl]at h0
 rcases h.2 with⟨_,h1⟩ | ⟨g,cap,cur,e,hb,hg,_⟩
 · omega
 · injection e with e1 _ _;subst e1;refine⟨g,0,rfl,(Array.getElem?_eq_some_iff.1 hg).1,fun j hj=>?_⟩;have hj2:j<pre.length:=by omega
   have hc:=h.cells (g:=g) (by simp[Value.ownBlock]) j (v pre[j]) (by simp[hj2]);rw[Addr.add_lit]at hc;have hrj:=own_inInt (hr pre[j] (List.getElem_mem hj2));have he:(outL E n v pre)[j]=(slA (v pre[j]),slC (v pre[j]),(comp n E pre[j]).map fun(q:Nat)=>(q:Int)):=by simp[outL]
   rw[he];refine⟨?_,hrj.2,?_⟩
   · rw[hc];simp only[List.length_map];rw[←hrj.1]
   · simp only[List.length_map];unfold comp;have h:=List.length_filter_le (fun q=>decide (Mut E pre[j] q)) (List.range n);rw[List.length_range]at h;omega
end
end Ci
end
section
open Go.RowKit Go.Shelf
namespace Ci
def QIn (w:World) (B:Nat) (v:Value) (l:List Nat):Prop :=
 (∃A,v=.slice A 0 0∧l=[]∧∀b,v.ownBlock=some b→B≤b∧b<w.heap.size) ∨
 ∃g o cap,v=.slice (some ⟨g,o,none⟩) l.length cap∧B≤g∧g<w.heap.size∧l.length≤cap∧(∀j,j<cap→(w.cell? ⟨g,o+j,none⟩).isSome=true)∧(∀j,w.frozen? ⟨g,j,none⟩=false)∧∀j (h:j<l.length),w.cell? ⟨g,o+j,none⟩=some (.int .i64 (l[j]:Int))
section
variable {w w':World} {B:Nat} {v:Value} {l:List Nat} {q:Nat}
theorem QIn.block (h:QIn w B v l) {b:Nat} (hb:v.ownBlock=some b):B≤b∧b<w.heap.size:=by
 rcases h with⟨A,rfl,_,h⟩ | ⟨g,o,cap,rfl,h1,h2,_⟩
 · exact h b hb
 · cases hb;exact⟨h1,h2⟩
theorem QIn.grown {row:Option Nat} (h:QIn w B v l) (hg:w.grownBy w' row) (hne:v.ownBlock=none∨v.ownBlock≠row):QIn w' B v l:=by
 rcases h with⟨A,rfl,h1,h2⟩ | ⟨g,o,cap,rfl,h1,h2,h3,h4,h5,h6⟩
 · exact .inl ⟨A,rfl,h1,fun b hb=>⟨(h2 b hb).1,Nat.lt_of_lt_of_le (h2 b hb).2 hg.size⟩⟩
 · have hb:w'.heap[g]? = w.heap[g]?:=hg.block g h2 fun e=>by
    rcases hne with hne | hne
    · cases hne
    · exact hne e
   refine .inr ⟨g,o,cap,rfl,h1,Nat.lt_of_lt_of_le h2 hg.size,h3,fun j hj=>?_,fun j=>?_,fun j hj=>?_⟩
   · rw[World.cell?_of_block (a:=⟨g,o+j,none⟩) hb];exact h4 j hj
   · rw[World.frozen?_of_block (a:=⟨g,j,none⟩) hb];exact h5 j
   · rw[World.cell?_of_block (a:=⟨g,o+j,none⟩) hb];exact h6 j hj
theorem QIn.set (h:QIn w B v l) {a:Addr} (ha:v.ownBlock≠some a.block) (u:Value):QIn (w.setCell a u) B v l :=
 h.grown (row:=some a.block) ⟨rfl,rfl,rfl,by simp,fun k _ hk=>Below.heap_setCell _ _ _ _ (fun e=>hk (by rw[e]))⟩ (.inr ha)
theorem QIn.alloc (h:QIn w B v l) (o:Obj):QIn (w.alloc o) B v l :=
 h.grown (row:=none) ⟨rfl,rfl,rfl,by simp,fun k hk _=>heap_alloc_old w o hk⟩ (by cases hq:v.ownBlock<;>simp)
theorem QIn.drew (h:QIn w B v l):QIn w.drew B v l:=h
theorem QIn.head {p:Nat} (h:QIn w B v (p::l)):∃g o cap,v=.slice (some ⟨g,o,none⟩) (l.length+1) cap∧B≤g∧g<w.heap.size∧l.length+1≤cap∧w.cell? ⟨g,o,none⟩=some (.int .i64 (p:Int)) ∧
 QIn w B (.slice (some (if cap=1 then ⟨g,o,none⟩ else ⟨g,o+1,none⟩)) l.length (cap-1)) l:=by
 rcases h with⟨A,_,h1,_⟩ | ⟨g,o,cap,rfl,h1,h2,h3,h4,h5,h6⟩
 · cases h1
 · refine ⟨g,o,cap,rfl,h1,h2,h3,by have:=h6 0 (by simp);simpa using this,?_⟩;simp only[List.length_cons]at h3
   by_cases e:cap=1
   · rw[if_pos e];have hl:l=[]:=List.length_eq_zero_iff.1 (by omega);subst hl;subst e;exact .inl ⟨_,rfl,rfl,fun b hb=>by cases hb;exact⟨h1,h2⟩⟩
   · rw [if_neg e];refine .inr ⟨g,o+1,cap-1,rfl,h1,h2,by omega,fun j hj=>?_,h5,fun j hj=>?_⟩
     · have:=h4 (j+1) (by omega)
       rwa [show o+1+j=o+(j+1) by omega]
     · have:=h6 (j+1) (by simp;omega);rw[show o+1+j=o+(j+1) by omega]
       simpa using this
theorem QIn.of_row {e:TypeId} {u:Value} (h:w.ownsRow B e 1 u l.length (l.map fun(q:Nat)=>.int .i64 (q:Int))):QIn w B u l:=by
 rcases h.2 with⟨rfl,h0⟩ | ⟨g,cap,cur,rfl,hb,hg,h1,_,h3,_⟩
 · exact .inl ⟨none,rfl,List.length_eq_zero_iff.1 h0,fun b hb=>by cases hb⟩
 · have hadd:∀o,(⟨g,0,none⟩:Addr).add o=⟨g,0+o,none⟩:=fun o=>by unfold Addr.add;split<;>simp_all
   refine .inr ⟨g,0,cap,rfl,hb,(Array.getElem?_eq_some_iff.1 hg).1,h1,fun j hj=>?_,fun j=>by simp[World.frozen?,hg],fun j hj=>?_⟩
   · simp only[World.cell?,hg];have:0+j<cur.size:=by omega
     simp at this;simp[this]
   · have hc:=h.cells (g:=g) (by simp[Value.ownBlock]) j (.int .i64 (l[j]:Int)) (by simp[hj])
     rwa [hadd]at hc
theorem QIn.mono {B':Nat} (h:QIn w B v l) (hb:B'≤B):QIn w B' v l:=by
 rcases h with⟨A,rfl,h1,h2⟩ | ⟨g,o,cap,rfl,h1,h2⟩
 · exact .inl ⟨A,rfl,h1,fun b e=>⟨Nat.le_trans hb (h2 b e).1,(h2 b e).2⟩⟩
 · exact .inr ⟨g,o,cap,rfl,Nat.le_trans hb h1,h2⟩
theorem run_append_queue {P:Program} (t ty e:TypeId) (i:TypeInfo) (z:Value) (bytes:Nat) (ht:P.underlying t=some (.slice e)) (hi:P.info? e=some i) (hz:i.zero=some z)
 (hsize:i.size=1) (hby:i.bytes=bytes) (hzs:z.cells.size=1) (h:QIn w B v l) (hB:B≤w.heap.size) (ad:Addr) (c:Nat) (had:w.cell? ad=some (.int .i64 (q:Int)))
 (hb:(l.length+1)*bytes≤140737488355328) (hm:l.length+1≤maxLen) :
 ∃v' w',(Builtin.append_ #[t,t] ty #[v,.slice (some ad) 1 c]).run P w=.ok v' w'∧QIn w' B v' (l++[q])∧w.grownBy w' v.ownBlock∧(v'.ownBlock=v.ownBlock∨v'.ownBlock=some w.heap.size):=by
 have hnews:∀j u,[(Value.int .i64 (q:Int))][j]? = some u→w.cell? (ad.add j)=some u:=fun j u hj=>by
  match j,hj with
  | 0,hj=>simp at hj;subst hj;rw[Addr.add_zero'];exact had
  | j+1,hj=>simp at hj
 have h1:∀u∈[(Value.int .i64 (q:Int))],u.oneCell'=true:=one_cell1 _ rfl;have hmap:(l++[q]).map (fun(x:Nat)=>Value.int .i64 (x:Int))=l.map (fun(x:Nat)=>Value.int .i64 (x:Int))++[.int .i64 (q:Int)]:=by simp
 have fin:∀{v':Value} {w':World},w'.ownsRow w.heap.size e 1 v' (l.length+1) (l.map (fun(x:Nat)=>Value.int .i64 (x:Int))++[.int .i64 (q:Int)])→w.grownBy w' none→(v'.ownBlock=none∨v'.ownBlock=some w.heap.size)→QIn w' B v' (l++[q])∧w.grownBy w' v.ownBlock∧(v'.ownBlock=v.ownBlock∨v'.ownBlock=some w.heap.size):=fun {v' w'} ho hg hn=>by
  refine⟨(QIn.of_row (e:=e) (by rw[hmap,List.length_append];exact ho)).mono hB,⟨hg.os,hg.tape,hg.output,hg.size,fun k hk _=>hg.block k hk (by simp)⟩,?_⟩
  rcases hn with hn | hn
  · rcases ho.2 with⟨_,h0⟩ | ⟨g,cap,cur,rfl,_⟩
    · omega
    · cases hn
  · exact .inr hn
 rcases h with⟨A,rfl,rfl,hA⟩ | ⟨g,o,cap,rfl,hg1,hg2,h3,h4,h5,h6⟩
 · cases A with
   | none =>
     obtain⟨v',w',hr,h2,h3,_⟩:=run_append_own (P:=P) w B t ty e i z 1 bytes ht hi hz hsize hby hzs (by decide) (.slice none 0 0) 0 [] (World.ownsRow_nil _ _ _ _) ad 1 c [.int .i64 (q:Int)] (by simp) hnews h1 (by simpa using hm) (by simpa using hb) hB;have h5:=run_append_at (P:=P) t ty e i z 1 bytes ht hi hz hsize hby (.slice none 0 0) 0 [] (World.ownsRow_nil w B _ _) ad 1 c [.int .i64 (q:Int)] (by simp) hnews h1 (by decide) (by simpa using hm) (by simpa using hb) hr;refine⟨v',w',hr,QIn.of_row (e:=e) (by simpa using h2),h3,h5⟩
   | some b =>
     obtain⟨b1,b2⟩:=hA b.block rfl;obtain⟨v',w',hr,r1,r2⟩:=run_append_arg_grows (P:=P) w t ty e i z 1 bytes ht hi hz hsize hby hzs (by decide) b 0 0 [] rfl (fun j u hj=>by simp at hj) ad 1 c [.int .i64 (q:Int)] (by simp) hnews (by decide) (by simpa using hm) (by simpa using hb);refine⟨v',w',hr,fin (by simpa using r1) r2 ?_⟩
     rcases r1.2 with⟨_,h0⟩ | ⟨g,cap,cur,rfl,hgg,hgc,_⟩
     · cases h0
     · have hr2:=run_append_grow (P:=P) w t ty e i z ht hi hz b 0 0 [] (by simp) (fun j u hj=>by simp at hj) ad 1 c [.int .i64 (q:Int)] (by rw[hsize];simp) hnews (by decide) (by decide) (growslice_fits (by decide) (by rw[hby];simpa using hb));rw[hr2]at hr;simp only[Result.ok.injEq]at hr;rw[←hr.1];exact .inr rfl
 · by_cases hroom:l.length+1≤cap
   · have hr:=run_append_room_cells (P:=P) w t ty e i ht hi g o l.length cap ad 1 c [.int .i64 (q:Int)] (by rw[hsize];simp) hnews h1 hroom
      (fun j hj=>by simp only[List.length_singleton]at hj;rw[hsize];have:=h4 (l.length+j) (by omega);rwa [show o+l.length*1+j=o+(l.length+j) by omega]) (fun j _=>h5 _)
     rw[hsize]at hr
     have hsame:∀j,j<cap→j≠l.length→(w.setCell ⟨g,o+l.length*1,none⟩ (.int .i64 (q:Int))).cell? ⟨g,o+j,none⟩=w.cell? ⟨g,o+j,none⟩:=fun j _ hne =>
      World.cell?_setCell_other _ _ _ _ (fun e=>by injection e with _ e2;omega)
     have hlast:(w.setCell ⟨g,o+l.length*1,none⟩ (.int .i64 (q:Int))).cell? ⟨g,o+l.length,none⟩=some (.int .i64 (q:Int)):=by
      have h7:=h4 l.length (by omega);obtain⟨u,hu⟩:=Option.isSome_iff_exists.1 h7;rw[Nat.mul_one];exact World.cell?_setCell_same _ _ _ hu
     refine⟨_,_,hr,.inr ⟨g,o,cap,by simp,hg1,by simpa [World.setCells] using hg2,by simpa using hroom,fun j hj=>?_,fun j=>?_,fun j hj=>?_⟩,?_,.inl rfl⟩
     · by_cases e:j=l.length
       · subst e
         show ((w.setCell _ _).cell? _).isSome=true
         rw[hlast];rfl
       · show ((w.setCell _ _).cell? _).isSome=true
         rw[hsame j hj e];exact h4 j hj
     · show (w.setCell _ _).frozen? _=false
       rw[World.frozen?_setCell];exact h5 j
     · by_cases e:j=l.length
       · subst e
         show (w.setCell _ _).cell? _=_
         rw[hlast];simp
       · have hj2:j<l.length:=by simp at hj;omega
         show (w.setCell _ _).cell? _=_
         rw[hsame j (by omega) e,h6 j hj2];simp[hj2]
     · exact⟨rfl,rfl,rfl,by simp[World.setCells],fun k _ hk=>Below.heap_setCell _ _ _ _ (fun e=>hk (by rw[e];rfl))⟩
   · have holds:∀j u,(l.map fun(x:Nat)=>Value.int .i64 (x:Int))[j]? = some u→w.cell? ((⟨g,o,none⟩:Addr).add j)=some u:=fun j u hj=>by
      obtain⟨hj2,e⟩:=List.getElem?_eq_some_iff.1 hj;rw[Addr.add_lit,h6 j (by simpa using hj2),←e];simp
     obtain⟨v',w',hr,r1,r2⟩:=run_append_arg_grows (P:=P) w t ty e i z 1 bytes ht hi hz hsize hby hzs (by decide) ⟨g,o,none⟩ l.length cap (l.map fun(x:Nat)=>Value.int .i64 (x:Int)) (by simp) holds ad 1 c [.int .i64 (q:Int)] (by simp) hnews (by omega) hm hb;refine⟨v',w',hr,fin r1 r2 ?_⟩;have hr2:=run_append_grow (P:=P) w t ty e i z ht hi hz ⟨g,o,none⟩ l.length cap (l.map fun(x:Nat)=>Value.int .i64 (x:Int)) (by rw[hsize];simp) holds ad 1 c [.int .i64 (q:Int)] (by rw[hsize];simp) hnews (by omega) (by simp only[maxLen]at hm;omega) (growslice_fits (by omega) (by rw[hby];exact hb));rw[hr2]at hr;simp only[Result.ok.injEq]at hr;rw[←hr.1];exact .inr rfl
end
theorem QIn.form {w:World} {B:Nat} {v:Value} {l:List Nat} (h:QIn w B v l):∃A c,v=.slice A l.length c:=by
 rcases h with⟨A,rfl,rfl,_⟩ | ⟨g,o,cap,rfl,_⟩
 · exact⟨A,0,rfl⟩
 · exact⟨_,_,rfl⟩
theorem wpList_append_queue {P:Program} (w:World) {ops:Array Oper} {rest:List Oper} {o:Oper} {a:Act} {Q:Exit→Act→World→Prop} (hgd:o.guard=none) (s x:Operand) (t:TypeId)
 (ho:o.op=.call { callee:=.builtin .append,args:=#[s,x],argTypes:=#[t,t] })
 (B:Nat) (e:TypeId) (i:TypeInfo) (z:Value) (bytes:Nat) (ht:P.underlying t=some (.slice e)) (hi:P.info? e=some i) (hz:i.zero=some z)
 (hsize:i.size=1) (hby:i.bytes=bytes) (hzs:z.cells.size=1)
 (v:Value) (l:List Nat) (q:Nat) (hs:a.eval s=v) (h:QIn w B v l) (hB:B≤w.heap.size) (ad:Addr) (c:Nat) (hx:a.eval x=.slice (some ad) 1 c) (had:w.cell? ad=some (.int .i64 (q:Int)))
 (hb:(l.length+1)*bytes≤140737488355328) (hm:l.length+1≤maxLen)
 (hK:∀v' w',QIn w' B v' (l++[q])→w.grownBy w' v.ownBlock→(v'.ownBlock=v.ownBlock∨v'.ownBlock=some w.heap.size)→wpList P ops Q rest (a.put o.dst v') w'):wpList P ops Q (o::rest) a w :=
 wpList_plain hgd fun _ hK2=>by
  obtain⟨v',w',hr,h2,h3,h4⟩:=run_append_queue (P:=P) t o.type e i z bytes ht hi hz hsize hby hzs h hB ad c had hb hm;unfold Oper.wp execOp;simp only[ho,resolve,invoke,builtin,Sem.run_bind,Sem.run_pure,Result.andThen_ok,List.map_toArray,List.map_cons,List.map_nil,hs,hx,hr];exact hK2 _ _ (hK v' w' h2 h3 h4)
end Ci
end
section
open Go.RowKit Go.Shelf
namespace Ci
open Nt
def mixed (n m:Nat):List Value:=List.replicate m (.int .i64 (-1))++List.replicate (n-m) (.int .i64 0)
theorem mixed_zero (n:Nat):mixed n 0=List.replicate n (.int .i64 0):=by simp[mixed]
theorem mixed_all (n:Nat):mixed n n=List.replicate n (.int .i64 (-1)):=by simp[mixed]
theorem mixed_len {n m:Nat} (h:m≤n):(mixed n m).length=n:=by simp[mixed];omega
theorem mixed_at {n m j:Nat} (h:j<m):(mixed n m)[j]? = some (.int .i64 (-1)):=by
 unfold mixed;rw[List.getElem?_append_left (by simpa using h),List.getElem?_replicate,if_pos h]
theorem mixed_splice {n m c:Nat} (h:m+c≤n):splice (mixed n m) m (List.replicate c (.int .i64 (-1)))=mixed n (m+c):=by
 unfold splice mixed;rw[List.take_left' (by simp),List.length_replicate,List.drop_append,List.drop_eq_nil_of_le (by simp),List.nil_append,List.length_replicate,List.drop_replicate,←List.append_assoc,List.replicate_append_replicate,show n-m-(m+c-m)=n-(m+c) by omega]
theorem made_mixed (n:Nat):madeCells #[(.int .i64 0:Value)] n=(mixed n 0).toArray:=by
 rw[mixed_zero];unfold madeCells;apply Array.ext
 · simp
 · intro i h1 h2;simp;rw[Nat.mod_one];rfl
theorem infoIr:(Tryz.prog.info? 3).map (fun i=>(i.zero,i.size,i.bytes))=some (some (.int .i64 0),1,8):=by kernel_rfl
theorem infoI1:(Tryz.prog.info? 3).map (·.size)=some 1:=by kernel_rfl
theorem Repeat_any (n b:Nat) (w:World) (hn:n≤1000) (hb:w.cell? ⟨b,0,none⟩=some (.int .i64 (-1))) (hbl:b<w.heap.size) :
 Calls Tryz.prog 65 #[.slice (some ⟨b,0,none⟩) 1 1,.int .i64 (n:Int)] w fun e w'=>(e=.returned (.slice (some ⟨w.heap.size,0,none⟩) n n)∧w'.heap[w.heap.size]? = some (.cells (List.replicate n (.int .i64 (-1))).toArray 3 (0,0)))∧Below w.heap.size w w':=by
 have kb:Hid (∀W,Calls Tryz.prog 127 #[.int .u64 1,.int .u64 (n:Int)] W fun e w'=>e=.returned (.tuple #[.int .u64 0,.int .u64 (n:Int)])∧w'=W):=fun W=>by
  have h:=Tryz.bits_Mul 1 n (by decide) (by omega) W;have h1:(1*n/18446744073709551616:Nat)=0:=by omega
  have h2:(1*n%18446744073709551616:Nat)=n:=by omega
  rw[h1,h2]at h;exact h
 have hmk:=run_make_row' (P:=Tryz.prog) 26 3 (.int .i64 0) 8 Tryz.underlying26 infoIr rfl .i64 .i64 n (by omega) (by omega)
 have hg0:Hid ((w.alloc (.cells (madeCells #[(.int .i64 0:Value)] n) 3)).heap[w.heap.size]? = some (.cells (mixed n 0).toArray 3 (0,0))):=by
  have h:=heap_alloc_new w (.cells (madeCells #[(.int .i64 0:Value)] n) 3);unfold Hid;rw[h,made_mixed]
 have hB0:Hid (Below w.heap.size w (w.alloc (.cells (madeCells #[(.int .i64 0:Value)] n) 3))):=(Below.refl _ w).alloc (Nat.le_refl _) _;have hb2:Hid ((w.alloc (.cells (madeCells #[(.int .i64 0:Value)] n) 3)).cell? ⟨b,0,none⟩=some (.int .i64 (-1))):=(hB0.out.cell (p:=⟨b,0,none⟩) hbl).trans hb;have hmin:Hid ((List.replicate (min 1 n) (Value.int .i64 (-1))).length=min 1 n):=List.length_replicate;have hone:Hid (∀c,∀v∈List.replicate c (Value.int .i64 (-1)),v.oneCell'=true):=fun c v hv=>by rw[(List.mem_replicate.1 hv).2];rfl
 have hmix0:Hid (0+(List.replicate (min 1 n) (Value.int .i64 (-1))).length≤(mixed n 0).length):=by
  unfold Hid;rw[mixed_len (Nat.zero_le _),List.length_replicate];omega
 have hpos:Hid (∀j v,(List.replicate (min 1 n) (Value.int .i64 (-1)))[j]? = some v→(w.alloc (.cells (madeCells #[(.int .i64 0:Value)] n) 3)).cell? (Addr.add ⟨b,0,none⟩ j)=some v):=fun j v hj=>by
  rw[List.getElem?_replicate]at hj
  split at hj
  · have h0:j=0:=by omega
    subst h0;rw[Addr.add_zero',←Option.some.inj hj];exact hb2.out
  · cases hj
 have hst:Hid (goInt (List.replicate (min 1 n) (Value.int .i64 (-1))).length=.int .i64 ((min 1 n:Nat):Int)):=by
  unfold Hid goInt;rw[List.length_replicate]
 have hsp0:Hid (splice (mixed n 0) 0 (List.replicate (min 1 n) (Value.int .i64 (-1)))=mixed n (min 1 n)):=by
  have:=mixed_splice (n:=n) (m:=0) (c:=min 1 n) (by omega)
  rwa [Nat.zero_add]at this
 clear hb;go_enter Tryz.func65,Tryz.ntmps65
 go_wp2_with fail
 refine(kb.out _).mono ?_;rintro e w2 ⟨rfl,rfl⟩
 go_wp2_with (refine wpList_copy_splice rfl _ _ _ _ rfl 3 Tryz.underlying26 infoI1 _ _ _ _ _ _ rfl rfl w2.heap.size 0 (mixed n 0) 3 hg0.out (List.replicate (min 1 n) (.int .i64 (-1))) hmin.out (fun _=>⟨rfl,_,rfl,hpos.out⟩) hmix0.out (hone.out _) w2.heap.size w2 hB0.out (Nat.le_refl _) ?_;intro w3 hg3 hb3;rw[hsp0.out]at hg3;rw[hst.out];replace hb3:=Lib.hid hb3)
 clear hmk hg0 hB0 hb2 hmin hmix0 hpos hst hsp0
 go_loopw [8] (fun m wr=>∃k:Nat,m=.int .i64 (k:Int)∧k≤n∧(0<n→0<k)∧Hid (wr.heap[w2.heap.size]? = some (.cells (mixed n k).toArray 3 (0,0)))∧Hid (Below w2.heap.size w2 wr)) (fun m _=>n-(intOf m).toNat)
 case atStart=>exact⟨min 1 n,rfl,by omega,by omega,hg3,hb3⟩
 case round =>
  obtain⟨k,rfl,hk,hk0,hg,hB⟩:=hrel;clear hg3 hb3
  by_cases hlt:k<n
  · have hnk:n≠k:=by omega
    have hk1:0<k:=hk0 (by omega);have hmin:Hid ((List.replicate (min k (n-k)) (Value.int .i64 (-1))).length=min k (n-k)):=List.length_replicate
    have hfit:Hid (k+(List.replicate (min k (n-k)) (Value.int .i64 (-1))).length≤(mixed n k).length):=by
     unfold Hid;rw[mixed_len (by omega),List.length_replicate];omega
    have hpos:Hid (∀j v,(List.replicate (min k (n-k)) (Value.int .i64 (-1)))[j]? = some v→wr.cell? (Addr.add ⟨w2.heap.size,0,none⟩ j)=some v):=fun j v hj=>by
     rw[List.getElem?_replicate]at hj
     split at hj
     · rename_i hj2;rw[Addr.add_lit,←Option.some.inj hj,Nat.zero_add];have h1:(mixed n k)[j]? = some (.int .i64 (-1)):=mixed_at (by omega);have h2:=hg.out;simp[World.cell?,h2,h1]
     · cases hj
    have hst:Hid (goInt (List.replicate (min k (n-k)) (Value.int .i64 (-1))).length=.int .i64 ((min k (n-k):Nat):Int)):=by
     unfold Hid goInt;rw[List.length_replicate]
    have hsp:Hid (splice (mixed n k) k (List.replicate (min k (n-k)) (Value.int .i64 (-1)))=mixed n (k+min k (n-k))):=mixed_splice (by omega);go_wp2
    go_region_law (refine step_copy_splice rfl (.tmp 41) (.tmp 44) 26 26 rfl 3 Tryz.underlying26 infoI1 (some ⟨w2.heap.size,k,none⟩) (some ⟨w2.heap.size,0,none⟩) (n-k) (n-k) k n (by simp[Act.eval,Act.put]) (by simp[Act.eval,Act.put]) w2.heap.size k (mixed n k) 3 hg.out (List.replicate (min k (n-k)) (.int .i64 (-1))) hmin.out (fun _=>⟨rfl,_,rfl,hpos.out⟩) hfit.out (hone.out _) w2.heap.size w2 hB.out.drew (Nat.le_refl _) ?_;intro w4 hg4 hb4;rw[hsp.out]at hg4;rw[hst.out];replace hb4:=Lib.hid hb4)
    clear hmin hfit hpos hst hsp hg hB
    have hwr:IntKind.i64.wrap ((k:Int)+((min k (n-k):Nat):Int))=((k+min k (n-k):Nat):Int):=by
     rw[IntKind.wrap_i64];omega
    simp only[hwr];dsimp only[Act.put,List.getElem_toArray,List.getElem_cons_succ,List.getElem_cons_zero];simp only[List.setIfInBounds_toArray,List.set_cons_succ,List.set_cons_zero];go_wp2
    go_roundw
    case rel=>exact⟨k+min k (n-k),by go_num,by omega,by omega,hg4,hb4⟩
    case measure=>simp only[intOf];omega
  · obtain rfl:k=n:=by omega
    have hG:Hid (wr.heap[w2.heap.size]? = some (.cells (List.replicate k (.int .i64 (-1))).toArray 3 (0,0))):=by
     have h:=hg.out
     rwa [mixed_all]at h
    go_wp2;go_ret;exact⟨⟨rfl,hG.out⟩,hB.out⟩
end Ci
end
section
open Go.RowKit Go.Shelf
namespace Ci
open Nt
def LstAt (n:Int) (l:List Int) (k:Nat) (h:k<l.length):Prop:=(0≤l[k]∧l[k]<n)∧(0<k→l[k-1]'(by omega)<l[k])
instance (n:Int) (l:List Int) (k:Nat) (h:k<l.length):Decidable (LstAt n l k h):=inferInstanceAs (Decidable (_∧_))
def listB (n:Int) (l:List Int):Bool:=decide (∀k (h:k<l.length),LstAt n l k h)
theorem list_bad {n:Int} {l:List Int} {k:Nat} (h:k<l.length) (hb:¬LstAt n l k h):listB n l=false:=decide_eq_false fun hc=>hb (hc k h)
theorem list_all {n:Int} {l:List Int} (h:∀k (h:k<l.length),LstAt n l k h):listB n l=true:=decide_eq_true h
end Ci
end
section
open Go.RowKit Go.Shelf
namespace Ci
open Nt
def toN (F:List Int):List Nat:=F.map Int.toNat
def RkPost (s:SR) (F:List Int) (w:World) (e:Ending) (w':World):Prop :=
 (if soundB s=true∧listB s.ps.length F=true then ∃b,e=.returned (.tuple #[.slice (some ⟨b,0,none⟩) s.ps.length s.ps.length,.int .i64 0])∧w.heap.size≤b∧RoI w' b s.ps.length (rk (edges s) (toN F))
   else e=.returned (.tuple #[.slice none 0 0,.int .i64 1]))∧Below w.heap.size w w'
theorem lst_at {n:Int} {l:List Int} (h:listB n l=true) {k:Nat} (hk:k<l.length):LstAt n l k hk:=of_decide_eq_true h k hk
theorem toN_at {n:Int} {F:List Int} (h:listB n F=true) {k:Nat} (hk:k<F.length):∃p:Nat,F[k]=(p:Int)∧(p:Int)<n∧(toN F)[k]? = some p:=by
 have h1:=(lst_at h hk).1;refine⟨F[k].toNat,by omega,by omega,by simp[toN,hk]⟩
theorem toN_in {n:Nat} {F:List Int} (h:listB n F=true) {p:Nat} (hp:p∈toN F):p<n:=by
 obtain⟨x,hx,rfl⟩:=List.mem_map.1 hp;obtain⟨k,hk,rfl⟩:=List.getElem_of_mem hx;have:=(lst_at h hk).1;omega
theorem toN_sorted {n:Nat} {F:List Int} (h:listB n F=true):(toN F).Pairwise (·<·):=by
 have hs:∀(i j:Nat) (hi:i<F.length) (hj:j<F.length),i<j→F[i]<F[j]:=by
  intro i j hi hj hij
  induction j with
  | zero=>omega
  | succ j ih =>
    have h1:=(lst_at h hj).2 (by omega);simp only[Nat.add_sub_cancel]at h1
    by_cases e:i=j
    · subst e;exact h1
    · have:=ih (by omega) (by omega);omega
 unfold toN;rw[List.pairwise_map];refine List.pairwise_iff_getElem.2 fun i j hi hj hij=>?_;have:=hs i j hi hj hij;have:=(lst_at h hi).1;have:=(lst_at h hj).1;omega
theorem toN_nodup {n:Nat} {F:List Int} (h:listB n F=true):(toN F).Nodup:=(toN_sorted h).imp fun h=>Nat.ne_of_lt h
theorem own_in {W:World} {base:Nat} {e:TypeId} {u:Value} {l:List Nat} (h:W.ownsRow base e 1 u l.length (intsL l)) :
 ∃A cap,u=.slice A l.length cap∧∀j (hj:j<l.length),∃g,A=some ⟨g,0,none⟩∧g<W.heap.size∧W.cell? ⟨g,j,none⟩=some (.int .i64 (l[j]:Int)):=by
 rcases own_ints h with⟨rfl,rfl⟩ | ⟨g,cap,rfl,_,h1,_,h2⟩
 · exact⟨none,0,rfl,fun j hj=>absurd hj (Nat.not_lt_zero _)⟩
 · exact⟨_,cap,rfl,fun j hj=>⟨g,rfl,h1,h2 j hj⟩⟩
theorem Clone_any (A:Option Addr) (c:Nat) (F:List Int) (w:World) (hF:InInt w A F) (h0:∀x,x∈F→0≤x) (hl:F.length≤1000) :
 Calls Tryz.prog 67 #[.slice A F.length c] w fun e w'=>(∃v,e=.returned v∧QIn w' w.heap.size v (toN F))∧Below w.heap.size w w':=by
 by_cases h:0<F.length
 · obtain ⟨b,o,rfl,hb,hc⟩:=hF h
   have hz:∀j,j<F.length→w.cell? ⟨b,o+j,none⟩=some (.int .i64 (F.getD j 0)):=fun j hj=>by
    rw[hc j hj];simp[hj]
   refine(Tryz.slices_Clone_int b o F.length c F w (Nat.le_refl _) (by omega) hz).mono ?_;rintro e w' ⟨v,rfl,ho,_,hbw⟩;refine⟨⟨v,rfl,QIn.of_row (e:=3) ?_⟩,hbw⟩;have e1:(toN F).length=F.length:=by simp[toN]
   have e2:((toN F).map fun(q:Nat)=>Value.int .i64 (q:Int))=F.map (Value.int .i64):=by
    unfold toN;rw[List.map_map];refine List.map_congr_left fun x hx=>?_;have:=h0 x hx;simp only[Function.comp_apply]
    congr 1
    omega
   rw[e1,e2]
   simpa using ho
 · have h1:F=[]:=List.length_eq_zero_iff.1 (by omega);subst h1
   cases A with
   | none =>
     refine(Tryz.slices_Clone_int_nil 0 c w).mono ?_;rintro e w' ⟨rfl,rfl⟩;exact⟨⟨_,rfl,.inl ⟨none,rfl,rfl,fun b hb=>by cases hb⟩⟩,Below.refl _ _⟩
   | some a =>
     refine(Tryz.slices_Clone_int_zero a c w).mono ?_;rintro e w' ⟨v,rfl,ho,_,hb⟩;exact⟨⟨v,rfl,QIn.of_row (e:=3) (by simpa [toN] using ho)⟩,hb⟩
theorem head1 (w:World) (v:Value) (t:TypeId):(w.alloc (.cells #[v] t)).cell? ⟨w.heap.size,0,none⟩=some v:=by
 have:=head_new w v t 0 v rfl
 rwa [Addr.add_zero']at this
theorem negs_lt {n p:Nat} {o:Nat→Int} (hp:p<n) (h:0≤o p):negs n o+1≤n:=by
 have h1:=filter_lt (f:=fun x=>decide (o x<0)) (g:=fun _=>true) (l:=List.range n) (fun _ _ _=>rfl) ⟨p,List.mem_range.2 hp,decide_eq_false (by omega),rfl⟩
 have h2:(List.filter (fun _=>true) (List.range n)).length=n:=by
  rw[List.filter_eq_self.2 fun _ _=>rfl,List.length_range]
 rw[h2]at h1;exact h1
theorem negs_le (n:Nat) (o:Nat→Int):negs n o≤n:=by
 have:=List.length_filter_le (fun x=>decide (o x<0)) (List.range n);rw[List.length_range]at this;exact this
def Bd (n:Nat) (o:Nat→Int):Prop:=∀x,x<n→o x+(negs n o:Int)<n
theorem Bd.start {n:Nat} {F:List Nat} {o:Nat→Int} (h:∀x,o x=if x∈F then 0 else -1):Bd n o:=fun x hx=>by
 by_cases e:x∈F
 · have h1:o x=0:=by rw[h x,if_pos e]
   have:=negs_lt hx (by omega:0≤o x);omega
 · have h1:o x=-1:=by rw[h x,if_neg e]
   have:=negs_le n o;omega
theorem Bd.set {n p q:Nat} {o:Nat→Int} (h:Bd n o) (hp:p<n) (hq:q<n) (h0:o q<0) (hv:0≤o p):Bd n (setI o q (o p+1)):=fun x hx=>by
 have h1:=negs_set hq h0 (v:=o p+1) (by omega);have h2:=h p hp;have h3:=h x hx
 by_cases e:x=q
 · rw[e,setI_same];omega
 · rw[setI_other e];omega
def ini (F:List Nat) (k:Nat) (x:Nat):Int:=if x∈F.take k then 0 else -1
theorem ini_succ {F:List Nat} {k p:Nat} (h:F[k]? = some p) (x:Nat):setI (ini F k) p 0 x=ini F (k+1) x:=by
 unfold setI ini;obtain⟨hk,rfl⟩:=List.getElem?_eq_some_iff.1 h
 have hm:x∈F.take (k+1)↔x∈F.take k∨x=F[k]:=by
  rw[List.take_succ_eq_append_getElem hk,List.mem_append,List.mem_singleton]
 by_cases e:x=F[k]
 · rw[if_pos e,if_pos (hm.2 (.inr e))]
 · rw[if_neg e]
   by_cases e2:x∈F.take k
   · rw[if_pos e2,if_pos (hm.2 (.inl e2))]
   · rw[if_neg e2,if_neg fun c=>(hm.1 c).elim e2 e]
theorem ini_all (F:List Nat) (x:Nat):ini F F.length x=if x∈F then 0 else -1:=by unfold ini;rw[List.take_length]
theorem Ranks_any (s:SR) (Ap Ac Av Af:Option Addr) (cp cc cv cf:Nat) (F:List Int) (w:World) (hE:Env w) (hs:StIn w s Ap Ac Av) (hc3:s.cap.length≤300) (hF:InInt w Af F) (hFl:F.length≤140737488355328) :
 Calls Tryz.prog 22 #[.agg #[.slice Ap s.ps.length cp,.slice Ac s.cap.length cc,.slice Av s.vot.length cv],.slice Af F.length cf] w (RkPost s F w):=by
 have hp47:=hs.np;have hNB:=Lib.hid (fun(k:Nat) (h:k<F.length) (hb:¬LstAt s.ps.length F k h)=>list_bad h hb);have hNA:=Lib.hid (list_all (n:=(s.ps.length:Int)) (l:=F));have hX0:Hid (Bk (w.alloc (.cells #[.slice Ap s.ps.length cp,.slice Ac s.cap.length cc,.slice Av s.vot.length cv] 25)) w.heap.size 25 (SC s Ap Ac Av cp cc cv)):=Bk.new w _ _;have hB0:Hid (Below w.heap.size w (w.alloc (.cells #[.slice Ap s.ps.length cp,.slice Ac s.cap.length cc,.slice Av s.vot.length cv] 25))):=(Below.refl _ w).alloc (Nat.le_refl _) _;have hBad:Hid (∀e w',(¬(soundB s=true∧listB s.ps.length F=true))→e=.returned (.tuple #[.slice none 0 0,.int .i64 1])→Below w.heap.size w w'→RkPost s F w e w'):=fun e w' h1 h2 h3=>⟨by rw[if_neg h1];exact h2,h3⟩;have u0:=hX0.out.cell (j:=0) rfl;have u9:=hX0.out.lt;replace hE:=Lib.hid hE;replace hs:=Lib.hid hs;replace hF:=Lib.hid hF;go_enter Tryz.func22,Tryz.ntmps22;go_wp2;obtain⟨wa,hwa⟩:∃x,x=w.alloc (.cells #[.slice Ap s.ps.length cp,.slice Ac s.cap.length cc,.slice Av s.vot.length cv] 25):=⟨_,rfl⟩;rw[←hwa]at hX0 hB0 ⊢;clear u0 u9 hwa
 go_loop [22] (fun i=>∃k:Nat,k≤F.length∧i=.int .i64 (k:Int)∧Hid (∀j (h:j<F.length),j<k→LstAt s.ps.length F j h)) (fun i=>F.length-(intOf i).toNat)
 case atStart=>exact⟨0,Nat.zero_le _,rfl,fun j _ h=>absurd h (Nat.not_lt_zero _)⟩
 case round =>
  obtain⟨k,hk,rfl,hI⟩:=hrel
  by_cases hlt:k<F.length
  · obtain ⟨b1,o1,rfl,hb1,hc1⟩:=(hF.out.below hB0.out) (by omega);have e1:=hc1 k hlt;have e0:Hid (0<k→wa.cell? ⟨b1,o1+(k-1),none⟩=some (.int .i64 (F[k-1]'(by omega)))):=fun h=>hc1 (k-1) (by omega);have hNk:=Lib.hid (hNB.out k hlt)
    have hIk:Hid (LstAt s.ps.length F k hlt→∀j (h:j<F.length),j<k+1→LstAt s.ps.length F j h):=fun h j h1 h3=>by
     by_cases e:j=k
     · subst e;exact h
     · exact hI.out j h1 (by omega)
    have hLA:Hid (LstAt s.ps.length F k hlt↔(0≤F[k]∧F[k]<s.ps.length)∧(0<k→F[k-1]'(by omega)<F[k])):=Iff.rfl;obtain⟨x,hx⟩:∃x,x=F[k]:=⟨_,rfl⟩;rw[←hx]at e1 hLA;have j0:(0:Int)≤(k:Int):=by omega
    have j1:(k:Int)<(F.length:Int):=by omega
    clear hc1 hI hx;have hcl:x<0∨(0≤x∧(s.ps.length:Int)≤x)∨(0≤x∧x<s.ps.length):=by omega
    rcases hcl with h1 | ⟨h1,h2⟩ | ⟨h1,h2⟩
    · have hG:=Lib.hid (hNk.out fun h=>by have:=(hLA.out.1 h).1.1;omega);have m1:decide (x<0)=true:=decide_eq_true h1;go_wp2;go_ret2;exact hBad.out _ _ (fun h=>by rw[hG.out]at h;cases h.2) rfl hB0.out
    · have hG:=Lib.hid (hNk.out fun h=>by have:=(hLA.out.1 h).1.2;omega);have m1:decide (x<0)=false:=decide_eq_false (by omega);have m2:decide ((s.ps.length:Int)≤x)=true:=decide_eq_true h2;go_wp2;go_ret2;exact hBad.out _ _ (fun h=>by rw[hG.out]at h;cases h.2) rfl hB0.out
    · have m1:decide (x<0)=false:=decide_eq_false (by omega);have m2:decide ((s.ps.length:Int)≤x)=false:=decide_eq_false (by omega)
      by_cases hk0:k=0
      · have m3:decide (0<(k:Int))=false:=decide_eq_false (by omega);have m4:decide (0<k)=false:=decide_eq_false (by omega);have hI2:=Lib.hid (hIk.out (hLA.out.2 ⟨⟨h1,h2⟩,fun h=>by omega⟩));replace hk0:=Lib.hid hk0;go_wp2;go_round
        case rel=>exact⟨k+1,by omega,by go_num,hI2⟩
        case measure=>simp[intOf];omega
      · have m3:decide (0<(k:Int))=true:=decide_eq_true (by omega);have m4:decide (0<k)=true:=decide_eq_true (by omega);have e2:=e0.out (by omega);obtain⟨y,hy⟩:∃y,y=F[k-1]'(by omega):=⟨_,rfl⟩;rw[←hy]at e2;have j2:(0:Int)≤(k:Int)-1:=by omega
        have j3:(k:Int)-1<(F.length:Int):=by omega
        have j4:IntKind.i64.wrap ((k:Int)-1)=(k:Int)-1:=IntWalk.i64_in _ (by omega);have j5:((k:Int)-1).toNat=k-1:=by omega
        by_cases hxy:y<x
        · have m5:decide (x≤y)=false:=decide_eq_false (by omega);have hI2:=Lib.hid (hIk.out (hLA.out.2 ⟨⟨h1,h2⟩,fun _=>by rw[←hy];exact hxy⟩));replace hy:=Lib.hid hy;go_wp2;go_round
          case rel=>exact⟨k+1,by omega,by go_num,hI2⟩
          case measure=>simp[intOf];omega
        · have m5:decide (x≤y)=true:=decide_eq_true (by omega);have hG:=Lib.hid (hNk.out fun h=>by have h3:=(hLA.out.1 h).2 (by omega);rw[←hy]at h3;omega);replace hy:=Lib.hid hy;go_wp2;go_ret2;exact hBad.out _ _ (fun h=>by rw[hG.out]at h;cases h.2) rfl hB0.out
  · obtain rfl : k = F.length:=by omega
    have hL:=Lib.hid (hNA.out fun j h=>hI.out j h h);clear hNB hNA hI;have u0:=hX0.out.cell (j:=0) rfl;have u1:=hX0.out.cell (j:=1) rfl;have u2:=hX0.out.cell (j:=2) rfl;have u9:=hX0.out.lt;have ks:=Sound_any s Ap Ac Av cp cc cv wa (hE.out.below hB0.out) (hs.out.below hB0.out)
    cases hsd:soundB s with
    | false =>
      rw[hsd]at ks;replace ks:=Lib.hid ks;replace hsd:=Lib.hid hsd
      go_wp2_with fail
      refine ks.out.mono ?_;rintro e w2 ⟨rfl,hb⟩;have hB2:=Lib.hid (hB0.out.trans (hb.mono hB0.out.size));clear hb;go_wp2;go_ret2;exact hBad.out _ _ (fun h=>by rw[hsd.out]at h;cases h.1) rfl hB2.out
    | true =>
      rw[hsd]at ks;replace ks:=Lib.hid ks
      have hn60:s.ps.length≤60:=by
       unfold soundB at hsd;simp only[Bool.and_eq_true,decide_eq_true_eq]at hsd;exact hsd.2.1
      have hin:Hid (∀x,x∈s.cap→(0≤x.1∧x.1<s.ps.length)∧(0≤x.2.1∧x.2.1<s.ps.length)):=fun x hx=>by
       unfold soundB at hsd;simp only[Bool.and_eq_true]at hsd;obtain⟨i,hi,rfl⟩:=List.getElem_of_mem hx;exact⟨(good_at hsd.2.2.1 hi).1.1,(good_at hsd.2.2.1 hi).1.2.1⟩
      have hin2:=Lib.hid (edges_in hsd);have hGood:Hid (∀e w' b,e=.returned (.tuple #[.slice (some ⟨b,0,none⟩) s.ps.length s.ps.length,.int .i64 0])→w.heap.size≤b→RoI w' b s.ps.length (rk (edges s) (toN F))→Below w.heap.size w w'→RkPost s F w e w'):=fun e w' b h1 h2 h3 h4=>⟨by rw[if_pos ⟨hsd,hL.out⟩];exact⟨b,h1,h2,h3⟩,h4⟩;replace hsd:=Lib.hid hsd;clear hBad
      go_wp2_with fail
      refine ks.out.mono ?_;rintro e w2 ⟨rfl,hb⟩;have hB2:=Lib.hid (hB0.out.trans (hb.mono hB0.out.size));have hX2:=Lib.hid (hX0.out.below hb);clear hb ks u0 u1 u2 u9 hB0 hX0;have kr:=Lib.hid (Repeat_any s.ps.length w2.heap.size (w2.alloc (.cells #[.int .i64 (-1)] 3)) (by omega) (head1 w2 _ _) (by simp));have hB2a:Hid (Below w.heap.size w (w2.alloc (.cells #[.int .i64 (-1)] 3))):=hB2.out.alloc hB2.out.size _;have hX2a:=Lib.hid (hX2.out.alloc (.cells #[.int .i64 (-1)] 3));obtain⟨b0,hb0⟩:∃b,b=(w2.alloc (.cells #[.int .i64 (-1)] 3)).heap.size:=⟨_,rfl⟩;rw[←hb0]at kr;have hw0:w.heap.size<b0:=by have:=hX2a.out.lt;omega
      go_wp2_with fail
      refine kr.out.mono ?_;rintro e w3 ⟨⟨rfl,hrow⟩,hb⟩;have hB3:=Lib.hid (hB2a.out.trans (hb.mono (by have:=hB2a.out.size;omega)));have hX3:=Lib.hid (hX2a.out.below (by rw[←hb0];exact hb));have hR3:Hid (RoI w3 b0 s.ps.length (ini (toN F) 0)):=(RoI.of_row hrow).congr fun x _=>by unfold ini;rw[List.take_zero,if_neg (by simp)]
      clear hb kr hb0 hrow hB2 hX2 hB2a hX2a;go_wp2
      go_loopw [56] (fun i wr=>∃(k:Nat) (o:Nat→Int),k≤F.length∧i=.int .i64 (k:Int)∧Hid (Kp [b0] w3 wr)∧Hid (RoI wr b0 s.ps.length o)∧Hid (∀x,o x=ini (toN F) k x)) (fun i _=>F.length-(intOf i).toNat)
      case atStart=>exact⟨0,_,Nat.zero_le _,rfl,Kp.refl _ _,hR3,fun _=>rfl⟩
      case round =>
       obtain⟨k,o,hk,rfl,hK,hR,ho⟩:=hrel;clear hR3;have hBk:Hid (Below w.heap.size w wr):=hK.out.to_below hB3.out fun x hx=>by rw[List.mem_singleton.1 hx];omega
       by_cases hlt:k<F.length
       · obtain ⟨p,hp1,hp2,hp3⟩:=toN_at hL.out hlt;obtain⟨b1,o1,rfl,hb1,hc1⟩:=(hF.out.below hBk.out) (by omega);have e1:=hc1 k hlt;rw[hp1]at e1;have hpn:p<s.ps.length:=by omega
         have e2:=hR.out.cell p hpn;have e3:=hR.out.fr p;have hR2:=Lib.hid (hR.out.set hpn 0);have hK2:=Lib.hid (hK.out.set (a:=⟨b0,p,none⟩) (.int .i64 0) (.inl (List.mem_singleton.2 rfl)))
         have ho2:Hid (∀x,setI o p 0 x=ini (toN F) (k+1) x):=fun x=>by
          rw[←ini_succ hp3 x];unfold setI;rw[ho.out x]
         have j0:(0:Int)≤(k:Int):=by omega
         have j1:(k:Int)<(F.length:Int):=by omega
         have j2:(0:Int)≤(p:Int):=by omega
         clear hc1 hp1 hp3;go_wp2;exact⟨⟨k+1,_,by omega,by go_num,hK2,hR2,ho2⟩,by simp only[intOf];omega⟩
       · obtain rfl:k=F.length:=by omega
         have hX4:=Lib.hid (hX3.out.kp hK.out (by simp;omega))
         have ho3:Hid (∀x,o x=if x∈toN F then 0 else -1):=fun x=>by
          rw[ho.out x,←ini_all];have:(toN F).length=F.length:=by simp[toN]
          rw[this]
         have u0:=hX4.out.cell (j:=0) rfl;have u1:=hX4.out.cell (j:=1) rfl;have u2:=hX4.out.cell (j:=2) rfl;have u9:=hX4.out.lt;have ko:=Lib.hid (of_any s Ap Ac Av cp cc cv wr (hs.out.below hBk.out) (by omega) hc3 hin.out);have hF4:=Lib.hid (hF.out.below hBk.out);clear ho hK hX3 hB3 hF
         go_wp2_with fail
         refine ko.out.mono ?_;rintro e w4 ⟨⟨R,v,rfl,hG⟩,hb⟩;have hsz4:=hb.size;have hB4:Hid (Below w.heap.size w w4):=hBk.out.trans (hb.mono hBk.out.size);have hR4:=Lib.hid (hR.out.below hb);have hb0r:b0<w4.heap.size:=hR4.out.lt
         have hFn:F.length≤1000:=by
          have h1:=nodup_len s.ps.length (toN F) (toN_nodup hL.out) fun x hx=>toN_in hL.out hx;have h2:(toN F).length=F.length:=by simp[toN]
          omega
         have hF5:=Lib.hid (hF4.out.below hb)
         have kc:=Lib.hid (Clone_any Af cf F w4 hF5.out (fun x hx=>by
          obtain⟨i,hi,rfl⟩:=List.getElem_of_mem hx;exact(lst_at hL.out hi).1.1) hFn)
         have hGb:Hid (b0≠R∧∀i b,i<s.ps.length→(v i).ownBlock=some b→b∉[b0]):=by
          have h1:=hR.out.lt;have h2:=hG.lowR;refine⟨by omega,fun i b hi e hm=>?_⟩;have h3:=((hG.rows i hi).lt b e).1;rw[List.mem_singleton.1 hm]at h3;omega
         have hlR:=hG.lt;replace hG:=Lib.hid hG;have hbf:=Lib.hid (Bf.start (E:=edges s) (toN_nodup hL.out) (fun f hf=>toN_in hL.out hf) fun x _=>ho3.out x);have hbd:=Lib.hid (Bd.start (n:=s.ps.length) ho3.out);have hadj:Hid (∀p q,q∈adjO (edges s) (edges s).length p↔(p,q)∈edges s):=fun _ _=>mem_adjO
         have hal:Hid (∀p,(adjO (edges s) (edges s).length p).length≤300):=fun p=>by
          unfold adjO;rw[List.length_map];have h1:=List.length_filter_le (fun x:Nat×Nat=>decide (x.1=p)) ((edges s).take (edges s).length);have h2:((edges s).take (edges s).length).length≤(edges s).length:=List.length_take_le' _ _;have h3:(edges s).length=s.cap.length:=by simp[edges]
          omega
         obtain⟨adj,hadj0⟩:∃a,a=adjO (edges s) (edges s).length:=⟨_,rfl⟩;rw[←hadj0]at hG hadj hal;have hEnd:Hid (∀f,f∈toN F→f<s.ps.length):=fun f hf=>toN_in hL.out hf;obtain⟨i0,hi0,hzz⟩:=Option.map_eq_some_iff.1 infoIr;simp only[Prod.mk.injEq]at hzz;obtain⟨hz0,hz1,hz2⟩:=hzz;replace hi0:=Lib.hid hi0;replace hz0:=Lib.hid hz0;replace hz1:=Lib.hid hz1;replace hz2:=Lib.hid hz2;clear hb ko hR hBk u0 u1 u2 u9 hX4 hadj0 ho3 hF4 hF5 hin
         go_wp2_with fail
         refine kc.out.mono ?_;rintro e w5 ⟨⟨vq,rfl,hQ⟩,hb⟩;have hK5:=Lib.hid ((Kp.refl [b0] w4).below hb);have hR5:=Lib.hid (hR4.out.below hb);replace hQ:=Lib.hid hQ;clear hb kc hR4;go_wp2
         go_loopg [13] ((toN F).length+negs s.ps.length o) (fun m u wr=>∃(o:Nat→Int) (queue:List Nat),m=queue.length+negs s.ps.length o∧Hid (QIn wr w4.heap.size u queue)∧Hid (Kp [b0] w4 wr)∧Hid (RoI wr b0 s.ps.length o)∧Hid (Bf s.ps.length (edges s) (toN F) (fun _=>False) o queue)∧Hid (Bd s.ps.length o))
         case atStart=>exact⟨_,_,rfl,hQ,hK5,hR5,hbf,hbd⟩
         case round =>
          clear hQ hK5 hR5 hbf hbd;obtain⟨o1,queue,hm,hQ,hK,hR,hbf,hbd⟩:=hrel
          cases queue with
          | nil =>
            obtain⟨A,c,rfl⟩:=hQ.out.form;have hRk:Hid (RoI wr b0 s.ps.length (rk (edges s) (toN F))):=hR.out.congr fun x hx=>hbf.out.end hEnd.out hin2.out hx;have hBr:Hid (Below w.heap.size w wr):=hK.out.to_below hB4.out fun x hx=>by rw[List.mem_singleton.1 hx];omega
            clear hQ hm;go_wp2;go_ret2;exact hGood.out _ _ b0 rfl (by omega) hRk.out hBr.out
          | cons p queue =>
            obtain⟨g,of,cap,rfl,_,_,hcap,hcell,_⟩:=hQ.out.head;have hpn:=(hbf.out.pos p (List.mem_cons_self ..)).1;have hGw:=hG.out.kp hK.out (by simp;exact fun e=>hGb.out.1 e.symm) hGb.out.2;have d1:=hGw.hd p hpn;have hlRw:=hGw.lt;obtain⟨A,cr,hvp,hrow⟩:=own_in (hG.out.rows p hpn);rw[hvp]at d1;have hBq:=Lib.hid (Bq.start hbf.out);have hm2:Hid (queue.length+negs s.ps.length o1<gk):=by rw[hm];simp only[List.length_cons];unfold Hid;omega
            have hall:=Lib.hid (fun q (h:(p,q)∈edges s)=>(hadj.out p q).2 h);have hins:=Lib.hid (fun q (h:q∈adj p)=>(hadj.out p q).1 h);have halp:=hal.out p
            have hgr:Hid (∀j (hj:j<(adj p).length),∃gg,A=some ⟨gg,0,none⟩∧gg<w4.heap.size∧gg∉[b0]∧w4.cell? ⟨gg,j,none⟩=some (.int .i64 ((adj p)[j]:Int))):=fun j hj=>by
             obtain⟨gg,hA,h1,h2⟩:=hrow j hj;exact⟨gg,hA,h1,hGb.out.2 p gg hpn (by rw[hvp,hA];rfl),h2⟩
            have p0:(0:Int)≤(p:Int):=by omega
            have p1:(p:Int)<(s.ps.length:Int):=by omega
            have q0:(0:Int)<(queue.length:Int)+1:=by omega
            clear hGw hvp hrow hm hbf;go_wp2
            go_loopw [13,81] (fun u ix wz=>∃(j:Nat) (o2:Nat→Int) (q2:List Nat) (A2:Option Addr) (c2:Nat),j≤(adj p).length∧u=.slice A2 (q2.length+1) c2∧ix=.int .i64 (j:Int)∧Hid (QIn wz w4.heap.size (.slice A2 (q2.length+1) c2) (p::q2))∧Hid (Kp [b0] w4 wz)∧Hid (RoI wz b0 s.ps.length o2)∧Hid (Bq s.ps.length (edges s) (toN F) p (o1 p) ((adj p).take j) o2 q2)∧Hid (Bd s.ps.length o2)∧Hid (q2.length+negs s.ps.length o2≤queue.length+negs s.ps.length o1)) (fun _ ix _=>(adj p).length-(intOf ix).toNat)
            case atStart=>exact⟨0,o1,queue,_,_,Nat.zero_le _,rfl,rfl,hQ,hK,hR,hBq,hbd,Nat.le_refl _⟩
            case round =>
             clear hQ hK hR hBq hbd;obtain⟨j,o2,q2,A2,c2,hj,rfl,rfl,hQ,hK,hR,hBq,hbd,hme⟩:=hrel
             by_cases hjl:j<(adj p).length
             · obtain ⟨gg,rfl,hgl,hgx,hgc⟩:=hgr.out j hjl;have e1:=(World.cell?_of_block (a:=⟨gg,j,none⟩) (hK.out.block gg hgl hgx)).trans hgc;have hpq:=hins.out _ (List.getElem_mem hjl);have htk:(adj p).take (j+1)=(adj p).take j++[(adj p)[j]]:=List.take_succ_eq_append_getElem hjl;obtain⟨q,hqe⟩:∃x,x=(adj p)[j]:=⟨_,rfl⟩;rw[←hqe]at e1 hpq htk;have hqn:q<s.ps.length:=(hin2.out _ hpq).2;have e2:=hR.out.cell q hqn;have j0:(0:Int)≤(j:Int):=by omega
               have j1:(j:Int)<((adj p).length:Int):=by omega
               have j2:(0:Int)≤(q:Int):=by omega
               have j3:(q:Int)<(s.ps.length:Int):=by omega
               clear hqe hgc hgr
               by_cases hneg:o2 q<0
               · have m1:decide (o2 q<0)=true:=decide_eq_true hneg;have hpn2:=hBq.out.here;have hcur:=hBq.out.cur;have hv0:=hBq.out.v0;have e3:=hR.out.cell p hpn2;have e4:=hR.out.fr q;have hbdp:=hbd.out p hpn2;have jw:IntKind.i64.wrap (o2 p+1)=o2 p+1:=IntWalk.i64_in _ (by omega);have hR2:=Lib.hid (hR.out.set hqn (o2 p+1));have hK2:=Lib.hid (hK.out.set (a:=⟨b0,q,none⟩) (.int .i64 (o2 p+1)) (.inl (List.mem_singleton.2 rfl)));have hqb:(Value.slice A2 (q2.length+1) c2).ownBlock≠some b0:=fun e=>by have:=(hQ.out.block e).1;omega
                 have hQ2:=Lib.hid (hQ.out.set (a:=⟨b0,q,none⟩) hqb (.int .i64 (o2 p+1)))
                 have hBq2:Hid (Bq s.ps.length (edges s) (toN F) p (o1 p) ((adj p).take (j+1)) (setI o2 q (o2 p+1)) (q2++[q])):=by
                  rw[hcur,htk];exact hBq.out.set hqn hpq hneg
                 have hbd2:=Lib.hid (hbd.out.set hpn2 hqn hneg (by omega));have hng:=negs_set hqn hneg (v:=o2 p+1) (by omega)
                 have hme2:Hid ((q2++[q]).length+negs s.ps.length (setI o2 q (o2 p+1))≤queue.length+negs s.ps.length o1):=by
                  have h:=hme.out;unfold Hid;rw[List.length_append,List.length_singleton];omega
                 have hQ3:=Lib.hid (hQ2.out.alloc (.cells #[.int .i64 (q:Int)] 3));have hR3:=Lib.hid (hR2.out.alloc (.cells #[.int .i64 (q:Int)] 3));have hK3:=Lib.hid (hK2.out.alloc (.cells #[.int .i64 (q:Int)] 3));have hsz1:w4.heap.size≤((wr.setCell ⟨b0,q,none⟩ (.int .i64 (o2 p+1))).alloc (.cells #[.int .i64 (q:Int)] 3)).heap.size:=hK3.out.size
                 have hlen:(p::q2).length+1≤400:=by
                  have h1:=nodup_len s.ps.length (p::q2) (List.nodup_cons.2 ⟨hBq.out.off,hBq.out.inv.nodup⟩) fun x hx=>by
                   rcases List.mem_cons.1 hx with rfl | hx
                   · exact hpn2
                   · exact(hBq.out.inv.pos x hx).1
                  omega
                 replace hlen:=Lib.hid hlen;replace hsz1:=Lib.hid hsz1;have hbb:Hid (∀b,(Value.slice A2 (q2.length+1) c2).ownBlock=some b→b∈[b0]∨w4.heap.size≤b):=fun b e=>.inr (hQ.out.block e).1;have hqb':=Lib.hid hqb;clear hR hK hQ hbdp hcur hv0 hng hqb hneg
                 have had:Hid (((wr.setCell ⟨b0,q,none⟩ (.int .i64 (o2 p+1))).alloc (.cells #[.int .i64 (q:Int)] 3)).cell? ⟨wr.heap.size,0,none⟩=some (.int .i64 (q:Int))):=by
                  have h:=head1 (wr.setCell ⟨b0,q,none⟩ (.int .i64 (o2 p+1))) (.int .i64 (q:Int)) 3
                  rwa [World.size_setCell]at h
                 go_wp2_with (at_builtin;refine wpList_append_queue _ rfl _ _ 26 rfl w4.heap.size 3 i0 (.int .i64 0) 8 Tryz.underlying26 hi0.out hz0.out hz1.out hz2.out rfl (.slice A2 (q2.length+1) c2) (p::q2) q rfl hQ3.out hsz1.out ⟨wr.heap.size,0,none⟩ 1 rfl had.out (by have:=hlen.out;omega) (by have:=hlen.out;unfold maxLen;omega) ?_;intro vb wb hqq hgb hnb;have hK9:=Lib.hid (hK3.out.grown hgb hbb.out);have hR9:=Lib.hid (hR3.out.grown hgb hqb'.out);obtain⟨A9,c9,rfl⟩:=hqq.form;replace hqq:=Lib.hid hqq;clear hgb hnb)
                 exact⟨⟨j+1,_,q2++[q],A9,c9,by omega,by rw[List.length_append,List.length_singleton],by go_num,by have h:=hqq.out;unfold Hid;simpa using h,hK9,hR9,hBq2,hbd2,hme2⟩,by simp only[intOf];omega⟩
               · have m1:decide (o2 q<0)=false:=decide_eq_false hneg;have hBq2:=Lib.hid (hBq.out.skip hqn (by omega));rw[←htk]at hBq2;clear htk hpq;go_wp2;exact⟨⟨j+1,o2,q2,_,_,by omega,rfl,by go_num,hQ,hK,hR,hBq2,hbd,hme⟩,by simp only[intOf];omega⟩
             · obtain rfl:j=(adj p).length:=by omega
               have hbf:=Lib.hid (hBq.out.end fun q hq=>by rw[List.take_length];exact hall.out q hq);obtain⟨g9,o9,c9,he,_,_,hc9,_,hq9⟩:=hQ.out.head;injection he with he1 _ he3;subst he1 he3;have hm3:q2.length+negs s.ps.length o2<gk:=Nat.lt_of_le_of_lt hme.out hm2.out;have z1:(1:Int)≤(q2.length:Int)+1:=by omega
               have z2:(q2.length:Int)+1≤(c2:Int):=by omega
               replace hbd:=Lib.hid hbd.out;clear hBq hQ hme hm2 hall hins hgr
               by_cases hc1:c2=1
               · subst hc1;have h0:q2=[]:=List.length_eq_zero_iff.1 (by omega);subst h0;rw[if_pos rfl]at hq9;replace hq9:Hid (QIn wr w4.heap.size (.slice (some ⟨g9,o9,none⟩) 0 0) []):=hq9;go_wp2
                 go_roundg (negs s.ps.length o2)
                 case measure=>simpa using hm3
                 case rel=>exact⟨o2,[],by simp,hq9,hK,hR,hbf,hbd⟩
               · rw[if_neg hc1]at hq9;replace hq9:=Lib.hid hq9;go_wp2
                 go_roundg (q2.length+negs s.ps.length o2)
                 case measure=>exact hm3
                 case rel=>exact⟨o2,q2,rfl,hq9,hK,hR,hbf,hbd⟩
end Ci
end
section
open Go.RowKit Go.Shelf
namespace Ci
open Nt
open Classical
noncomputable def compsI (s:SR):List (List Int):=(comps s.ps.length (edges s)).map fun l=>l.map fun(q:Nat)=>(q:Int)
def CmPost (s:SR) (w:World) (e:Ending) (w':World):Prop :=
 (if soundB s=true then ∃A c l,e=.returned (.tuple #[.slice A l.length c,.int .i64 0])∧InLs w' A l∧bare l=compsI s
   else e=.returned (.tuple #[.slice none 0 0,.int .i64 1]))∧Below w.heap.size w w'
theorem Components_any (s:SR) (Ap Ac Av:Option Addr) (cp cc cv:Nat) (w:World) (hE:Env w) (hs:StIn w s Ap Ac Av) (hc3:s.cap.length≤300) :
 Calls Tryz.prog 45 #[.agg #[.slice Ap s.ps.length cp,.slice Ac s.cap.length cc,.slice Av s.vot.length cv]] w (CmPost s w):=by
 have hX0:Hid (Bk (w.alloc (.cells #[.slice Ap s.ps.length cp,.slice Ac s.cap.length cc,.slice Av s.vot.length cv] 25)) w.heap.size 25 (SC s Ap Ac Av cp cc cv)):=Bk.new w _ _;have hB0:Hid (Below w.heap.size w (w.alloc (.cells #[.slice Ap s.ps.length cp,.slice Ac s.cap.length cc,.slice Av s.vot.length cv] 25))):=(Below.refl _ w).alloc (Nat.le_refl _) _;have hmm:=@run_makeMap Tryz.prog;have u0:=hX0.out.cell (j:=0) rfl;have u1:=hX0.out.cell (j:=1) rfl;have u2:=hX0.out.cell (j:=2) rfl;have u9:=hX0.out.lt;obtain⟨wa,hwa⟩:∃x,x=w.alloc (.cells #[.slice Ap s.ps.length cp,.slice Ac s.cap.length cc,.slice Av s.vot.length cv] 25):=⟨_,rfl⟩;have ks:=Sound_any s Ap Ac Av cp cc cv (w.alloc (.cells #[.slice Ap s.ps.length cp,.slice Ac s.cap.length cc,.slice Av s.vot.length cv] 25)) (hE.below hB0.out) (hs.below hB0.out);have hsz0:(w.alloc (.cells #[.slice Ap s.ps.length cp,.slice Ac s.cap.length cc,.slice Av s.vot.length cv] 25)).heap.size=w.heap.size+1:=by simp
 rw[←hwa]at hX0 hB0 u0 u1 u2 u9 ks hsz0
 cases hsd:soundB s with
 | false =>
   have hBad:Hid (∀e w',e=.returned (.tuple #[.slice none 0 0,.int .i64 1])→Below w.heap.size w w'→CmPost s w e w'):=fun e w' h2 h3=>⟨by rw[if_neg (by rw[hsd];simp)];exact h2,h3⟩;rw[hsd]at ks;replace ks:=Lib.hid ks;replace hs:=Lib.hid hs;clear hmm;subst hwa;go_enter Tryz.func45,Tryz.ntmps45
   go_wp2_with fail
   refine ks.out.mono ?_;rintro e w2 ⟨rfl,hb⟩;have hB2:=Lib.hid (hB0.out.trans (hb.mono hB0.out.size));clear hb;go_wp2;go_ret2;exact hBad.out _ _ rfl hB2.out
 | true =>
   have hn60:s.ps.length≤60:=by
    have h:=hsd;unfold soundB at h;simp only[Bool.and_eq_true,decide_eq_true_eq]at h;exact h.2.1
   have hin:Hid (∀x,x∈s.cap→(0≤x.1∧x.1<s.ps.length)∧(0≤x.2.1∧x.2.1<s.ps.length)):=fun x hx=>by
    have h:=hsd;unfold soundB at h;simp only[Bool.and_eq_true]at h;obtain⟨i,hi,rfl⟩:=List.getElem_of_mem hx;exact⟨(good_at h.2.2.1 hi).1.1,(good_at h.2.2.1 hi).1.2.1⟩
   have hin2:=Lib.hid (edges_in hsd);have hGood:Hid (∀e w' A c k l,e=.returned (.tuple #[.slice A k c,.int .i64 0])→k=List.length l→InLs w' A l→bare l=compsI s→Below w.heap.size w w'→CmPost s w e w'):=fun e w' A c k l h1 hk h2 h3 h4=>⟨by rw[if_pos hsd];exact⟨A,c,l,by rw[←hk];exact h1,h2,h3⟩,h4⟩;rw[hsd]at ks;replace ks:=Lib.hid ks;replace hs:=Lib.hid hs;replace hsd:=Lib.hid hsd;have hmk:=run_make_row' (P:=Tryz.prog) 26 3 (.int .i64 0) 8 Tryz.underlying26 infoIr rfl .i64 .i64 s.ps.length (by omega) (by omega);have ho2:=Lib.hid (fun w2 h=>of_any s Ap Ac Av cp cc cv w2 h (by omega) hc3 hin.out)
   have hal:Hid (∀p,(adjO (edges s) (edges s).length p).length≤300):=fun p=>by
    unfold adjO;rw[List.length_map];have h1:=List.length_filter_le (fun x:Nat×Nat=>decide (x.1=p)) ((edges s).take (edges s).length);have h2:((edges s).take (edges s).length).length≤(edges s).length:=List.length_take_le' _ _;have h3:(edges s).length=s.cap.length:=by simp[edges]
    omega
   have hadj:Hid (∀p q,q∈adjO (edges s) (edges s).length p↔(p,q)∈edges s):=fun _ _=>mem_adjO
   have hres:Hid (compsI s=(ords s.ps.length (edges s)).map fun p=>(comp s.ps.length (edges s) p).map fun(q:Nat)=>(q:Int)):=by
    unfold Hid compsI comps;rw[List.map_map];rfl
   obtain⟨E,hE0⟩:∃E,E=edges s:=⟨_,rfl⟩;obtain⟨adj,hadj0⟩:∃a,a=adjO (edges s) (edges s).length:=⟨_,rfl⟩;rw[←hadj0]at ho2 hal hadj;rw[←hE0]at hin2 hadj hres;clear hE0 hadj0;obtain⟨i0,hi0,hzz⟩:=Option.map_eq_some_iff.1 infoIr;simp only[Prod.mk.injEq]at hzz;obtain⟨hz0,hz1,hz2⟩:=hzz;replace hi0:=Lib.hid hi0;replace hz0:=Lib.hid hz0;replace hz1:=Lib.hid hz1;replace hz2:=Lib.hid hz2;subst hwa;go_enter Tryz.func45,Tryz.ntmps45
   go_wp2_with fail
   refine ks.out.mono ?_;rintro e w2 ⟨rfl,hb⟩;have hB2:=Lib.hid (hB0.out.trans (hb.mono hB0.out.size));have hX2:=Lib.hid (hX0.out.below hb);have kg:=Lib.hid (ho2.out w2 (hs.out.below hB2.out));clear hb ks hB0 hX0 u0 u1 u2 u9 ho2;have u0:=hX2.out.cell (j:=0) rfl;have u1:=hX2.out.cell (j:=1) rfl;have u2:=hX2.out.cell (j:=2) rfl;have u9:=hX2.out.lt
   go_wp2_with fail
   refine kg.out.mono ?_;rintro e w3 ⟨⟨R,vg,rfl,hG⟩,hb⟩;have hB3:=Lib.hid (hB2.out.trans (hb.mono hB2.out.size));clear hb kg hB2 hX2 u0 u1 u2 u9;have kt:=Lib.hid (turned_any R s.ps.length w2.heap.size vg adj w3 (by omega) (fun p _=>by have:=hal.out p;omega) (fun p q _ h=>(hin2.out _ ((hadj.out p q).1 h)).2) hG);replace hG:=Lib.hid hG
   go_wp2_with fail
   refine kt.out.mono ?_;rintro e w4 ⟨⟨R2,vb,T,rfl,hG2,hT⟩,hb⟩;have hB4:=Lib.hid (hB3.out.trans (hb.mono hB3.out.size));have hG4:=Lib.hid (hG.out.below hb)
   have hTm:Hid (∀p q,p<s.ps.length→(q∈T p↔(p,q)∈revE E)):=fun p q hp=>by
    rw[hT.1 p q hp,mem_revE,←hadj.out];constructor
    · rintro(⟨_,h⟩ | ⟨_,h⟩)
      · exact h
      · simp at h
    · intro h;exact .inl ⟨(hin2.out _ ((hadj.out q p).1 h)).1,h⟩
   have hTl:Hid (∀p,(T p).length≤60000):=fun p=>by have:=hT.2 p;omega
   replace hG2:=Lib.hid hG2;clear hb kt hB3 hG hT;have hP0:=Lib.hid (P1.start E s.ps.length w4 3);have hBc:Hid (Below w.heap.size w (((w4.alloc (.map #[] 0)).alloc (.cells (madeCells #[.int .i64 0] s.ps.length) 3)).alloc (.map #[] 0))):=((hB4.out.alloc hB4.out.size _).alloc (by have:=hB4.out.size;simp;omega) _).alloc (by have:=hB4.out.size;simp;omega) _;have hBd:Hid (Below w4.heap.size w4 (((w4.alloc (.map #[] 0)).alloc (.cells (madeCells #[.int .i64 0] s.ps.length) 3)).alloc (.map #[] 0))):=(((Below.refl _ w4).alloc (Nat.le_refl _) _).alloc (by simp) _).alloc (by simp<;>omega) _;have hszc:Hid ((((w4.alloc (.map #[] 0)).alloc (.cells (madeCells #[.int .i64 0] s.ps.length) 3)).alloc (.map #[] 0)).heap.size=w4.heap.size+3):=by unfold Hid;simp
   have hGs:Hid (R<w4.heap.size∧R2<w4.heap.size∧(∀i b,i<s.ps.length→(vg i).ownBlock=some b→b<w4.heap.size)∧(∀i b,i<s.ps.length→(vb i).ownBlock=some b→b<w4.heap.size)) :=
    ⟨hG4.out.lt,hG2.out.lt,fun i b hi e=>((hG4.out.rows i hi).lt b e).2,fun i b hi e=>((hG2.out.rows i hi).lt b e).2⟩
   have hGa:=Lib.hid (hG4.out.below hBd.out);have hGb:=Lib.hid (hG2.out.below hBd.out);have hSw:w.heap.size≤w4.heap.size:=hB4.out.size;go_wp2;obtain⟨w0,hw0⟩:∃x,x=(((w4.alloc (.map #[] 0)).alloc (.cells (madeCells #[.int .i64 0] s.ps.length) 3)).alloc (.map #[] 0)):=⟨_,rfl⟩;rw[←hw0]at hP0 hBc hszc hGa hGb ⊢;obtain⟨S,hS⟩:∃x,x=w4.heap.size:=⟨_,rfl⟩;rw[←hS]at hP0 hszc hGs hSw ⊢;clear hmk hmm hBd hG4 hG2 hw0 hS hB4
   go_loopw [37] (fun ix wr=>∃(p:Nat) (v:Nat→Value) (F:Nat→Int),p≤s.ps.length∧ix=.int .i64 (p:Int)∧Hid (P1 E s.ps.length w0 S p 0 v F wr)) (fun ix _=>s.ps.length-(intOf ix).toNat)
   case atStart=>exact⟨0,_,_,Nat.zero_le _,rfl,hP0⟩
   case round =>
    obtain⟨p,v,F,hp,rfl,hP⟩:=hrel;clear hP0
    by_cases hpn:p<s.ps.length
    · have hlk:=hP.out.look hpn (by omega);have p0:(0:Int)≤(p:Int):=by omega
      have p1:(p:Int)<(s.ps.length:Int):=by omega
      by_cases hfp:fst E p=p
      · rw [bV_false (fun c=>c hfp)]at hlk;have hGw:=hGa.out.kp hP.out.kp (by have:=hGs.out.1;simp;omega) (fun i b hi e=>by have:=hGs.out.2.2.1 i b hi e;simp;omega);have k1:=Lib.hid (reached_any E R s.ps.length _ p vg adj wr (by omega) (fun x q _=>hadj.out x q) hin2.out (fun x _=>by have:=hal.out x;omega) hpn hGw);replace hfp:=Lib.hid hfp;clear hGw
        go_wp2_with fail
        refine k1.out.mono ?_;rintro e w5 ⟨⟨m1,rfl,hm1,hRe1⟩,hb⟩;have hP5:=Lib.hid (hP.out.below hb);have hm1b:S+3≤m1:=by have:=hP.out.kp.size;have:=hszc.out;omega
        clear hb hm1 hP k1 hlk;have hGw:=hGb.out.kp hP5.out.kp (by have:=hGs.out.2.1;simp;omega) (fun i b hi e=>by have:=hGs.out.2.2.2 i b hi e;simp;omega);have k2:=Lib.hid (reached_any (revE E) R2 s.ps.length _ p vb T w5 (by omega) (fun x q hx=>hTm.out x q hx) (revE_in hin2.out) (fun x _=>by have:=hTl.out x;omega) hpn hGw);replace hRe1:=Lib.hid hRe1;clear hGw
        go_wp2_with fail
        refine k2.out.mono ?_;rintro e w6 ⟨⟨m2,rfl,hm2,hRe2⟩,hb⟩;have hP6:=Lib.hid (hP5.out.below hb);have hRe1':=Lib.hid (hRe1.out.below hb);have hm2b:S+3≤m2:=by have:=hP5.out.kp.size;have:=hszc.out;omega
        replace hRe2:=Lib.hid hRe2;clear hb hm2 hP5 hRe1 k2
        have hv6:Hid (∀b,(v p).ownBlock=some b→w6.heap.size≤b):=fun b e=>by
         rw[hP6.out.lm.nil p hpn (by unfold lsQ;rw[if_pos rfl,part_zero])]at e
         cases e
        have hK6:Hid (Kp [S,S+1,S+1+1] w6 w6):=Kp.refl _ _;go_wp2
        go_loopw [51] (fun ix wz=>∃(q:Nat) (v2:Nat→Value) (F2:Nat→Int),q≤s.ps.length∧ix=.int .i64 (q:Int)∧Hid (P1 E s.ps.length w0 S p q v2 F2 wz)∧Hid (Kp [S,S+1,S+1+1] w6 wz)∧Hid (∀b,(v2 p).ownBlock=some b→w6.heap.size≤b)) (fun ix _=>s.ps.length-(intOf ix).toNat)
        case atStart=>exact⟨0,v,F,Nat.zero_le _,rfl,hP6,hK6,hv6⟩
        case round =>
         obtain⟨q,v2,F2,hq,rfl,hP,hK,hv⟩:=hrel;clear hP6 hK6 hv6
         by_cases hqn:q<s.ps.length
         · have hl1:=(hRe1'.out.kp hK.out (by simp;omega)).look hqn (by omega);have hl2:=(hRe2.out.kp hK.out (by simp;omega)).look hqn (by omega);have q0:(0:Int)≤(q:Int):=by omega
           have q1:(q:Int)<(s.ps.length:Int):=by omega
           by_cases hr1:Reach E p q
           · rw [bV_true hr1]at hl1
             by_cases hr2:Reach E q p
             · rw [bV_true (reach_rev.2 hr2)]at hl2;obtain⟨W1,hrun1,_,hR1,hst⟩:=hP.out.step hszc.out ⟨hr1,hr2⟩ hpn hqn (by omega) hfp.out;obtain⟨hlk2,hsz2,hst2⟩:=hst _ rfl;obtain⟨hrow,hst3⟩:=hst2 _ rfl;have c1:=hR1.cell q hqn;have c2:=hR1.fr q;have c3:=hR1.lt
               have had:Hid (∀j u,[(Value.int .i64 (q:Int))][j]? = some u→((W1.setCell ⟨S+1,q,none⟩ (.int .i64 (p:Int))).alloc (.cells #[.int .i64 (q:Int)] 3)).cell? (Addr.add ⟨W1.heap.size,0,none⟩ j)=some u):=by
                have h:=head_new (W1.setCell ⟨S+1,q,none⟩ (.int .i64 (p:Int))) (.int .i64 (q:Int)) 3
                rwa [World.size_setCell]at h
               have hls:Hid ((lsQ E s.ps.length p q p).length≤100):=by
                unfold Hid lsQ;rw[if_pos rfl];unfold part;have h:=List.length_filter_le (fun y=>decide (Mut E p y)) (List.range q);rw[List.length_range]at h;omega
               have hbs:Hid (w0.heap.size≤((W1.setCell ⟨S+1,q,none⟩ (.int .i64 (p:Int))).alloc (.cells #[.int .i64 (q:Int)] 3)).heap.size):=by
                have h1:=hP.out.kp.size;unfold Hid;rw[World.size_alloc];omega
               obtain⟨vp,hvp⟩:∃x,x=v2 p:=⟨_,rfl⟩;rw[←hvp]at hlk2 hrow hst3;rw[←hvp]at hv;replace hvp:=Lib.hid hvp;replace hrow:=Lib.hid hrow;replace hst3:=Lib.hid hst3;clear hP hst hst2 hR1 hr1 hr2 hsz2
               go_wp2_with (at_builtin;refine wpList_append_new _ rfl _ _ 26 rfl w0.heap.size 3 i0 (.int .i64 0) 1 8 Tryz.underlying26 hi0.out hz0.out hz1.out hz2.out rfl (by decide) vp _ _ rfl hrow.out ⟨W1.heap.size,0,none⟩ 1 1 [.int .i64 (q:Int)] rfl rfl had.out (one_cell1 _ rfl) (by decide) (by have:=hls.out;unfold maxLen;omega) (by have:=hls.out;omega) hbs.out ?_;intro vb9 wb9 ho9 hg9 hn9;obtain⟨W4,hrun4,hP4,hK4⟩:=hst3.out vb9 wb9 ho9 hg9 (by simpa using hn9);obtain⟨hK5,hv5⟩:=hK4 w6 hK.out hv.out;replace hP4:=Lib.hid hP4;replace hK5:=Lib.hid hK5;replace hv5:=Lib.hid hv5;clear ho9 hg9 hn9 hK4)
               exact⟨⟨q+1,_,_,by omega,by go_num,hP4,hK5,fun b e=>hv5.out b (by simpa using e)⟩,by simp only[intOf];omega⟩
             · rw[bV_false (fun c=>hr2 (reach_rev.1 c))]at hl2;have hP2:=Lib.hid (hP.out.skip fun c=>hr2 c.2);clear hP hr1 hr2;go_wp2;exact⟨⟨q+1,v2,F2,by omega,by go_num,hP2,hK,hv⟩,by simp only[intOf];omega⟩
           · rw[bV_false hr1]at hl1;have hP2:=Lib.hid (hP.out.skip fun c=>hr1 c.1);clear hP hr1 hl2;go_wp2;exact⟨⟨q+1,v2,F2,by omega,by go_num,hP2,hK,hv⟩,by simp only[intOf];omega⟩
         · obtain rfl:q=s.ps.length:=by omega
           have hP2:=Lib.hid (hP.out.next hfp.out hpn (by omega));clear hP;go_wp2;exact⟨⟨p+1,v2,F2,by omega,by go_num,hP2⟩,by simp only[intOf];omega⟩
      · rw[bV_true hfp]at hlk;have hP2:=Lib.hid (hP.out.had hfp);clear hfp hP;go_wp2;exact⟨⟨p+1,v,F,by omega,by go_num,hP2⟩,by simp only[intOf];omega⟩
    · obtain rfl : p = s.ps.length:=by omega
      obtain⟨w7,hw7⟩:∃x,x=wr:=⟨_,rfl⟩;subst hw7;have hQ0:=Lib.hid (P2.start hP.out hin2.out);have hF:Hid (∀x,x<s.ps.length→F x=(fst E x:Int)):=fun x hx=>hP.out.fs x hx (PL_all hx);have hro:=Lib.hid hP.out.ro
      have hrows:Hid (∀x,x∈leasts s.ps.length E→w7.ownsRow w0.heap.size 3 1 (v x) (comp s.ps.length E x).length (intsL (comp s.ps.length E x))):=fun x hx=>by
       have hxn:=(mem_leasts.1 hx).1;have h:=hP.out.lm.rows x hxn
       rwa [lsQ_zero,lsO_all hxn,if_pos hx]at h
      have hG7:=Lib.hid (hGb.out.kp hP.out.kp (by have:=hGs.out.2.1;simp;omega) (fun i b hi e=>by have:=hGs.out.2.2.2 i b hi e;simp;omega));have hB7:Hid (Below w.heap.size w w7):=hP.out.kp.to_below hBc.out fun x hx=>by simp at hx;omega
      have hS7:S<w7.heap.size:=by have:=hP.out.kp.size;have:=hszc.out;omega
      have hR27:Hid (R2∉[S]∧(∀i b,i<s.ps.length→(vb i).ownBlock=some b→b∉[S])∧S+1∉[S]∧∀x b,x∈leasts s.ps.length E→(v x).ownBlock=some b→b∉[S]):=by
       refine⟨by have:=hGs.out.2.1;simp;omega,fun i b hi e=>by have:=hGs.out.2.2.2 i b hi e;simp;omega,by simp,fun x b hx e=>?_⟩;have h1:=((hrows.out x hx).lt b e).1;have h2:=hszc.out;simp;omega
      clear hP hGb hGa hGs hBc hszc;go_wp2
      go_loopg [13] (leasts s.ps.length E).length (fun m u wz=>∃(A:Option Addr) (c:Nat) (pre left:List Nat),m=left.length∧u=.slice A pre.length c∧Hid (P2 E s.ps.length w7 S v pre left (.slice A pre.length c) wz))
      case atStart=>exact⟨none,0,[],_,rfl,rfl,hQ0⟩
      case round =>
       obtain⟨A,c,pre,left,hm,rfl,hP⟩:=hrel;clear hQ0;have hlen:=hP.out.len 3
       by_cases hl0:left=[]
       · subst hl0;have hord:Hid (ords s.ps.length E=pre):=hP.out.st.end
         have hpl:Hid (∀x,x∈pre→x∈leasts s.ps.length E):=fun x hx=>by
          have:=hP.out.st.had x hx;exact mem_leasts.2 ⟨this.1,this.2.1⟩
         have hLs:=Lib.hid (inLs_out (E:=E) (n:=s.ps.length) (by omega) hP.out.out fun p hp=>own_kp (hrows.out p (hpl.out p hp)) hP.out.kp fun b e=>hR27.out.2.2.2 p b (hpl.out p hp) e);have hBr:Hid (Below w.heap.size w wr):=hP.out.kp.to_below hB7.out fun x hx=>by simp at hx;omega
         have hlo:Hid (pre.length=(outL E s.ps.length v pre).length):=by unfold Hid outL;simp
         clear hm hP;go_wp2;go_ret2;exact hGood.out _ _ A c _ _ rfl hlo.out hLs.out (by rw[bare_outL,hres.out,hord.out]) hBr.out
       · have hl1 : 0 < (left.length:Int):=by have:=List.length_pos_iff.2 hl0;omega
         have hno0:Hid (∀x,x<0→x∈left→¬Free E left x):=fun x hx=>absurd hx (Nat.not_lt_zero _)
         have hleft:Hid (∀x,x∈left→x<s.ps.length∧x∈leasts s.ps.length E):=fun x hx=>by
          have:=hP.out.st.ok.own x hx;exact⟨this.1,mem_leasts.2 this⟩
         go_wp2;go_step3;go_wp2;go_step3;go_wp2
         go_loopw [13,83] (fun u ix wz=>∃p:Nat,p≤s.ps.length∧u=.slice A pre.length c∧ix=.int .i64 (p:Int)∧wz=wr∧Hid (∀x,x<p→x∈left→¬Free E left x)) (fun _ ix _=>s.ps.length-(intOf ix).toNat)
         case atStart=>exact⟨0,Nat.zero_le _,rfl,rfl,rfl,hno0⟩
         case round =>
          clear hno0 hlen;obtain⟨p,hp,rfl,rfl,hwz,hno⟩:=hrel;subst hwz
          by_cases hpn:p<s.ps.length
          · have hlk:=hP.out.look hpn (by omega);have p0:(0:Int)≤(p:Int):=by omega
            have p1:(p:Int)<(s.ps.length:Int):=by omega
            by_cases hpl:p∈left
            · rw [if_pos hpl,bV_true hpl]at hlk;obtain⟨hvp,hvc⟩:=own_inInt (own_kp (hrows.out p (hleft.out p hpl).2) hP.out.kp fun b e=>hR27.out.2.2.2 p b (hleft.out p hpl).2 e);rw[hvp]at hlk;have hpn2:=Lib.hid hpn
              have hcn:Hid ((comp s.ps.length E p).length≤s.ps.length):=by
               unfold Hid comp;have h:=List.length_filter_le (fun q=>decide (Mut E p q)) (List.range s.ps.length)
               rwa [List.length_range]at h
              have hcm:Hid (∀q,q∈comp s.ps.length E p→q<s.ps.length∧Mut E p q):=fun q hq=>mem_comp.1 hq;have hfr:Hid ((∀q,q∈comp s.ps.length E p→∀h,(h,q)∈E→fst E h∈left→fst E h=p)→Free E left p):=fun h=>(free_iff hin2.out).2 h;have hnf:Hid (∀h q,q∈comp s.ps.length E p→(h,q)∈E→fst E h∈left→fst E h≠p→¬Free E left p):=fun h q hq he hl hne hF2=>hne ((free_iff hin2.out).1 hF2 q hq h he hl);obtain⟨cmp,hcmp⟩:∃x,x=comp s.ps.length E p:=⟨_,rfl⟩;rw[←hcmp]at hlk hvp hvc hcn hcm hfr hnf;obtain⟨Ap2,hAp2⟩:∃x,x=slA (v p):=⟨_,rfl⟩;obtain⟨cp2,hcp2⟩:∃x,x=slC (v p):=⟨_,rfl⟩;rw[←hAp2,←hcp2]at hlk hvp;rw[←hAp2]at hvc;have hc0:Hid (∀q,q∈cmp.take 0→∀h,(h,q)∈E→fst E h∈left→fst E h=p):=fun q hq=>by simp at hq
              replace hvp:=Lib.hid hvp;replace hvc:=Lib.hid hvc;replace hcmp:=Lib.hid hcmp;clear hAp2 hcp2;go_wp2
              go_loopw [96] (fun ix wz=>∃j:Nat,j≤cmp.length∧ix=.int .i64 (j:Int)∧wz=wr∧Hid (∀q,q∈cmp.take j→∀h,(h,q)∈E→fst E h∈left→fst E h=p)) (fun ix _=>cmp.length-(intOf ix).toNat)
              case atStart=>exact⟨0,Nat.zero_le _,rfl,rfl,hc0⟩
              case round =>
               clear hc0 hlk;obtain⟨j,hj,rfl,hwz,hck⟩:=hrel;subst hwz
               by_cases hjl:j<cmp.length
               · obtain ⟨gp,op,rfl,hgl,hgc⟩:=hvc.out (by simpa using Nat.lt_of_le_of_lt (Nat.zero_le _) hjl);have e1:=hgc j (by simpa using hjl);simp only[List.getElem_map]at e1;have hqm:=Lib.hid (List.getElem_mem hjl);have htk:cmp.take (j+1)=cmp.take j++[cmp[j]]:=List.take_succ_eq_append_getElem hjl;obtain⟨q,hqe⟩:∃x,x=cmp[j]:=⟨_,rfl⟩;rw[←hqe]at e1 hqm htk;have hqn:q<s.ps.length:=(hcm.out q hqm.out).1;have hGw:=hG7.out.kp hP.out.kp hR27.out.1 hR27.out.2.1;have d1:=hGw.hd q hqn;have d2:=hGw.lt;obtain⟨A3,c3,hvq,hrow⟩:=own_in (hG7.out.rows q hqn);rw[hvq]at d1
                 have hgr:Hid (∀i (hi:i<(T q).length),∃gg,A3=some ⟨gg,0,none⟩∧wr.cell? ⟨gg,i,none⟩=some (.int .i64 ((T q)[i]:Int))∧gg<wr.heap.size):=fun i hi=>by
                  obtain⟨gg,hA,h1,h2⟩:=hrow i hi;exact⟨gg,hA,(World.cell?_of_block (a:=⟨gg,i,none⟩) (hP.out.kp.block gg h1 (hR27.out.2.1 q gg hqn (by rw[hvq,hA];rfl)))).trans h2,Nat.lt_of_lt_of_le h1 hP.out.kp.size⟩
                 have j0:(0:Int)≤(j:Int):=by omega
                 have j1:(j:Int)<(cmp.length:Int):=by omega
                 have j2:(0:Int)≤(q:Int):=by omega
                 have j3:(q:Int)<(s.ps.length:Int):=by omega
                 have hTq:Hid (∀h,h∈T q↔(h,q)∈E):=fun h=>by rw[hTm.out q h hqn,mem_revE]
                 have hTq2:=hTl.out q;have hz0:Hid (∀h,h∈(T q).take 0→fst E h∈left→fst E h=p):=fun h hh=>by simp at hh
                 replace htk:=Lib.hid htk;clear hGw hrow hvq hqe hgc;go_wp2
                 go_loopw [105] (fun ix wz=>∃i:Nat,i≤(T q).length∧ix=.int .i64 (i:Int)∧wz=wr∧Hid (∀h,h∈(T q).take i→fst E h∈left→fst E h=p)) (fun ix _=>(T q).length-(intOf ix).toNat)
                 case atStart=>exact⟨0,Nat.zero_le _,rfl,rfl,hz0⟩
                 case round =>
                  clear hz0;obtain⟨i,hi,rfl,hwz,hzk⟩:=hrel;subst hwz
                  by_cases hil:i<(T q).length
                  · obtain ⟨gg,rfl,hgc,hgl2⟩:=hgr.out i hil;have hhm:=(hTq.out _).1 (List.getElem_mem hil);have htk2:(T q).take (i+1)=(T q).take i++[(T q)[i]]:=List.take_succ_eq_append_getElem hil;obtain⟨h,hhe⟩:∃x,x=(T q)[i]:=⟨_,rfl⟩;rw[←hhe]at hgc hhm htk2;have hhn:h<s.ps.length:=(hin2.out _ hhm).1;have hrw:=hP.out.kp;have f1:=(hro.out.of_block hrw.size (hrw.block (S+1) hro.out.lt hR27.out.2.2.1)).cell h hhn;have f2:=(hro.out.of_block hrw.size (hrw.block (S+1) hro.out.lt hR27.out.2.2.1)).lt;rw[hF.out h hhn]at f1;have hlk2:=hP.out.look (fst_lt (E:=E) hhn) (by omega)
                    have hcl:fst E h∈left→fst E h=p∨¬Free E left p:=fun hl=>by
                     by_cases e:fst E h=p
                     · exact .inl e
                     · exact .inr (hnf.out h q hqm.out hhm hl e)
                    obtain⟨fh,hfh⟩:∃x,x=fst E h:=⟨_,rfl⟩
                    have hzn:Hid ((fh∈left→fh=p)→∀x,x∈(T q).take (i+1)→fst E x∈left→fst E x=p):=fun hx x hm hl=>by
                     rw[htk2]at hm
                     rcases List.mem_append.1 hm with hm | hm
                     · exact hzk.out x hm hl
                     · rw[List.mem_singleton.1 hm,←hfh]at hl ⊢;exact hx hl
                    have hfn:fh<s.ps.length:=by rw[hfh];exact fst_lt hhn
                    rw[←hfh]at f1 hlk2 hcl;have i0':(0:Int)≤(i:Int):=by omega
                    have i1':(i:Int)<((T q).length:Int):=by omega
                    have i2':(0:Int)≤(h:Int):=by omega
                    have i3':(h:Int)<(s.ps.length:Int):=by omega
                    clear hhe hfh htk2 hrw hgr
                    by_cases hfl:fh∈left
                    · rw [if_pos hfl,bV_true hfl]at hlk2
                      by_cases hfe:fh=p
                      · have m1:((fh:Int) != (p:Int))=false:=by rw[bne_eq_false_iff_eq];omega
                        have hz2:=Lib.hid (hzn.out fun _=>hfe);subst hfe;clear hcl hzn;go_wp2;exact⟨⟨i+1,by omega,by go_num,trivial,hz2⟩,by simp only[intOf];omega⟩
                      · have m1:((fh:Int) != (p:Int))=true:=by rw[bne_iff_ne];omega
                        have hno2:Hid (∀x,x<p+1→x∈left→¬Free E left x):=fun x hx hxl=>by
                         by_cases e:x=p
                         · subst e;exact(hcl hfl).resolve_left hfe
                         · exact hno.out x (by omega) hxl
                        replace hfe:=Lib.hid hfe;clear hcl hzn;go_wp2;exact⟨⟨p+1,by omega,rfl,by go_num,trivial,hno2⟩,by simp only[intOf];omega⟩
                    · rw[if_neg hfl,bV_false hfl]at hlk2;have hz2:=Lib.hid (hzn.out fun c=>absurd c hfl);clear hcl hzn;go_wp2;exact⟨⟨i+1,by omega,by go_num,trivial,hz2⟩,by simp only[intOf];omega⟩
                  · obtain rfl:i=(T q).length:=by omega
                    have hck2:Hid (∀q,q∈cmp.take (j+1)→∀h,(h,q)∈E→fst E h∈left→fst E h=p):=fun x hx h he hl=>by
                     rw[htk.out]at hx
                     rcases List.mem_append.1 hx with hx | hx
                     · exact hck.out x hx h he hl
                     · rw[List.mem_singleton.1 hx]at he;exact hzk.out h (by rw[List.take_length];exact(hTq.out h).2 he) hl
                    have hcn2:=hcn.out;clear hck hzk hgr;go_wp2;exact⟨⟨j+1,by omega,by go_num,trivial,hck2⟩,by simp only[intOf];omega⟩
               · obtain rfl:j=cmp.length:=by omega
                 have hFree:=hfr.out fun q hq=>hck.out q (by rw[List.take_length];exact hq)
                 have hpk:pick E left=some p:=pick_of hP.out.st.ok hpl hFree fun x hx hf=>by
                  by_cases c:p≤x
                  · exact c
                  · exact absurd hf (hno.out x (by omega) hx)
                 obtain⟨hrow,hsz,hst⟩:=hP.out.step hpk hpn (by omega) hS7;have hvp':=hvp.out;rw[hvp']at hrow hsz hst;have had:Hid (∀j u,[(Value.slice Ap2 cmp.length cp2)][j]? = some u→(wr.alloc (.cells #[.slice Ap2 cmp.length cp2] 26)).cell? (Addr.add ⟨wr.heap.size,0,none⟩ j)=some u):=head_new wr _ _
                 have hlp:Hid (pre.length≤100):=by
                  have h1:=nodup_len s.ps.length pre (hP.out.pre_nodup hin2.out) fun x hx=>(hP.out.st.had x hx).1;unfold Hid;omega
                 have hle:Hid ((left.erase p).length<gk):=by
                  rw[hm,List.length_erase_of_mem hpl];have:=List.length_pos_of_mem hpl;unfold Hid;omega
                 have hpl2:Hid ((pre++[p]).length=pre.length+1):=by unfold Hid;simp
                 obtain⟨g0,hg0,hgz⟩:=Option.map_eq_some_iff.1 infoG;simp only[Prod.mk.injEq]at hgz;obtain⟨gz0,gz1,gz2⟩:=hgz;replace hrow:=Lib.hid hrow;replace hsz:=Lib.hid hsz;replace hst:=Lib.hid hst;replace hg0:=Lib.hid hg0;replace gz0:=Lib.hid gz0;replace gz1:=Lib.hid gz1;replace gz2:=Lib.hid gz2;clear hck hFree hpk hvp' hP
                 go_wp2_with (at_builtin;refine wpList_append_new _ rfl _ _ 65 rfl w7.heap.size 26 g0 (.slice none 0 0) 1 24 Tryz.underlying65 hg0.out gz0.out gz1.out gz2.out rfl (by decide) (.slice A pre.length c) pre.length _ rfl hrow.out ⟨wr.heap.size,0,none⟩ 1 1 [.slice Ap2 cmp.length cp2] rfl rfl had.out (one_cell1 _ rfl) (by decide) (by have:=hlp.out;unfold maxLen;omega) (by have:=hlp.out;omega) hsz.out ?_;intro vb9 wb9 ho9 hg9 hn9;obtain⟨W4,hrun4,hP4⟩:=hst.out vb9 wb9 ho9 hg9;obtain⟨A9,c9,rfl⟩:=own_form ho9;replace hP4:=Lib.hid hP4;clear ho9 hg9 hn9)
                 rw[Exit.noGoto_normal];go_wp2
                 go_roundg (left.erase p).length
                 case measure=>exact hle.out
                 case rel=>exact⟨A9,c9,pre++[p],left.erase p,rfl,by rw[hpl2.out],by have h:=hP4.out;rwa [←hpl2.out]at h⟩
            · rw [if_neg hpl,bV_false hpl]at hlk
              have hno2:Hid (∀x,x<p+1→x∈left→¬Free E left x):=fun x hx hxl=>by
               by_cases e:x=p
               · subst e;exact absurd hxl hpl
               · exact hno.out x (by omega) hxl
              clear hpl;go_wp2;exact⟨⟨p+1,by omega,rfl,by go_num,trivial,hno2⟩,by simp only[intOf];omega⟩
          · exfalso;obtain⟨x,hx,hf⟩:=hP.out.st.ok.free hl0;exact hno.out x (by have:=(hleft.out x hx).1;omega) hx hf
end Ci
end
section
open Go.RowKit Go.Shelf
namespace Sh
open Nt Ci
theorem nextV_out {S:Rat→Bool} {L:List Lp} {u:List Nat} {val:Nat→Rat} {p:Nat} (h:p∉u):nextV S L u val p=val p:=by
 unfold nextV
 cases solveTo S u.length u.length (sysA L u val) with
 | ok M=>exact if_neg h
 | error _=>rfl
theorem mem_take1 {l:List Nat} {i x:Nat} (h:i<l.length):x∈l.take (i+1)↔x∈l.take i∨x=l[i]:=by
 rw[List.take_succ_eq_append_getElem h,List.mem_append,List.mem_singleton]
theorem runV_snoc {S:Rat→Bool} {L:List Lp} {u:List Nat}:∀(us:List (List Nat)) (val:Nat→Rat),runV S L (us++[u]) val=nextV S L u (runV S L us val)
 | [],_=>rfl
 | _::us,_=>runV_snoc us _
theorem Ready.take {L:List Lp} {F:List Nat}:∀{us:List (List Nat)} {done:List Nat} (k:Nat),Ready L F done us→Ready L F done (us.take k)
 | [],_,k,_=>by rw[List.take_nil];trivial
 | _::_,_,0,_=>trivial
 | _::us,_,k+1,h=>⟨h.1,Ready.take k h.2⟩
theorem Ready.at {L:List Lp} {F:List Nat}:∀{us:List (List Nat)} {done:List Nat} (k:Nat) (hk:k<us.length),Ready L F done us→Nxt L F (done++(us.take k).flatten) us[k]
 | u::us,done,0,_,h=>by simpa using h.1
 | u::us,done,k+1,hk,h=>by
   have:=Ready.at (done:=done++u) k (by simpa using hk) h.2
   simpa [List.append_assoc] using this
noncomputable def runAt (L:List Lp) (F:List Nat) (us:List (List Nat)) (k:Nat):Nat→Rat:=runV SQ L (us.take k) fun p=>if p∈F then 1 else 0
theorem runAt_succ {L:List Lp} {F:List Nat} {us:List (List Nat)} {k:Nat} (hk:k<us.length):runAt L F us (k+1)=nextV SQ L us[k] (runAt L F us k):=by
 unfold runAt;rw[List.take_succ_eq_append_getElem hk,runV_snoc]
theorem flat_take {us:List (List Nat)} {k:Nat} (hk:k<us.length):(us.take k).flatten.length+us[k].length≤us.flatten.length:=by
 have h:=congrArg (fun l=>(List.flatten l).length) (List.take_append_drop (k+1) us);simp only[List.flatten_append,List.length_append,List.take_succ_eq_append_getElem hk,List.flatten_cons,List.flatten_nil,List.append_nil]at h;omega
theorem runAt_inv {n:Nat} {L:List Lp} {F:List Nat} {us:List (List Nat)} (hL:Caps n L) (hr:Ready L F [] us) (h16:us.flatten.length≤16) (k:Nat) :
 ∃D,D≤6000^16∧Inv L F (us.take k).flatten (runAt L F us k) D:=by
 have hlen:(us.take k).flatten.length≤16:=by
  have h:=congrArg (fun l=>(List.flatten l).length) (List.take_append_drop k us);simp only[List.flatten_append,List.length_append]at h;omega
 obtain⟨D,hD⟩:=Inv.run hL SQ_fit (us.take k) [] _ 1 (Inv.start L F) (hr.take k) (by simpa using hlen);rw[List.nil_append]at hD;exact⟨D,Nat.le_trans hD.dle (Nat.pow_le_pow_right (by omega) hlen),hD⟩
theorem Inv.vals {L:List Lp} {F done:List Nat} {val:Nat→Rat} {D:Nat} (h:Inv L F done val D) (hD:D≤6000^16):Vals val D:=⟨h.rng,h.dp,hD,h.whole⟩
theorem runAt_next {L:List Lp} {F:List Nat} {us:List (List Nat)} (hr:Ready L F [] us) {k:Nat} (hk:k<us.length):Nxt L F (us.take k).flatten us[k]:=by
 have:=hr.at k hk
 rwa [List.nil_append]at this
noncomputable def midV (L:List Lp) (u:List Nat) (val:Nat→Rat) (i:Nat):Nat→Rat:=fun p=>if p∈u.take i then nextV SQ L u val p else val p
theorem mid_zero {L:List Lp} {u:List Nat} {val:Nat→Rat}:midV L u val 0=val:=by funext p;unfold midV;simp
theorem mid_succ {L:List Lp} {u:List Nat} {val:Nat→Rat} {i:Nat} (h:i<u.length) (x:Nat):(if x=u[i] then nextV SQ L u val u[i] else midV L u val i x)=midV L u val (i+1) x:=by
 unfold midV
 by_cases e:x=u[i]
 · rw[if_pos e,if_pos ((mem_take1 h).2 (.inr e)),e]
 · rw[if_neg e]
   by_cases e2:x∈u.take i
   · rw[if_pos e2,if_pos ((mem_take1 h).2 (.inl e2))]
   · rw[if_neg e2,if_neg fun c=>((mem_take1 h).1 c).elim e2 e]
theorem mid_all {L:List Lp} {u:List Nat} {val:Nat→Rat}:midV L u val u.length=nextV SQ L u val:=by
 funext p
 unfold midV;rw[List.take_length]
 by_cases e:p∈u
 · rw[if_pos e]
 · rw[if_neg e,nextV_out e]
noncomputable def iniV (F:List Nat) (k:Nat):Nat→Rat:=fun p=>if p∈F.take k then 1 else 0
theorem iniV_zero {F:List Nat}:iniV F 0=fun _=>0:=by funext p;unfold iniV;simp
theorem iniV_succ {F:List Nat} {k p:Nat} (h:F[k]? = some p) (x:Nat):(if x=p then (1:Rat) else iniV F k x)=iniV F (k+1) x:=by
 obtain⟨hk,rfl⟩:=List.getElem?_eq_some_iff.1 h;unfold iniV
 by_cases e:x=F[k]
 · rw[if_pos e,if_pos ((mem_take1 hk).2 (.inr e))]
 · rw[if_neg e]
   by_cases e2:x∈F.take k
   · rw[if_pos e2,if_pos ((mem_take1 hk).2 (.inl e2))]
   · rw[if_neg e2,if_neg fun c=>((mem_take1 hk).1 c).elim e2 e]
theorem iniV_all {L:List Lp} {F:List Nat} {us:List (List Nat)}:iniV F F.length=runAt L F us 0:=by
 funext p;unfold iniV runAt;rw[List.take_length,List.take_zero];rfl
theorem shbare_at {s:SR} {l:List (Option Addr×Nat×List Int)} (h:bare l=compsI s) {k:Nat} (hk:k<l.length):∃hc:k<(comps s.ps.length (edges s)).length,l[k].2.2=((comps s.ps.length (edges s))[k]).map fun(q:Nat)=>(q:Int):=by
 have hl:=congrArg List.length h;simp only[bare,compsI,List.length_map]at hl;refine⟨by omega,?_⟩;have h1:(bare l)[k]'(by simpa [bare] using hk)=(compsI s)[k]'(by simp[compsI];omega):=by simp only[h]
 simpa [bare,compsI] using h1
noncomputable def sysT (n:Nat) (E:List (Nat×Nat)) (F:List Nat) (t:Nat):List (List Nat):=((comps n E).take t).map (unk E F)
noncomputable def sysN (n:Nat) (E:List (Nat×Nat)) (F:List Nat) (t:Nat):List (List Nat):=(sysT n E F t).filter fun u=>decide (u≠[])
section
variable {n:Nat} {E:List (Nat×Nat)} {F:List Nat} {t:Nat}
theorem sysT_succ (h:t<(comps n E).length):sysT n E F (t+1)=sysT n E F t++[unk E F (comps n E)[t]]:=by
 unfold sysT;rw[List.take_succ_eq_append_getElem h,List.map_append,List.map_singleton]
theorem sysT_all:sysT n E F (comps n E).length=syst n E F:=by unfold sysT syst;rw[List.take_length]
theorem sysN_all:sysN n E F (comps n E).length=systs n E F:=by unfold sysN systs;rw[sysT_all]
theorem sysN_nil (h:t<(comps n E).length) (h0:unk E F (comps n E)[t]=[]):sysN n E F (t+1)=sysN n E F t:=by
 unfold sysN;rw[sysT_succ h,List.filter_append,h0];simp
theorem sysN_more (h:t<(comps n E).length) (h0:unk E F (comps n E)[t]≠[]):sysN n E F (t+1)=sysN n E F t++[unk E F (comps n E)[t]]:=by
 unfold sysN;rw[sysT_succ h,List.filter_append];simp[h0]
theorem sysT_flat:(sysT n E F t).flatten.length≤(syst n E F).flatten.length:=by
 have e:sysT n E F t=(syst n E F).take t:=by unfold sysT syst;rw[List.map_take]
 rw[e];have h:=congrArg (fun l=>(List.flatten l).length) (List.take_append_drop t (syst n E F));simp only[List.flatten_append,List.length_append]at h;omega
theorem reach_succ (h:t<(comps n E).length):(sysT n E F (t+1)).flatten.length=(sysT n E F t).flatten.length+(unk E F (comps n E)[t]).length:=by
 rw[sysT_succ h,List.flatten_append,List.length_append];simp
theorem sysN_len:(sysN n E F t).length≤t:=by
 unfold sysN sysT;refine Nat.le_trans (List.length_filter_le _ _) ?_;rw[List.length_map,List.length_take];omega
theorem big_many (h:t<(comps n E).length) (h8:8<(unk E F (comps n E)[t]).length):tooMany n E F=true:=by
 unfold tooMany;rw[Bool.or_eq_true,List.any_eq_true];refine .inl ⟨_,?_,decide_eq_true h8⟩;unfold syst;exact List.mem_map.2 ⟨_,List.getElem_mem h,rfl⟩
theorem sum_many (h:16<(sysT n E F (comps n E).length).flatten.length):tooMany n E F=true:=by
 unfold tooMany;rw[sysT_all]at h;rw[decide_eq_true h,Bool.or_true]
theorem sum_few (h:(sysT n E F (comps n E).length).flatten.length≤16) (h8:∀u,u∈sysT n E F (comps n E).length→u.length≤8):tooMany n E F=false:=by
 unfold tooMany;rw[sysT_all]at h h8;rw[decide_eq_false (by omega),Bool.or_false];refine Bool.eq_false_iff.2 fun c=>?_;obtain⟨u,hu,h9⟩:=List.any_eq_true.1 c;have:=of_decide_eq_true h9;have:=h8 u hu;omega
theorem unk_take {c:List Nat} {i:Nat} (h:i<c.length):unk E F (c.take (i+1))=unk E F (c.take i)++if 0<rk E F c[i] then [c[i]] else []:=by
 unfold unk;rw[List.take_succ_eq_append_getElem h,List.filter_append]
 congr 1
 by_cases d:0<rk E F c[i]
 · simp[d]
 · simp[d]
theorem shcomp_in {k i:Nat} (hE:InN n E) (hk:k<(comps n E).length) (hi:i<((comps n E)[k]).length):((comps n E)[k])[i]<n∧at' n E ((comps n E)[k])[i]=k:=by
 have hm:=List.getElem_mem hi
 have hall:∀q,q∈(comps n E)[k]→q<n:=by
  rw[comps_get];exact fun q hq=>(mem_comp.1 hq).1
 have h1:((comps n E)[k])[i]<n:=hall _ hm;exact⟨h1,((at_iff hE h1 hk).1 hm).symm⟩
theorem comps_lt (hE:InN n E) {t:Nat} (h:t<(comps n E).length):∀p,p∈(comps n E)[t]→p<n:=fun p hp=>by
 obtain⟨i,hi,rfl⟩:=List.getElem_of_mem hp;exact(shcomp_in hE h hi).1
theorem unk_len {c:List Nat}:(unk E F c).length≤c.length:=List.length_filter_le _ _
theorem mem_systs (hE:InN n E) {u:List Nat} (h:u∈systs n E F):(∀p,p∈u→p<n)∧u∈sysT n E F (comps n E).length:=by
 have h1:=(List.mem_filter.1 h).1;refine⟨fun p hp=>?_,by rw[sysT_all];exact h1⟩;obtain⟨c,hc,rfl⟩:=List.mem_map.1 h1;obtain⟨t,ht,rfl⟩:=List.getElem_of_mem hc;exact comps_lt hE ht p (List.mem_filter.1 hp).1
theorem nd_take {E:List Ent} (h:(E.map Ent.x).Nodup) {k:Nat} (hk:k<E.length):E[k].x∉(E.take k).map Ent.x:=fun hm=>by
 obtain⟨e,he,hx⟩:=List.mem_map.1 hm;obtain⟨j,hj,rfl⟩:=List.getElem_of_mem he;rw[List.length_take]at hj;rw[List.getElem_take]at hx;have:=List.pairwise_iff_getElem.1 h j k (by rw[List.length_map];omega) (by rw[List.length_map];omega) (by omega);rw[List.getElem_map,List.getElem_map]at this;exact this hx
theorem systs_ready {L:List Lp} (hL:Caps n L):Ready L F [] (systs n (edgesL L) F):=(ready_all hL.inN).drop_nil
end
end Sh
end
section
open Go.RowKit Go.Shelf
namespace Sh
open Nt Ci
theorem shproper_any (A:Option Addr) (ca:Nat) (n:Int) (l:List Int) (w:World) (hA:InInt w A l) (hl:l.length≤140737488355328) :
 Calls Tryz.prog 44 #[.slice A l.length ca,.int .i64 n] w fun e w'=>e=.returned (.bool (listB n l))∧w'=w:=by
 have hNB:=Lib.hid (fun(k:Nat) (h:k<l.length) (hb:¬LstAt n l k h)=>list_bad h hb);have hNA:=Lib.hid (list_all (n:=n) (l:=l));replace hA:=Lib.hid hA;go_enter Tryz.func44,Tryz.ntmps44;go_wp2
 go_loopw [9] (fun i wr=>wr=w∧∃k:Nat,k≤l.length∧i=.int .i64 (k:Int)∧Hid (∀j (h:j<l.length),j<k→LstAt n l j h)) (fun i _=>l.length-(intOf i).toNat)
 case atStart=>exact⟨rfl,0,Nat.zero_le _,rfl,fun j _ h=>absurd h (Nat.not_lt_zero _)⟩
 case round =>
  obtain⟨rfl,k,hk,rfl,hI⟩:=hrel;obtain⟨wq,rfl⟩:∃z,z=wr:=⟨_,rfl⟩
  by_cases hlt:k<l.length
  · obtain ⟨b1,o1,rfl,hb1,hc1⟩:=hA.out (by omega);have e1:wq.cell? ⟨b1,o1+k,none⟩=some (.int .i64 l[k]):=hc1 k hlt;have e0:Hid (0<k→wq.cell? ⟨b1,o1+(k-1),none⟩=some (.int .i64 (l[k-1]'(by omega)))):=fun h=>hc1 (k-1) (by omega);have hNk:=Lib.hid (hNB.out k hlt)
    have hIk:Hid (LstAt n l k hlt→∀j (h:j<l.length),j<k+1→LstAt n l j h):=fun h j h1 h3=>by
     by_cases e:j=k
     · subst e;exact h
     · exact hI.out j h1 (by omega)
    have hLA:Hid (LstAt n l k hlt↔(0≤l[k]∧l[k]<n)∧(0<k→l[k-1]'(by omega)<l[k])):=Iff.rfl;obtain⟨x,hx⟩:∃x,x=l[k]:=⟨_,rfl⟩;rw[←hx]at e1 hLA;have j0:(0:Int)≤(k:Int):=by omega
    have j1:(k:Int)<(l.length:Int):=by omega
    clear hc1 hI hx;have hcl:x<0∨(0≤x∧n≤x)∨(0≤x∧x<n):=by omega
    rcases hcl with h1 | ⟨h1,h2⟩ | ⟨h1,h2⟩
    · have hG:=Lib.hid (hNk.out fun h=>by have:=(hLA.out.1 h).1.1;omega);have m1:decide (x<0)=true:=decide_eq_true h1;go_wp2;go_ret;exact⟨ret_bool hG.out.symm,rfl⟩
    · have hG:=Lib.hid (hNk.out fun h=>by have:=(hLA.out.1 h).1.2;omega);have m1:decide (x<0)=false:=decide_eq_false (by omega);have m2:decide (n≤x)=true:=decide_eq_true h2;go_wp2;go_ret;exact⟨ret_bool hG.out.symm,rfl⟩
    · have m1:decide (x<0)=false:=decide_eq_false (by omega);have m2:decide (n≤x)=false:=decide_eq_false (by omega)
      by_cases hk0:k=0
      · have m3:decide (0<(k:Int))=false:=decide_eq_false (by omega);have m4:decide (0<k)=false:=decide_eq_false (by omega);have hI2:=Lib.hid (hIk.out (hLA.out.2 ⟨⟨h1,h2⟩,fun h=>by omega⟩));replace hk0:=Lib.hid hk0;go_wp2;exact⟨⟨(by first | rfl | trivial),k+1,by omega,by go_num,hI2⟩,by simp only[intOf];omega⟩
      · have m3:decide (0<(k:Int))=true:=decide_eq_true (by omega);have m4:decide (0<k)=true:=decide_eq_true (by omega);have e2:=e0.out (by omega);obtain⟨y,hy⟩:∃y,y=l[k-1]'(by omega):=⟨_,rfl⟩;rw[←hy]at e2;have j2:(0:Int)≤(k:Int)-1:=by omega
        have j3:(k:Int)-1<(l.length:Int):=by omega
        have j5:((k:Int)-1).toNat=k-1:=by omega
        by_cases hxy:y<x
        · have m5:decide (x≤y)=false:=decide_eq_false (by omega);have hI2:=Lib.hid (hIk.out (hLA.out.2 ⟨⟨h1,h2⟩,fun _=>by rw[←hy];exact hxy⟩));replace hy:=Lib.hid hy;go_wp2;exact⟨⟨(by first | rfl | trivial),k+1,by omega,by go_num,hI2⟩,by simp only[intOf];omega⟩
        · have m5:decide (x≤y)=true:=decide_eq_true (by omega);have hG:=Lib.hid (hNk.out fun h=>by have h3:=(hLA.out.1 h).2 (by omega);rw[←hy]at h3;omega);replace hy:=Lib.hid hy;go_wp2;go_ret;exact⟨ret_bool hG.out.symm,rfl⟩
  · obtain rfl:k=l.length:=by omega
    have hG:=Lib.hid (hNA.out fun j h=>hI.out j h h);clear hI;go_wp2;go_ret;exact⟨ret_bool hG.out.symm,rfl⟩
end Sh
end
end Go.Proofs.YtioidbebjgeahaaGreatDoor

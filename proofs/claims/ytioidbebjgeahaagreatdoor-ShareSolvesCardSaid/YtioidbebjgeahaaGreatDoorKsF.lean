/- Texts that the proof needs: LinD, ShaReg, ShaReg22, ShaTake, ShaSolve, ShaRowP, ShaBuild, ShaSlv. -/
import Derived.Deep.Slices
import Derived.Deep.RegionHeld3
import Derived.Test.YtioidbebjgeahaaGreatDoorKsA
import Derived.Test.YtioidbebjgeahaaGreatDoorKsB
import Derived.Test.YtioidbebjgeahaaGreatDoorKsC
import Derived.Test.YtioidbebjgeahaaGreatDoorKsD
import Derived.Test.YtioidbebjgeahaaGreatDoorKsE
namespace Go.Proofs.YtioidbebjgeahaaGreatDoor
open Go.RowKit Go.Shelf
namespace Nt
theorem okQ_add {p q : Rat} (hp : ShortQ p) (hq : ShortQ q) : OkQ (p + q):=okQ_dg (Dg.add (k:=mx1) (m:=mx1) hp hq) (by rw [mx1_eq];omega)
theorem rawSz_rq {q : Rat} (h : OkQ q) : rawSz (rq q):=by
 have:=size_of_valid (valid_qv h)
 unfold rawSz rq
 exact ⟨by have:=this.1;dsimp only;omega,by have:=this.2;dsimp only;omega⟩
theorem own_below {w w' : World} {B : Nat} {t : TypeId} {size : Nat} {v : Value} {n : Nat} {xs : List Value} (h : w.ownsRow B t size v n xs) (hb : Below w.heap.size w w') : w'.ownsRow B t size v n xs :=
 h.kept (row:=none) ⟨hb.os,hb.tape,hb.output,hb.size,fun k hk _ => hb.block k hk⟩ (by cases hv : v.ownBlock <;> simp)
end Nt
end Go.Proofs.YtioidbebjgeahaaGreatDoor
namespace Go.Proofs.YtioidbebjgeahaaGreatDoor
open Go.RowKit Go.Shelf
namespace Nt
theorem elimRow_ok {n k i : Nat} {M M' : Mx} (hO : ∀ a b,a < n → b ≤ n → OkQ (M a b)) (h : elimRow SQ n k i M = some M') : ∀ a b,a < n → b ≤ n → OkQ (M' a b):=by
 unfold elimRow at h
 split at h
 · simp only [Option.some.injEq] at h;rw [← h];exact hO
 · split at h
   · rename_i hs
     simp only [Option.some.injEq] at h
     rw [← h]
     have hk:=(okSub_iff SQ).1 hs
     intro a b ha hb
     unfold subR
     split
     · rename_i hc
       obtain ⟨h1,h2,h3,h4⟩:=hk b hc.2 hb
       exact okQ_sub (of_decide_eq_true h3) (of_decide_eq_true h4)
     · exact hO a b ha hb
   · cases h
theorem elimTo_ok {n k : Nat} {M : Mx} (hO : ∀ a b,a < n → b ≤ n → OkQ (M a b)) : ∀ {i : Nat} {M' : Mx},i ≤ n → elimTo SQ n k i M = some M' → ∀ a b,a < n → b ≤ n → OkQ (M' a b):=by
 intro i
 induction i with
 | zero => intro M' _ h;simp only [elimTo,Option.some.injEq] at h;rw [← h];exact hO
 | succ i ih =>
   intro M' hi h
   simp only [elimTo,Option.bind_eq_some_iff] at h
   obtain ⟨M1,h1,h2⟩:=h
   exact elimRow_ok (ih (by omega) h1) h2
theorem stepK_ok {n k : Nat} {M M' : Mx} (hk : k < n) (hO : ∀ a b,a < n → b ≤ n → OkQ (M a b)) (h : stepK SQ n k M = .ok M') : ∀ a b,a < n → b ≤ n → OkQ (M' a b):=by
 unfold stepK at h
 split at h
 · cases h
 · rename_i p hp
   obtain ⟨p1,p2,p3,_⟩:=pivot_some (by omega) hp
   have hsw : ∀ a b,a < n → b ≤ n → OkQ (swapR k p M a b):=fun a b ha hb => by
    unfold swapR
    split
    · exact hO p b p2 hb
    · split
      · exact hO k b hk hb
      · exact hO a b ha hb
   split at h
   · rename_i hd
     have hd2:=(okDiv_iff SQ).1 hd
     have hne : swapR k p M k k ≠ 0:=by unfold swapR;rw [if_pos rfl];exact p3
     have hdv : ∀ a b,a < n → b ≤ n → OkQ (divMx k (swapR k p M) a b):=fun a b ha hb => by
      unfold divMx
      split
      · rename_i hc
        obtain ⟨h1,h2⟩:=hd2 b hc.2 hb
        exact okQ_div (of_decide_eq_true h1) (of_decide_eq_true h2) hne
      · exact hsw a b ha hb
     split at h
     · rename_i M2 h2
       simp only [Except.ok.injEq] at h
       rw [← h]
       exact elimTo_ok hdv (Nat.le_refl n) h2
     · cases h
   · cases h
end Nt
end Go.Proofs.YtioidbebjgeahaaGreatDoor
namespace Go.Proofs.YtioidbebjgeahaaGreatDoor
open Go.RowKit Go.Shelf
namespace Nt
def Apart (u v : Value) : Prop:=∀ b,u.ownBlock = some b → v.ownBlock ≠ some b
theorem Apart.symm {u v : Value} (h : Apart u v) : Apart v u:=fun b h1 h2 => h b h2 h1
section
variable {w w' : World} {base : Nat} {e : TypeId} {size : Nat} {u v v' : Value} {n : Nat} {xs : List Value}
theorem run_append_at {P : Program} (t ty e : TypeId) (i : TypeInfo) (z : Value) (size bytes : Nat) (ht : P.underlying t = some (.slice e)) (hi : P.info? e = some i) (hz : i.zero = some z)
 (hsize : i.size = size) (hby : i.bytes = bytes) (v : Value) (n : Nat) (xs : List Value) (hown : w.ownsRow base e size v n xs)
 (a : Addr) (m c : Nat) (news : List Value) (hl : news.length = m * size) (hnews : ∀ j u,news[j]? = some u → w.cell? (a.add j) = some u) (h1 : ∀ u ∈ news,u.oneCell' = true) (hm : 0 < m)
 (h63 : n + m ≤ maxLen) (hbytes : (n + m) * bytes ≤ 140737488355328) {v' : Value} {w' : World} (hr : (Builtin.append_ #[t,t] ty #[v,.slice (some a) m c]).run P w = .ok v' w') :
 v'.ownBlock = v.ownBlock ∨ v'.ownBlock = some w.heap.size:=by
 subst hsize
 subst hby
 have hsmall : n + m ≤ 9223372036854775807:=by simp only [maxLen] at h63;omega
 rcases hown.2 with ⟨rfl,rfl⟩ | ⟨g,cap,cur,rfl,_,hg,_,hcm,hcs,_⟩
 · have hr2:=run_append_nil (P:=P) w t ty e i z ht hi hz a m c news hl hnews (by omega) (by omega) (by have hb:=hbytes;simp only [Nat.zero_add] at hb;omega)
   rw [hr2] at hr
   simp only [Result.ok.injEq] at hr
   rw [← hr.1]
   exact .inr rfl
 · by_cases hroom : n + m ≤ cap
   · have hfit : n * i.size + news.length ≤ cur.size:=by rw [hl,hcs,← Nat.add_mul];exact Nat.mul_le_mul_right _ hroom
     have hr2:=run_append_room (P:=P) w t ty e i ht hi g n cap cur hg a m c news hl hnews h1 hroom hfit
     rw [hr2] at hr
     simp only [Result.ok.injEq] at hr
     rw [← hr.1]
     exact .inl rfl
   · have holds : ∀ j u,xs[j]? = some u → w.cell? ((⟨g,0,none⟩ : Addr).add j) = some u:=hown.cells (g:=g) rfl
     have hr2:=run_append_grow (P:=P) w t ty e i z ht hi hz ⟨g,0,none⟩ n cap xs hown.1 holds a m c news hl hnews (by omega) (by omega) (growslice_fits (by omega) hbytes)
     rw [hr2] at hr
     simp only [Result.ok.injEq] at hr
     rw [← hr.1]
     exact .inr rfl
end
theorem wpList_append_new {P : Program} (w : World) {ops : Array Oper} {rest : List Oper} {o : Oper} {a : Act} {Q : Exit → Act → World → Prop} (hgd : o.guard = none) (s x : Operand) (t : TypeId)
 (ho : o.op = .call { callee:=.builtin .append,args:=#[s,x],argTypes:=#[t,t] })
 (base : Nat) (e : TypeId) (i : TypeInfo) (z : Value) (size bytes : Nat) (ht : P.underlying t = some (.slice e)) (hi : P.info? e = some i) (hz : i.zero = some z)
 (hsize : i.size = size) (hby : i.bytes = bytes) (hzs : z.cells.size = size) (hsz : 0 < size)
 (v : Value) (n : Nat) (xs : List Value) (hs : a.eval s = v) (hown : w.ownsRow base e size v n xs)
 (ad : Addr) (m c : Nat) (news : List Value) (hx : a.eval x = .slice (some ad) m c) (hl : news.length = m * size) (hnews : ∀ j u,news[j]? = some u → w.cell? (ad.add j) = some u) (h1 : ∀ u ∈ news,u.oneCell' = true) (hm : 0 < m)
 (h63 : n + m ≤ maxLen) (hbytes : (n + m) * bytes ≤ 140737488355328) (hbase : base ≤ w.heap.size)
 (h : ∀ v' w',w'.ownsRow base e size v' (n + m) (xs ++ news) → w.grownBy w' v.ownBlock → (v'.ownBlock = v.ownBlock ∨ v'.ownBlock = some w.heap.size) → wpList P ops Q rest (a.put o.dst v') w') : wpList P ops Q (o :: rest) a w :=
 wpList_plain hgd fun _ hK => by
  obtain ⟨v',w',hr,h2,h3,_⟩:=run_append_own (P:=P) w base t o.type e i z size bytes ht hi hz hsize hby hzs hsz v n xs hown ad m c news hl hnews h1 h63 hbytes hbase
  have h5:=run_append_at (P:=P) t o.type e i z size bytes ht hi hz hsize hby v n xs hown ad m c news hl hnews h1 hm h63 hbytes hr
  unfold Oper.wp execOp
  simp only [ho,resolve,invoke,builtin,Sem.run_bind,Sem.run_pure,Result.andThen_ok,List.map_toArray,List.map_cons,List.map_nil,hs,hx,hr]
  exact hK _ _ (h v' w' h2 h3 h5)
theorem one_cell1 (v : Value) (h : v.oneCell' = true) : ∀ u ∈ [v],u.oneCell' = true:=fun u hu => by rw [List.mem_singleton.1 hu];exact h
theorem head_new (w : World) (v : Value) (t : TypeId) : ∀ j u,[v][j]? = some u → (w.alloc (.cells #[v] t)).cell? (Addr.add ⟨w.heap.size,0,none⟩ j) = some u:=by
 intro j u hj
 match j,hj with
 | 0,hj => simp at hj;subst hj;simp [Addr.add]
 | j + 1,hj => simp at hj
end Nt
end Go.Proofs.YtioidbebjgeahaaGreatDoor
namespace Go.Proofs.YtioidbebjgeahaaGreatDoor
open Go.RowKit Go.Shelf
namespace Nt
def hdr (x : RowH) : Value:=.slice x.1 x.2.2.length x.2.1
def rowD0 : RowH:=(none,0,[])
structure Qd (W : World) (B n : Nat) (la : List RowH) (lb : List Raw) (y7 y9 y8 z : Nat) (v7 v8 v9 v11 : Value) (R : Nat → Value) : Prop where
 o7 : W.ownsRow B 29 1 v7 y7 ((List.range y7).map fun i => hdr (la.getD (n - 1 - i) rowD0))
 o9 : W.ownsRow B 37 3 v9 y9 (rowL y9 fun i => lb.getD (n - 1 - i) zraw)
 o8 : W.ownsRow B 29 1 v8 y8 ((List.range y8).map R)
 oR : ∀ i,i < y8 → W.ownsRow B 37 3 (R i) n (rowL n fun j => (la.getD i rowD0).2.2.getD (n - 1 - j) zraw)
 o11 : W.ownsRow B 37 3 v11 z (rowL z fun j => (la.getD y8 rowD0).2.2.getD (n - 1 - j) zraw)
 a78 : Apart v7 v8
 a79 : Apart v7 v9
 a89 : Apart v8 v9
 a17 : Apart v11 v7
 a18 : Apart v11 v8
 a19 : Apart v11 v9
 r7 : ∀ i,i < y8 → Apart (R i) v7
 r8 : ∀ i,i < y8 → Apart (R i) v8
 r9 : ∀ i,i < y8 → Apart (R i) v9
 r1 : ∀ i,i < y8 → Apart (R i) v11
section
variable {W W' : World} {B n : Nat} {la : List RowH} {lb : List Raw} {y7 y9 y8 z : Nat} {v7 v8 v9 v11 v' : Value} {R : Nat → Value}
theorem Qd.below (h : Qd W B n la lb y7 y9 y8 z v7 v8 v9 v11 R) (hb : Below W.heap.size W W') : Qd W' B n la lb y7 y9 y8 z v7 v8 v9 v11 R :=
 ⟨own_below h.o7 hb,own_below h.o9 hb,own_below h.o8 hb,fun i hi => own_below (h.oR i hi) hb,own_below h.o11 hb,h.a78,h.a79,h.a89,h.a17,h.a18,h.a19,h.r7,h.r8,h.r9,h.r1⟩
theorem Qd.alloc (h : Qd W B n la lb y7 y9 y8 z v7 v8 v9 v11 R) (o : Obj) : Qd (W.alloc o) B n la lb y7 y9 y8 z v7 v8 v9 v11 R:=h.below ((Below.refl _ W).alloc (Nat.le_refl _) o)
end
theorem inMat_of_own {w : World} {base : Nat} {v : Value} {L : List RowH} (h : w.ownsRow base 29 1 v L.length (L.map hdr)) (hr : ∀ x ∈ L,InRow w x.1 x.2.2) :
 ∃ A c,v = .slice A L.length c ∧ InMat w A L:=by
 rcases h.2 with ⟨rfl,h0⟩ | ⟨g,cap,cur,rfl,hb,hg,h4,h5,h6,h7⟩
 · exact ⟨none,0,by rw [h0],fun h => absurd h (by omega)⟩
 · refine ⟨some ⟨g,0,none⟩,cap,rfl,fun h0 => ⟨g,0,rfl,(Array.getElem?_eq_some_iff.1 hg).1,fun j hj => ?_⟩⟩
   have hc:=h.cells (g:=g) (by simp [Value.ownBlock]) j (hdr L[j]) (by simp [hj])
   have hadd : ∀ o,(⟨g,0,none⟩ : Addr).add o = ⟨g,o,none⟩:=fun o => by unfold Addr.add;split <;> simp_all
   rw [hadd] at hc
   rw [Nat.zero_add]
   exact ⟨hc,hr _ (List.getElem_mem hj)⟩
theorem Solve_r (Aa Ab : Option Addr) (ca cb : Nat) (la : List RowH) (lb : List Raw) (w : World) (hE : Env w) (hs : SysIn w Aa Ab la lb) :
 Calls Tryz.prog 49 #[.slice Aa la.length ca,.slice Ab lb.length cb] w fun e w' => (∃ p c,e = .returned (.tuple #[.slice p (xsOf (solveB (rowsOf la) lb)).length c,.int .i64 (erOf (solveB (rowsOf la) lb))]) ∧ InRow w' p (xsOf (solveB (rowsOf la) lb))) ∧ Below w.heap.size w w':=by
 cases h : solveB (rowsOf la) lb with
 | ok xs => exact Solve_ok Aa Ab ca cb la lb xs w hE hs h
 | error er => exact (Solve_er Aa Ab ca cb la lb er w hE hs h).mono fun e w' h => ⟨⟨none,0,h.1,fun h => absurd h (by simp [xsOf])⟩,h.2⟩
end Nt
end Go.Proofs.YtioidbebjgeahaaGreatDoor
namespace Go.Proofs.YtioidbebjgeahaaGreatDoor
open Go.RowKit Go.Shelf
namespace Nt
theorem own_form {W : World} {base : Nat} {e : TypeId} {size : Nat} {v : Value} {n : Nat} {xs : List Value} (h : W.ownsRow base e size v n xs) (hn : 0 < n) :
 ∃ g cap,v = .slice (some ⟨g,0,none⟩) n cap ∧ base ≤ g ∧ g < W.heap.size ∧ (∀ j,W.frozen? ⟨g,j,none⟩ = false) ∧ ∀ j u,xs[j]? = some u → W.cell? ⟨g,j,none⟩ = some u:=by
 rcases h.2 with ⟨rfl,h0⟩ | ⟨g,cap,cur,rfl,hb,hg,_⟩
 · omega
 · refine ⟨g,cap,rfl,hb,(Array.getElem?_eq_some_iff.1 hg).1,fun j => by simp [World.frozen?,hg],fun j u hj => ?_⟩
   have hc:=h.cells (g:=g) (by simp [Value.ownBlock]) j u hj
   have hadd : ∀ o,(⟨g,0,none⟩ : Addr).add o = ⟨g,o,none⟩:=fun o => by unfold Addr.add;split <;> simp_all
   rwa [hadd] at hc
theorem wp_append_new {P : Program} (w : World) {o : Oper} {a : Act} {K : Act → World → Prop} {Q : Exit → Act → World → Prop} (s x : Operand) (t : TypeId)
 (ho : o.op = .call { callee:=.builtin .append,args:=#[s,x],argTypes:=#[t,t] })
 (base : Nat) (e : TypeId) (i : TypeInfo) (z : Value) (size bytes : Nat) (ht : P.underlying t = some (.slice e)) (hi : P.info? e = some i) (hz : i.zero = some z)
 (hsize : i.size = size) (hby : i.bytes = bytes) (hzs : z.cells.size = size) (hsz : 0 < size)
 (v : Value) (n : Nat) (xs : List Value) (hs : a.eval s = v) (hown : w.ownsRow base e size v n xs)
 (ad : Addr) (m c : Nat) (news : List Value) (hx : a.eval x = .slice (some ad) m c) (hl : news.length = m * size) (hnews : ∀ j u,news[j]? = some u → w.cell? (ad.add j) = some u) (h1 : ∀ u ∈ news,u.oneCell' = true) (hm : 0 < m)
 (h63 : n + m ≤ maxLen) (hbytes : (n + m) * bytes ≤ 140737488355328) (hbase : base ≤ w.heap.size)
 (h : ∀ v' w',w'.ownsRow base e size v' (n + m) (xs ++ news) → w.grownBy w' v.ownBlock → (v'.ownBlock = v.ownBlock ∨ v'.ownBlock = some w.heap.size) → K (a.put o.dst v') w') : o.wp P a w K Q:=by
 obtain ⟨v',w',hr,h2,h3,_⟩:=run_append_own (P:=P) w base t o.type e i z size bytes ht hi hz hsize hby hzs hsz v n xs hown ad m c news hl hnews h1 h63 hbytes hbase
 have h5:=run_append_at (P:=P) t o.type e i z size bytes ht hi hz hsize hby v n xs hown ad m c news hl hnews h1 hm h63 hbytes hr
 unfold Oper.wp execOp
 simp only [ho,resolve,invoke,builtin,Sem.run_bind,Sem.run_pure,Result.andThen_ok,List.map_toArray,List.map_cons,List.map_nil,hs,hx,hr]
 exact h v' w' h2 h3 h5
end Nt
end Go.Proofs.YtioidbebjgeahaaGreatDoor
namespace Go.Proofs.YtioidbebjgeahaaGreatDoor
open Go.RowKit Go.Shelf
namespace Sh
open Nt Ci
def isRegS (k : Nat) : Code → Bool
 | .region a _ _ => a == k
 | _ => false
theorem plus_rq (s x y : Rat) (hs : ShortQ s) (hx : ShortQ x) (hy : ShortQ y) (hxy : ShortQ (x * y)) (w : World) (hE : Env w) :
 Calls Tryz.prog 97 #[.agg #[.bool (rq s).1,.string (rq s).2.1,.string (rq s).2.2],.agg #[.bool (rq x).1,.string (rq x).2.1,.string (rq x).2.2],.agg #[.bool (rq y).1,.string (rq y).2.1,.string (rq y).2.2]] w fun e w' => e = .returned (.agg #[.bool (rq (s + x * y)).1,.string (rq (s + x * y)).2.1,.string (rq (s + x * y)).2.2]) ∧ Below w.heap.size w w' :=
 shplus_any s x y hs hx hy hxy w hE
noncomputable def bdR (j : Nat) : Code:=((Tryz.f48.body.map Ci.regsOf).bind fun l => l.find? (isRegS j)).getD .skip
set_option maxRecDepth 1000000 in
set_option maxHeartbeats 16000000 in
theorem bd19 {c0 c1 c2 c3 c4 c5 c7 c8 c10 c11 c12 c15 c16 c17 c18 c19 c20 c21 c22 c23 c24 c25 c26 c27 c28 c29 c30 c31 c32 c33 c34 c35 c36 c37 c38 c39 c40 c41 c42 c43 c44 c45 c46 c47 c48 c49 c50 c51 c52 c53 c54 c55 c56 c57 c58 c59 c60 c61 c62 c63 c64 c65 c66 c78 c79 c80 c81 c82 c83 c84 c85 c86 c87 c88 c89 c90 c91 c92 c93 c94 c95 c96 c97 c98 c99 c100 c101 c102 c103 c104 c105 c106 c107 a67 a68 a69 a70 a71 a72 a73 a74 a75 a76 a77 : Value} {Q : Exit → Act → World → Prop} (mnb rb lb m k : Nat) (r : Nat → Raw) (q part : Rat) (c0v c1v : Value) (w : World) (hE : Env w) (hk : k < m) (_hm : m ≤ 1000) (hr : RowB w rb m r) (hrk : r k = rq q) (hmn : Bk w mnb 37 [.bool (rq (-1)).1,.string (rq (-1)).2.1,.string (rq (-1)).2.2]) (hl : Bk w lb 42 [c0v,c1v,.bool (rq part).1,.string (rq part).2.1,.string (rq part).2.2]) (n1 : rb ≠ mnb) (n2 : rb ≠ lb) (h1 : ShortQ q) (h2 : ShortQ part) (h3 : ShortQ (-1 * part))
 (h : ∀ (u67 u68 u69 u70 u71 u72 u73 u74 u75 u76 u77 : Value) (W : World) (_ : Hid (RowB W rb m fun j => if j = k then rq (q + -1 * part) else r j)) (_ : Hid (Kp [rb] w W)),Q .normal ⟨#[c0,c1,c2,c3,c4,c5,.pointer (some ⟨mnb,0,none⟩),c7,c8,.slice (some ⟨rb,0,none⟩) m m,c10,c11,c12,.pointer (some ⟨lb,0,none⟩),.int .i64 (k : Int),c15,c16,c17,c18,c19,c20,c21,c22,c23,c24,c25,c26,c27,c28,c29,c30,c31,c32,c33,c34,c35,c36,c37,c38,c39,c40,c41,c42,c43,c44,c45,c46,c47,c48,c49,c50,c51,c52,c53,c54,c55,c56,c57,c58,c59,c60,c61,c62,c63,c64,c65,c66,u67,u68,u69,u70,u71,u72,u73,u74,u75,u76,u77,c78,c79,c80,c81,c82,c83,c84,c85,c86,c87,c88,c89,c90,c91,c92,c93,c94,c95,c96,c97,c98,c99,c100,c101,c102,c103,c104,c105,c106,c107],[]⟩ W) :
 Code.wp Tryz.prog (bdR 19) Q ⟨#[c0,c1,c2,c3,c4,c5,.pointer (some ⟨mnb,0,none⟩),c7,c8,.slice (some ⟨rb,0,none⟩) m m,c10,c11,c12,.pointer (some ⟨lb,0,none⟩),.int .i64 (k : Int),c15,c16,c17,c18,c19,c20,c21,c22,c23,c24,c25,c26,c27,c28,c29,c30,c31,c32,c33,c34,c35,c36,c37,c38,c39,c40,c41,c42,c43,c44,c45,c46,c47,c48,c49,c50,c51,c52,c53,c54,c55,c56,c57,c58,c59,c60,c61,c62,c63,c64,c65,c66,a67,a68,a69,a70,a71,a72,a73,a74,a75,a76,a77,c78,c79,c80,c81,c82,c83,c84,c85,c86,c87,c88,c89,c90,c91,c92,c93,c94,c95,c96,c97,c98,c99,c100,c101,c102,c103,c104,c105,c106,c107],[]⟩ w:=by
 conv => arg 2;whnf
 conv => arg 4;zeta
 replace h:=Lib.hid h
 have hB1 : Hid (Below w.heap.size w w.drew):=(Below.refl _ w).drew
 have kp:=Lib.hid (fun W hW => plus_rq q (-1) part h1 (by decide +kernel) h2 h3 W hW)
 have hr1 : Hid (RowB w.drew rb m r):=hr
 have rl:=hr.lt
 have hSf : Hid (∀ W,Below w.heap.size w W → W.cell? ⟨mnb,0,none⟩ = some (.bool (rq (-1)).1) ∧ W.cell? ⟨mnb,1,none⟩ = some (.string (rq (-1)).2.1) ∧ W.cell? ⟨mnb,2,none⟩ = some (.string (rq (-1)).2.2) ∧ W.cell? ⟨lb,2,none⟩ = some (.bool (rq part).1) ∧ W.cell? ⟨lb,3,none⟩ = some (.string (rq part).2.1) ∧ W.cell? ⟨lb,4,none⟩ = some (.string (rq part).2.2)):=fun W h => ⟨(hmn.below h).cell (j:=0) rfl,(hmn.below h).cell (j:=1) rfl,(hmn.below h).cell (j:=2) rfl,(hl.below h).cell (j:=2) rfl,(hl.below h).cell (j:=3) rfl,(hl.below h).cell (j:=4) rfl⟩
 have j0 : (0 : Int) ≤ (k : Int):=by omega
 have j1 : (k : Int) < (m : Int):=by omega
 replace hE:=Lib.hid hE;replace hr:=Lib.hid hr;replace hmn:=Lib.hid hmn;replace hl:=Lib.hid hl
 clear h1 h2 h3
 refine wp_region_noPanic ?_
 refine wp_region_held_drew (S:=fun W => W.cell? ⟨mnb,0,none⟩ = some (.bool (rq (-1)).1) ∧ W.cell? ⟨mnb,1,none⟩ = some (.string (rq (-1)).2.1) ∧ W.cell? ⟨mnb,2,none⟩ = some (.string (rq (-1)).2.2) ∧ W.cell? ⟨lb,2,none⟩ = some (.bool (rq part).1) ∧ W.cell? ⟨lb,3,none⟩ = some (.string (rq part).2.1) ∧ W.cell? ⟨lb,4,none⟩ = some (.string (rq part).2.2)) (by kernel_rfl) (hSf.out _ hB1.out) (fun hS0 => ?_)
 replace hS0:=Lib.hid hS0
 refine wpAnyH_take (i:=0) (oi:=_) (v:=?_) rfl (by kernel_rfl) (by kernel_rfl) (by kernel_rfl) (fun _ _ _ h => h) (Or.inl ⟨by rfl,?_⟩) (hS0.out) ?_
 rotate_left
 · (intro w hSw;obtain ⟨q1,q2,q3,q4,q5,q6⟩:=hSw;go_simp <;> with_reducible rfl)
 try simp only [Act.put,List.setIfInBounds_toArray]
 refine wpAnyH_take (i:=1) (oi:=_) (v:=?_) rfl (by kernel_rfl) (by kernel_rfl) (by kernel_rfl) (fun _ _ _ h => h) (Or.inl ⟨by rfl,?_⟩) (hS0.out) ?_
 rotate_left
 · (intro w hSw;obtain ⟨q1,q2,q3,q4,q5,q6⟩:=hSw;go_simp <;> with_reducible rfl)
 try simp only [Act.put]
 refine wpAnyH_take (i:=2) (oi:=_) (v:=?_) rfl (by kernel_rfl) (by kernel_rfl) (by kernel_rfl) (fun _ _ _ h => h) (Or.inl ⟨by rfl,?_⟩) (hS0.out) ?_
 rotate_left
 · (intro w hSw;obtain ⟨q1,q2,q3,q4,q5,q6⟩:=hSw;go_simp <;> with_reducible rfl)
 try simp only [Act.put]
 refine wpAnyH_take (i:=3) (oi:=_) (v:=?_) rfl (by kernel_rfl) (by kernel_rfl) (by kernel_rfl) (fun _ _ _ h => h) (Or.inl ⟨by rfl,?_⟩) (hS0.out) ?_
 rotate_left
 · (intro w hSw;obtain ⟨q1,q2,q3,q4,q5,q6⟩:=hSw;go_simp <;> with_reducible rfl)
 try simp only [Act.put]
 refine wpAnyH_take (i:=4) (oi:=_) (v:=?_) rfl (by kernel_rfl) (by kernel_rfl) (by kernel_rfl) (fun _ _ _ h => h) (Or.inl ⟨by rfl,?_⟩) (hS0.out) ?_
 rotate_left
 · (intro w hSw;obtain ⟨q1,q2,q3,q4,q5,q6⟩:=hSw;go_simp <;> with_reducible rfl)
 try simp only [Act.put]
 refine wpAnyH_take (i:=6) (oi:=_) (v:=?_) rfl (by kernel_rfl) (by kernel_rfl) (by kernel_rfl) (fun _ _ _ h => h) (Or.inl ⟨by rfl,?_⟩) (hS0.out) ?_
 rotate_left
 · (intro w hSw;obtain ⟨q1,q2,q3,q4,q5,q6⟩:=hSw;go_simp <;> with_reducible rfl)
 try simp only [Act.put]
 refine wpAnyH_take (i:=7) (oi:=_) (v:=?_) rfl (by kernel_rfl) (by kernel_rfl) (by kernel_rfl) (fun _ _ _ h => h) (Or.inl ⟨by rfl,?_⟩) (hS0.out) ?_
 rotate_left
 · (intro w hSw;obtain ⟨q1,q2,q3,q4,q5,q6⟩:=hSw;go_simp <;> with_reducible rfl)
 try simp only [Act.put]
 refine wpAnyH_take (i:=8) (oi:=_) (v:=?_) rfl (by kernel_rfl) (by kernel_rfl) (by kernel_rfl) (fun _ _ _ h => h) (Or.inl ⟨by rfl,?_⟩) (hS0.out) ?_
 rotate_left
 · (intro w hSw;obtain ⟨q1,q2,q3,q4,q5,q6⟩:=hSw;go_simp <;> with_reducible rfl)
 try simp only [Act.put]
 obtain ⟨r1,r2,r3⟩:=hr1.out.cell hk
 rw [hrk] at r1 r2 r3
 have rl1:=hr1.out.lt
 refine wpAnyH_ready (rs:=[5]) (by kernel_rfl) (by simp) ?_
 refine AllReadyH.cons (o:=_) rfl (fun K hK => ?_) ?_
 · go_simp
   clear r1 r2 r3
   refine hK.out _ _ (hSf.out _ hB1.out) (fun _ => ?_)
   clear hK K
   try simp only [Act.put,List.setIfInBounds_toArray,List.set_cons_zero,List.set_cons_succ]
   refine wpAnyH_ready (rs:=[9]) (by kernel_rfl) (by simp) ?_
   refine AllReadyH.cons (o:=_) rfl (fun K hK => ?_) ?_
   · go_simp
     refine (kp.out _ (hE.out.below hB1.out)).mono ?_
     rintro e W2 ⟨rfl,hb⟩
     have hB2 : Hid (Below w.heap.size w W2):=hB1.out.trans (hb.mono hB1.out.size)
     have hr2 : Hid (RowB W2 rb m r):=hr1.out.below hb rl1
     clear hb
     refine hK.out _ _ (hSf.out _ hB2.out) (fun _ => ?_)
     clear hK K
     try simp only [Act.put,List.setIfInBounds_toArray,List.set_cons_zero,List.set_cons_succ]
     refine wpAnyH_take (i:=10) (oi:=_) (v:=?_) rfl (by kernel_rfl) (by kernel_rfl) (by kernel_rfl) (fun _ _ _ h => h) (Or.inl ⟨by rfl,?_⟩) (hSf.out _ hB2.out) ?_
     rotate_left
     · (intro w hSw;obtain ⟨q1,q2,q3,q4,q5,q6⟩:=hSw;go_simp <;> with_reducible rfl)
     try simp only [Act.put,List.setIfInBounds_toArray]
     obtain ⟨r1,r2,r3⟩:=hr2.out.cell hk
     have f1:=hr2.out.frozen (k * 3);have f2:=hr2.out.frozen (k * 3 + 1);have f3:=hr2.out.frozen (k * 3 + 2)
     have rl2:=hr2.out.lt
     have hr3 : Hid (RowB (((W2.setCell ⟨rb,k * 3,none⟩ (.bool (rq (q + -1 * part)).1)).setCell ⟨rb,k * 3 + 1,none⟩ (.string (rq (q + -1 * part)).2.1)).setCell ⟨rb,k * 3 + 2,none⟩ (.string (rq (q + -1 * part)).2.2)) rb m fun j => if j = k then rq (q + -1 * part) else r j):=hr2.out.set hk _
     have hK3 : Hid (Kp [rb] w (((W2.setCell ⟨rb,k * 3,none⟩ (.bool (rq (q + -1 * part)).1)).setCell ⟨rb,k * 3 + 1,none⟩ (.string (rq (q + -1 * part)).2.1)).setCell ⟨rb,k * 3 + 2,none⟩ (.string (rq (q + -1 * part)).2.2))):=((((Kp.refl [rb] w).below hB2.out).set (a:=⟨rb,k * 3,none⟩) _ (.inl (by simp))).set (a:=⟨rb,k * 3 + 1,none⟩) _ (.inl (by simp))).set (a:=⟨rb,k * 3 + 2,none⟩) _ (.inl (by simp))
     refine wpAnyH_ready (rs:=[11]) (by kernel_rfl) (by simp) ?_
     refine AllReadyH.cons (o:=_) rfl (fun K hK => ?_) ?_
     · go_simp
       refine hK.out _ _ (⟨((((hmn.out.below hB2.out).far (p:=⟨rb,k * 3,none⟩) n1.symm _).far (p:=⟨rb,k * 3 + 1,none⟩) n1.symm _).far (p:=⟨rb,k * 3 + 2,none⟩) n1.symm _).cell (j:=0) rfl,((((hmn.out.below hB2.out).far (p:=⟨rb,k * 3,none⟩) n1.symm _).far (p:=⟨rb,k * 3 + 1,none⟩) n1.symm _).far (p:=⟨rb,k * 3 + 2,none⟩) n1.symm _).cell (j:=1) rfl,((((hmn.out.below hB2.out).far (p:=⟨rb,k * 3,none⟩) n1.symm _).far (p:=⟨rb,k * 3 + 1,none⟩) n1.symm _).far (p:=⟨rb,k * 3 + 2,none⟩) n1.symm _).cell (j:=2) rfl,((((hl.out.below hB2.out).far (p:=⟨rb,k * 3,none⟩) n2.symm _).far (p:=⟨rb,k * 3 + 1,none⟩) n2.symm _).far (p:=⟨rb,k * 3 + 2,none⟩) n2.symm _).cell (j:=2) rfl,((((hl.out.below hB2.out).far (p:=⟨rb,k * 3,none⟩) n2.symm _).far (p:=⟨rb,k * 3 + 1,none⟩) n2.symm _).far (p:=⟨rb,k * 3 + 2,none⟩) n2.symm _).cell (j:=3) rfl,((((hl.out.below hB2.out).far (p:=⟨rb,k * 3,none⟩) n2.symm _).far (p:=⟨rb,k * 3 + 1,none⟩) n2.symm _).far (p:=⟨rb,k * 3 + 2,none⟩) n2.symm _).cell (j:=4) rfl⟩) (fun _ => ?_)
       clear hK K
       try simp only [Act.put,List.setIfInBounds_toArray,List.set_cons_zero,List.set_cons_succ]
       refine wpAnyH_done (by kernel_rfl) ?_ _
       refine NoPanic.normal ?_
       exact h.out _ _ _ _ _ _ _ _ _ _ _ _ hr3 hK3
     exact AllReadyH.nil
   exact AllReadyH.nil
 exact AllReadyH.nil
set_option maxRecDepth 1000000 in
set_option maxHeartbeats 16000000 in
theorem bd20 {c0 c1 c3 c4 c5 c6 c7 c8 c9 c10 c12 c14 c15 c16 c17 c18 c19 c20 c21 c22 c23 c24 c25 c26 c27 c28 c29 c30 c31 c32 c33 c34 c35 c36 c37 c38 c39 c40 c41 c42 c43 c44 c45 c46 c47 c48 c49 c50 c51 c52 c53 c54 c55 c56 c57 c58 c59 c60 c61 c62 c63 c64 c65 c66 c67 c68 c69 c70 c71 c72 c73 c74 c75 c76 c77 c86 c87 c88 c89 c90 c91 c92 c93 c94 c95 c96 c97 c98 c99 c100 c101 c102 c103 c104 c105 c106 c107 a78 a79 a80 a81 a82 a83 a84 a85 : Value} {Q : Exit → Act → World → Prop} (gb lb vb : Nat) (hh : Int) (r0 part v : Rat) (c0v : Value) (w : World) (hE : Env w) (hg : Bk w gb 37 [.bool (rq r0).1,.string (rq r0).2.1,.string (rq r0).2.2]) (hl : Bk w lb 42 [c0v,.int .i64 hh,.bool (rq part).1,.string (rq part).2.1,.string (rq part).2.2]) (n1 : gb ≠ lb) (h1 : ShortQ r0) (h2 : ShortQ part) (h3 : ShortQ v) (h4 : ShortQ (part * v)) (kv : ∀ W,Below w.heap.size w W → Calls Tryz.prog 47 #[.int .i64 hh,.pointer (some ⟨vb,0,none⟩)] W fun e w' => e = .returned (.agg #[.bool (rq v).1,.string (rq v).2.1,.string (rq v).2.2]) ∧ Below W.heap.size W w')
 (h : ∀ (u78 u79 u80 u81 u82 u83 u84 u85 : Value) (W : World) (_ : Hid (Bk W gb 37 [.bool (rq (r0 + part * v)).1,.string (rq (r0 + part * v)).2.1,.string (rq (r0 + part * v)).2.2])) (_ : Hid (Kp [gb] w W)),Q .normal ⟨#[c0,c1,.func (.func 47) #[] #[.pointer (some ⟨vb,0,none⟩)],c3,c4,c5,c6,c7,c8,c9,c10,.pointer (some ⟨gb,0,none⟩),c12,.pointer (some ⟨lb,0,none⟩),c14,c15,c16,c17,c18,c19,c20,c21,c22,c23,c24,c25,c26,c27,c28,c29,c30,c31,c32,c33,c34,c35,c36,c37,c38,c39,c40,c41,c42,c43,c44,c45,c46,c47,c48,c49,c50,c51,c52,c53,c54,c55,c56,c57,c58,c59,c60,c61,c62,c63,c64,c65,c66,c67,c68,c69,c70,c71,c72,c73,c74,c75,c76,c77,u78,u79,u80,u81,u82,u83,u84,u85,c86,c87,c88,c89,c90,c91,c92,c93,c94,c95,c96,c97,c98,c99,c100,c101,c102,c103,c104,c105,c106,c107],[]⟩ W) :
 Code.wp Tryz.prog (bdR 20) Q ⟨#[c0,c1,.func (.func 47) #[] #[.pointer (some ⟨vb,0,none⟩)],c3,c4,c5,c6,c7,c8,c9,c10,.pointer (some ⟨gb,0,none⟩),c12,.pointer (some ⟨lb,0,none⟩),c14,c15,c16,c17,c18,c19,c20,c21,c22,c23,c24,c25,c26,c27,c28,c29,c30,c31,c32,c33,c34,c35,c36,c37,c38,c39,c40,c41,c42,c43,c44,c45,c46,c47,c48,c49,c50,c51,c52,c53,c54,c55,c56,c57,c58,c59,c60,c61,c62,c63,c64,c65,c66,c67,c68,c69,c70,c71,c72,c73,c74,c75,c76,c77,a78,a79,a80,a81,a82,a83,a84,a85,c86,c87,c88,c89,c90,c91,c92,c93,c94,c95,c96,c97,c98,c99,c100,c101,c102,c103,c104,c105,c106,c107],[]⟩ w:=by
 conv => arg 2;whnf
 conv => arg 4;zeta
 replace h:=Lib.hid h
 have hB1 : Hid (Below w.heap.size w w.drew):=(Below.refl _ w).drew
 have kp:=Lib.hid (fun W hW => plus_rq r0 part v h1 h2 h3 h4 W hW)
 have hg1 : Hid (Bk w.drew gb 37 [.bool (rq r0).1,.string (rq r0).2.1,.string (rq r0).2.2]):=hg.below (Below.refl _ w).drew
 have gl:=hg.lt
 have hSf : Hid (∀ W,Below w.heap.size w W → W.cell? ⟨lb,1,none⟩ = some (.int .i64 hh) ∧ W.cell? ⟨lb,2,none⟩ = some (.bool (rq part).1) ∧ W.cell? ⟨lb,3,none⟩ = some (.string (rq part).2.1) ∧ W.cell? ⟨lb,4,none⟩ = some (.string (rq part).2.2)):=fun W hb => ⟨(hl.below hb).cell (j:=1) rfl,(hl.below hb).cell (j:=2) rfl,(hl.below hb).cell (j:=3) rfl,(hl.below hb).cell (j:=4) rfl⟩
 replace hE:=Lib.hid hE;replace hg:=Lib.hid hg;replace hl:=Lib.hid hl;replace kv:=Lib.hid kv
 clear h1 h2 h3 h4
 refine wp_region_noPanic ?_
 refine wp_region_held_drew (S:=fun W => W.cell? ⟨lb,1,none⟩ = some (.int .i64 hh) ∧ W.cell? ⟨lb,2,none⟩ = some (.bool (rq part).1) ∧ W.cell? ⟨lb,3,none⟩ = some (.string (rq part).2.1) ∧ W.cell? ⟨lb,4,none⟩ = some (.string (rq part).2.2)) (by kernel_rfl) (hSf.out _ hB1.out) (fun hS0 => ?_)
 replace hS0:=Lib.hid hS0
 refine wpAnyH_take (i:=1) (oi:=_) (v:=?_) rfl (by kernel_rfl) (by kernel_rfl) (by kernel_rfl) (fun _ _ _ h => h) (Or.inl ⟨by rfl,?_⟩) (hS0.out) ?_
 rotate_left
 · (intro w hSw;obtain ⟨q1,q2,q3,q4⟩:=hSw;go_simp <;> with_reducible rfl)
 try simp only [Act.put,List.setIfInBounds_toArray]
 refine wpAnyH_take (i:=2) (oi:=_) (v:=?_) rfl (by kernel_rfl) (by kernel_rfl) (by kernel_rfl) (fun _ _ _ h => h) (Or.inl ⟨by rfl,?_⟩) (hS0.out) ?_
 rotate_left
 · (intro w hSw;obtain ⟨q1,q2,q3,q4⟩:=hSw;go_simp <;> with_reducible rfl)
 try simp only [Act.put]
 refine wpAnyH_take (i:=3) (oi:=_) (v:=?_) rfl (by kernel_rfl) (by kernel_rfl) (by kernel_rfl) (fun _ _ _ h => h) (Or.inl ⟨by rfl,?_⟩) (hS0.out) ?_
 rotate_left
 · (intro w hSw;obtain ⟨q1,q2,q3,q4⟩:=hSw;go_simp <;> with_reducible rfl)
 try simp only [Act.put]
 refine wpAnyH_take (i:=4) (oi:=_) (v:=?_) rfl (by kernel_rfl) (by kernel_rfl) (by kernel_rfl) (fun _ _ _ h => h) (Or.inl ⟨by rfl,?_⟩) (hS0.out) ?_
 rotate_left
 · (intro w hSw;obtain ⟨q1,q2,q3,q4⟩:=hSw;go_simp <;> with_reducible rfl)
 try simp only [Act.put]
 refine wpAnyH_take (i:=5) (oi:=_) (v:=?_) rfl (by kernel_rfl) (by kernel_rfl) (by kernel_rfl) (fun _ _ _ h => h) (Or.inl ⟨by rfl,?_⟩) (hS0.out) ?_
 rotate_left
 · (intro w hSw;obtain ⟨q1,q2,q3,q4⟩:=hSw;go_simp <;> with_reducible rfl)
 try simp only [Act.put]
 refine wpAnyH_ready (rs:=[0,6]) (by kernel_rfl) (by simp) ?_
 have t1:=hg1.out.cell (j:=0) rfl;have t2:=hg1.out.cell (j:=1) rfl;have t3:=hg1.out.cell (j:=2) rfl;have t7:=hg1.out.lt
 refine AllReadyH.cons (o:=_) rfl (fun K hK => ?_) ?_
 · go_simp
   clear t1 t2 t3 t7
   refine hK.out _ _ (hSf.out _ hB1.out) (fun _ => ?_)
   clear hK K
   try simp only [Act.put,List.setIfInBounds_toArray,List.set_cons_zero,List.set_cons_succ]
   refine wpAnyH_ready (rs:=[6]) (by kernel_rfl) (by simp) ?_
   refine AllReadyH.cons (o:=_) rfl (fun K hK => ?_) ?_
   · go_simp
     refine (kv.out _ hB1.out).mono ?_
     rintro e W2 ⟨rfl,hb⟩
     have hB2 : Hid (Below w.heap.size w W2):=hB1.out.trans (hb.mono hB1.out.size)
     have hg2:=Lib.hid (hg1.out.below hb)
     clear hb
     refine hK.out _ _ (hSf.out _ hB2.out) (fun _ => ?_)
     clear hK K
     try simp only [Act.put,List.setIfInBounds_toArray,List.set_cons_zero,List.set_cons_succ]
     refine wpAnyH_ready (rs:=[7]) (by kernel_rfl) (by simp) ?_
     refine AllReadyH.cons (o:=_) rfl (fun K hK => ?_) ?_
     · go_simp
       refine (kp.out _ (hE.out.below hB2.out)).mono ?_
       rintro e W3 ⟨rfl,hb⟩
       have hB3 : Hid (Below w.heap.size w W3):=hB2.out.trans (hb.mono hB2.out.size)
       have hg3:=Lib.hid (hg2.out.below hb)
       clear hb
       refine hK.out _ _ (hSf.out _ hB3.out) (fun _ => ?_)
       clear hK K
       try simp only [Act.put,List.setIfInBounds_toArray,List.set_cons_zero,List.set_cons_succ]
       have hg4 : Hid (Bk (((W3.setCell ⟨gb,0,none⟩ (.bool (rq (r0 + part * v)).1)).setCell ⟨gb,1,none⟩ (.string (rq (r0 + part * v)).2.1)).setCell ⟨gb,2,none⟩ (.string (rq (r0 + part * v)).2.2)) gb 37 [.bool (rq (r0 + part * v)).1,.string (rq (r0 + part * v)).2.1,.string (rq (r0 + part * v)).2.2]):=((hg3.out.set 0 (.bool (rq (r0 + part * v)).1)).set 1 (.string (rq (r0 + part * v)).2.1)).set 2 (.string (rq (r0 + part * v)).2.2)
       have hK4 : Hid (Kp [gb] w (((W3.setCell ⟨gb,0,none⟩ (.bool (rq (r0 + part * v)).1)).setCell ⟨gb,1,none⟩ (.string (rq (r0 + part * v)).2.1)).setCell ⟨gb,2,none⟩ (.string (rq (r0 + part * v)).2.2))):=((((Kp.refl [gb] w).below hB3.out).set (a:=⟨gb,0,none⟩) _ (.inl (by simp))).set (a:=⟨gb,1,none⟩) _ (.inl (by simp))).set (a:=⟨gb,2,none⟩) _ (.inl (by simp))
       have t1:=hg3.out.cell (j:=0) rfl;have t2:=hg3.out.cell (j:=1) rfl;have t3:=hg3.out.cell (j:=2) rfl;have t4:=hg3.out.frozen 0;have t5:=hg3.out.frozen 1;have t6:=hg3.out.frozen 2;have t7:=hg3.out.lt
       refine wpAnyH_ready (rs:=[8]) (by kernel_rfl) (by simp) ?_
       refine AllReadyH.cons (o:=_) rfl (fun K hK => ?_) ?_
       · go_simp
         refine hK.out _ _ (⟨((((hl.out.below hB3.out).far (p:=⟨gb,0,none⟩) n1.symm _).far (p:=⟨gb,1,none⟩) n1.symm _).far (p:=⟨gb,2,none⟩) n1.symm _).cell (j:=1) rfl,((((hl.out.below hB3.out).far (p:=⟨gb,0,none⟩) n1.symm _).far (p:=⟨gb,1,none⟩) n1.symm _).far (p:=⟨gb,2,none⟩) n1.symm _).cell (j:=2) rfl,((((hl.out.below hB3.out).far (p:=⟨gb,0,none⟩) n1.symm _).far (p:=⟨gb,1,none⟩) n1.symm _).far (p:=⟨gb,2,none⟩) n1.symm _).cell (j:=3) rfl,((((hl.out.below hB3.out).far (p:=⟨gb,0,none⟩) n1.symm _).far (p:=⟨gb,1,none⟩) n1.symm _).far (p:=⟨gb,2,none⟩) n1.symm _).cell (j:=4) rfl⟩) (fun _ => ?_)
         clear hK K
         try simp only [Act.put,List.setIfInBounds_toArray,List.set_cons_zero,List.set_cons_succ]
         refine wpAnyH_done (by kernel_rfl) ?_ _
         refine NoPanic.normal ?_
         exact h.out _ _ _ _ _ _ _ _ _ hg4 hK4
       exact AllReadyH.nil
     exact AllReadyH.nil
   exact AllReadyH.nil
 clear t1 t2 t3 t7
 refine AllReadyH.cons (o:=_) rfl (fun K hK => ?_) ?_
 · go_simp
   refine (kv.out _ hB1.out).mono ?_
   rintro e W2 ⟨rfl,hb⟩
   have hB2 : Hid (Below w.heap.size w W2):=hB1.out.trans (hb.mono hB1.out.size)
   have hg2:=Lib.hid (hg1.out.below hb)
   clear hb
   refine hK.out _ _ (hSf.out _ hB2.out) (fun _ => ?_)
   clear hK K
   try simp only [Act.put,List.setIfInBounds_toArray,List.set_cons_zero,List.set_cons_succ]
   refine wpAnyH_ready (rs:=[0]) (by kernel_rfl) (by simp) ?_
   have t1:=hg2.out.cell (j:=0) rfl;have t2:=hg2.out.cell (j:=1) rfl;have t3:=hg2.out.cell (j:=2) rfl;have t7:=hg2.out.lt
   refine AllReadyH.cons (o:=_) rfl (fun K hK => ?_) ?_
   · go_simp
     clear t1 t2 t3 t7
     refine hK.out _ _ (hSf.out _ hB2.out) (fun _ => ?_)
     clear hK K
     try simp only [Act.put,List.setIfInBounds_toArray,List.set_cons_zero,List.set_cons_succ]
     refine wpAnyH_ready (rs:=[7]) (by kernel_rfl) (by simp) ?_
     refine AllReadyH.cons (o:=_) rfl (fun K hK => ?_) ?_
     · go_simp
       refine (kp.out _ (hE.out.below hB2.out)).mono ?_
       rintro e W3 ⟨rfl,hb⟩
       have hB3 : Hid (Below w.heap.size w W3):=hB2.out.trans (hb.mono hB2.out.size)
       have hg3:=Lib.hid (hg2.out.below hb)
       clear hb
       refine hK.out _ _ (hSf.out _ hB3.out) (fun _ => ?_)
       clear hK K
       try simp only [Act.put,List.setIfInBounds_toArray,List.set_cons_zero,List.set_cons_succ]
       have hg4 : Hid (Bk (((W3.setCell ⟨gb,0,none⟩ (.bool (rq (r0 + part * v)).1)).setCell ⟨gb,1,none⟩ (.string (rq (r0 + part * v)).2.1)).setCell ⟨gb,2,none⟩ (.string (rq (r0 + part * v)).2.2)) gb 37 [.bool (rq (r0 + part * v)).1,.string (rq (r0 + part * v)).2.1,.string (rq (r0 + part * v)).2.2]):=((hg3.out.set 0 (.bool (rq (r0 + part * v)).1)).set 1 (.string (rq (r0 + part * v)).2.1)).set 2 (.string (rq (r0 + part * v)).2.2)
       have hK4 : Hid (Kp [gb] w (((W3.setCell ⟨gb,0,none⟩ (.bool (rq (r0 + part * v)).1)).setCell ⟨gb,1,none⟩ (.string (rq (r0 + part * v)).2.1)).setCell ⟨gb,2,none⟩ (.string (rq (r0 + part * v)).2.2))):=((((Kp.refl [gb] w).below hB3.out).set (a:=⟨gb,0,none⟩) _ (.inl (by simp))).set (a:=⟨gb,1,none⟩) _ (.inl (by simp))).set (a:=⟨gb,2,none⟩) _ (.inl (by simp))
       have t1:=hg3.out.cell (j:=0) rfl;have t2:=hg3.out.cell (j:=1) rfl;have t3:=hg3.out.cell (j:=2) rfl;have t4:=hg3.out.frozen 0;have t5:=hg3.out.frozen 1;have t6:=hg3.out.frozen 2;have t7:=hg3.out.lt
       refine wpAnyH_ready (rs:=[8]) (by kernel_rfl) (by simp) ?_
       refine AllReadyH.cons (o:=_) rfl (fun K hK => ?_) ?_
       · go_simp
         refine hK.out _ _ (⟨((((hl.out.below hB3.out).far (p:=⟨gb,0,none⟩) n1.symm _).far (p:=⟨gb,1,none⟩) n1.symm _).far (p:=⟨gb,2,none⟩) n1.symm _).cell (j:=1) rfl,((((hl.out.below hB3.out).far (p:=⟨gb,0,none⟩) n1.symm _).far (p:=⟨gb,1,none⟩) n1.symm _).far (p:=⟨gb,2,none⟩) n1.symm _).cell (j:=2) rfl,((((hl.out.below hB3.out).far (p:=⟨gb,0,none⟩) n1.symm _).far (p:=⟨gb,1,none⟩) n1.symm _).far (p:=⟨gb,2,none⟩) n1.symm _).cell (j:=3) rfl,((((hl.out.below hB3.out).far (p:=⟨gb,0,none⟩) n1.symm _).far (p:=⟨gb,1,none⟩) n1.symm _).far (p:=⟨gb,2,none⟩) n1.symm _).cell (j:=4) rfl⟩) (fun _ => ?_)
         clear hK K
         try simp only [Act.put,List.setIfInBounds_toArray,List.set_cons_zero,List.set_cons_succ]
         refine wpAnyH_done (by kernel_rfl) ?_ _
         refine NoPanic.normal ?_
         exact h.out _ _ _ _ _ _ _ _ _ hg4 hK4
       exact AllReadyH.nil
     exact AllReadyH.nil
   exact AllReadyH.nil
 exact AllReadyH.nil
end Sh
end Go.Proofs.YtioidbebjgeahaaGreatDoor
namespace Go.Proofs.YtioidbebjgeahaaGreatDoor
open Go.RowKit Go.Shelf
namespace Sh
open Nt Ci
theorem one_at {W : World} {b : Nat} {v : Value} (h : W.cell? ⟨b,0,none⟩ = some v) : ∀ j u,[v][j]? = some u → W.cell? ((⟨b,0,none⟩ : Addr).add j) = some u:=by
 intro j u hj
 match j,hj with
 | 0,hj => simp only [List.getElem?_cons_zero,Option.some.injEq] at hj;subst hj;simpa [Addr.add] using h
 | j + 1,hj => simp at hj
theorem three_at {W : World} {b : Nat} {x y z : Value} (h0 : W.cell? ⟨b,0,none⟩ = some x) (h1 : W.cell? ⟨b,1,none⟩ = some y) (h2 : W.cell? ⟨b,2,none⟩ = some z) : ∀ j u,[x,y,z][j]? = some u → W.cell? ((⟨b,0,none⟩ : Addr).add j) = some u:=by
 intro j u hj
 match j,hj with
 | 0,hj => simp at hj;subst hj;simpa [Addr.add] using h0
 | 1,hj => simp at hj;subst hj;simpa [Addr.add] using h1
 | 2,hj => simp at hj;subst hj;simpa [Addr.add] using h2
 | j + 3,hj => simp at hj
theorem some_funS {P : Program} {md : Region.Mode} {ops : Array Oper} {Q : Exit → Act → World → Prop} {S : World → Prop} {n : Nat} {l : Array Bool} {a : Act} {w : World}
 (h : ∀ F : Nat → Array Bool → Act → World → Prop,F = wpAnyH P md ops Q S → F n l a w) : wpAnyH P md ops Q S n l a w:=h _ rfl
theorem fun_as {F : Nat → Array Bool → Act → World → Prop} {n n' : Nat} {l l' : Array Bool} {a a' : Act} {w : World} (hn : n' = n) (hl : l' = l) (ha : a' = a) (h : F n l a w) : F n' l' a' w:=by rw [hn,hl,ha];exact h
theorem own_form3 {W : World} {base n m : Nat} {e : TypeId} {u : Value} {xs : List Value} (h : W.ownsRow base e m u n xs) : ∃ A cap,u = .slice A n cap:=by
 rcases h.2 with ⟨rfl,h0⟩ | ⟨g,cap,cur,rfl,_⟩
 · exact ⟨none,0,by rw [h0]⟩
 · exact ⟨_,cap,rfl⟩
theorem kp_own {x : Nat} {w W W' : World} {L : List Nat} {o : Option Nat} (h : Kp (x :: L) w W) (hg : W.grownBy W' o) (hl : ∀ b,o = some b → b ∈ L ∨ w.heap.size ≤ b) : Kp (x :: L) w W' :=
 h.grown hg fun b e => (hl b e).imp (List.mem_cons_of_mem _) id
set_option maxRecDepth 1000000 in
set_option maxHeartbeats 16000000 in
theorem bd22 {c1 c2 c3 c4 c5 c6 c7 c8 c10 c12 c13 c14 c15 c16 c17 c18 c19 c20 c21 c22 c23 c24 c25 c26 c27 c28 c29 c30 c31 c32 c33 c34 c35 c36 c37 c38 c39 c40 c41 c42 c43 c44 c45 c46 c47 c48 c49 c50 c51 c52 c53 c54 c55 c56 c57 c58 c59 c60 c61 c62 c63 c64 c65 c66 c67 c68 c69 c70 c71 c72 c73 c74 c75 c76 c77 c78 c79 c80 c81 c82 c83 c84 c85 c86 c107 a87 a88 a89 a90 a91 a92 a93 a94 a95 a96 a97 a98 a99 a100 a101 a102 a103 a104 a105 a106 : Value} {Q : Exit → Act → World → Prop} (xb gb rb m i ca cb B1 : Nat) (Aa Ab : Option Addr) (uv : Value) (hds cbs : List Value) (x : Raw) (w : World) (hi : i ≤ 1000) (hx : Bk w xb 74 [uv,.slice Aa i ca,.slice Ab i cb]) (hb : Bk w gb 37 [.bool x.1,.string x.2.1,.string x.2.2]) (ngx : gb ≠ xb) (hB1 : B1 ≤ w.heap.size) (hxB : xb < B1) (oa : w.ownsRow B1 29 1 (Value.slice Aa i ca) i hds) (ob : w.ownsRow B1 37 3 (Value.slice Ab i cb) i cbs) (ap : ∀ b,(Value.slice Aa i ca).ownBlock = some b → (Value.slice Ab i cb).ownBlock ≠ some b) (nga : (Value.slice Aa i ca).ownBlock ≠ some gb) (ngb : (Value.slice Ab i cb).ownBlock ≠ some gb)
 (h : ∀ (u87 u88 u89 u90 u91 u92 u93 u94 u95 u96 u97 u98 u99 u100 u101 u102 u103 u104 u105 u106 : Value) (Aa2 Ab2 : Option Addr) (ca2 cb2 : Nat) (W : World) (_ : Hid (Kp (xb :: ((Value.slice Aa i ca).ownBlock.toList ++ (Value.slice Ab i cb).ownBlock.toList)) w W)) (_ : Hid (Bk W xb 74 [uv,.slice Aa2 (i + 1) ca2,.slice Ab2 (i + 1) cb2])) (_ : Hid (W.ownsRow B1 29 1 (Value.slice Aa2 (i + 1) ca2) (i + 1) (hds ++ [.slice (some ⟨rb,0,none⟩) m m]))) (_ : Hid (W.ownsRow B1 37 3 (Value.slice Ab2 (i + 1) cb2) (i + 1) (cbs ++ [.bool x.1,.string x.2.1,.string x.2.2]))) (_ : Hid (∀ b,(Value.slice Aa2 (i + 1) ca2).ownBlock = some b → (Value.slice Ab2 (i + 1) cb2).ownBlock ≠ some b)) (_ : Hid ((Value.slice Aa2 (i + 1) ca2).ownBlock = (Value.slice Aa i ca).ownBlock ∨ ∃ b,(Value.slice Aa2 (i + 1) ca2).ownBlock = some b ∧ w.heap.size ≤ b)) (_ : Hid ((Value.slice Ab2 (i + 1) cb2).ownBlock = (Value.slice Ab i cb).ownBlock ∨ ∃ b,(Value.slice Ab2 (i + 1) cb2).ownBlock = some b ∧ w.heap.size ≤ b)),Q .normal ⟨#[.pointer (some ⟨xb,0,none⟩),c1,c2,c3,c4,c5,c6,c7,c8,.slice (some ⟨rb,0,none⟩) m m,c10,.pointer (some ⟨gb,0,none⟩),c12,c13,c14,c15,c16,c17,c18,c19,c20,c21,c22,c23,c24,c25,c26,c27,c28,c29,c30,c31,c32,c33,c34,c35,c36,c37,c38,c39,c40,c41,c42,c43,c44,c45,c46,c47,c48,c49,c50,c51,c52,c53,c54,c55,c56,c57,c58,c59,c60,c61,c62,c63,c64,c65,c66,c67,c68,c69,c70,c71,c72,c73,c74,c75,c76,c77,c78,c79,c80,c81,c82,c83,c84,c85,c86,u87,u88,u89,u90,u91,u92,u93,u94,u95,u96,u97,u98,u99,u100,u101,u102,u103,u104,u105,u106,c107],[]⟩ W) :
 Code.wp Tryz.prog (bdR 22) Q ⟨#[.pointer (some ⟨xb,0,none⟩),c1,c2,c3,c4,c5,c6,c7,c8,.slice (some ⟨rb,0,none⟩) m m,c10,.pointer (some ⟨gb,0,none⟩),c12,c13,c14,c15,c16,c17,c18,c19,c20,c21,c22,c23,c24,c25,c26,c27,c28,c29,c30,c31,c32,c33,c34,c35,c36,c37,c38,c39,c40,c41,c42,c43,c44,c45,c46,c47,c48,c49,c50,c51,c52,c53,c54,c55,c56,c57,c58,c59,c60,c61,c62,c63,c64,c65,c66,c67,c68,c69,c70,c71,c72,c73,c74,c75,c76,c77,c78,c79,c80,c81,c82,c83,c84,c85,c86,a87,a88,a89,a90,a91,a92,a93,a94,a95,a96,a97,a98,a99,a100,a101,a102,a103,a104,a105,a106,c107],[]⟩ w:=by
 conv => arg 2;whnf
 conv => arg 4;zeta
 replace h:=Lib.hid h
 have hk0 : Hid (Kp (xb :: ((Value.slice Aa i ca).ownBlock.toList ++ (Value.slice Ab i cb).ownBlock.toList)) w w.drew):=(Kp.refl _ w).drew
 have hx0 : Hid (Bk w.drew xb 74 [uv,.slice Aa i ca,.slice Ab i cb]):=hx.below (Below.refl _ w).drew
 have hb0 : Hid (Bk w.drew gb 37 [.bool x.1,.string x.2.1,.string x.2.2]):=hb.below (Below.refl _ w).drew
 have oa0:=Lib.hid (own_below' oa (Below.refl _ w).drew);have ob0:=Lib.hid (own_below' ob (Below.refl _ w).drew)
 have hla : Hid (∀ b,(Value.slice Aa i ca).ownBlock = some b → B1 ≤ b ∧ b < w.heap.size):=fun b e => oa.lt b e;have hlb : Hid (∀ b,(Value.slice Ab i cb).ownBlock = some b → B1 ≤ b ∧ b < w.heap.size):=fun b e => ob.lt b e
 have nxa : Hid ((Value.slice Aa i ca).ownBlock ≠ some xb):=fun e => by have:=(oa.lt xb e).1;omega
 have nxb : Hid ((Value.slice Ab i cb).ownBlock ≠ some xb):=fun e => by have:=(ob.lt xb e).1;omega
 have gl:=hb.lt;have xl:=hx.lt
 replace ap:=Lib.hid ap
 clear oa ob hb hx
 replace hB1:=Lib.hid hB1;replace nga:=Lib.hid nga;replace ngb:=Lib.hid ngb;replace ngx:=Lib.hid ngx;replace hxB:=Lib.hid hxB;replace gl:=Lib.hid gl;replace xl:=Lib.hid xl
 have hma : Hid (∀ b,(Value.slice Aa i ca).ownBlock = some b → b ∈ ((Value.slice Aa i ca).ownBlock.toList ++ (Value.slice Ab i cb).ownBlock.toList) ∨ w.heap.size ≤ b):=fun b e => .inl (by rw [e];simp)
 have hmb : Hid (∀ b,(Value.slice Ab i cb).ownBlock = some b → b ∈ ((Value.slice Aa i ca).ownBlock.toList ++ (Value.slice Ab i cb).ownBlock.toList) ∨ w.heap.size ≤ b):=fun b e => .inl (by rw [e];simp)
 obtain ⟨i0,hi0,hzz⟩:=Option.map_eq_some_iff.1 infoRS
 simp only [Prod.mk.injEq] at hzz
 obtain ⟨z0i0,z1i0,z2i0⟩:=hzz
 replace hi0:=Lib.hid hi0;replace z0i0:=Lib.hid z0i0;replace z1i0:=Lib.hid z1i0;replace z2i0:=Lib.hid z2i0
 obtain ⟨i3,hi3,hzz⟩:=Option.map_eq_some_iff.1 infoQ
 simp only [Prod.mk.injEq] at hzz
 obtain ⟨z0i3,z1i3,z2i3⟩:=hzz
 replace hi3:=Lib.hid hi3;replace z0i3:=Lib.hid z0i3;replace z1i3:=Lib.hid z1i3;replace z2i3:=Lib.hid z2i3
 refine wp_region_noPanic ?_
 refine wp_region_held_drew (S:=fun W => W.cell? ⟨gb,0,none⟩ = some (.bool x.1) ∧ W.cell? ⟨gb,1,none⟩ = some (.string x.2.1) ∧ W.cell? ⟨gb,2,none⟩ = some (.string x.2.2)) (by kernel_rfl) (⟨hb0.out.cell (j:=0) rfl,hb0.out.cell (j:=1) rfl,hb0.out.cell (j:=2) rfl⟩) (fun hS0 => ?_)
 replace hS0:=Lib.hid hS0
 refine wpAnyH_take (i:=0) (oi:=_) (v:=?_) rfl (by kernel_rfl) (by kernel_rfl) (by kernel_rfl) (fun _ _ _ h => h) (Or.inl ⟨by rfl,?_⟩) (hS0.out) ?_
 rotate_left
 · (intro w hSw;obtain ⟨q1,q2,q3⟩:=hSw;go_simp <;> with_reducible rfl)
 try simp only [Act.put,List.setIfInBounds_toArray]
 refine wpAnyH_take (i:=1) (oi:=_) (v:=?_) rfl (by kernel_rfl) (by kernel_rfl) (by kernel_rfl) (fun _ _ _ h => h) (Or.inl ⟨by rfl,?_⟩) (hS0.out) ?_
 rotate_left
 · (intro w hSw;obtain ⟨q1,q2,q3⟩:=hSw;go_simp <;> with_reducible rfl)
 try simp only [Act.put]
 refine wpAnyH_take (i:=2) (oi:=_) (v:=?_) rfl (by kernel_rfl) (by kernel_rfl) (by kernel_rfl) (fun _ _ _ h => h) (Or.inl ⟨by rfl,?_⟩) (hS0.out) ?_
 rotate_left
 · (intro w hSw;obtain ⟨q1,q2,q3⟩:=hSw;go_simp <;> with_reducible rfl)
 try simp only [Act.put]
 refine wpAnyH_take (i:=3) (oi:=_) (v:=?_) rfl (by kernel_rfl) (by kernel_rfl) (by kernel_rfl) (fun _ _ _ h => h) (Or.inl ⟨by rfl,?_⟩) (hS0.out) ?_
 rotate_left
 · (intro w hSw;obtain ⟨q1,q2,q3⟩:=hSw;go_simp <;> with_reducible rfl)
 try simp only [Act.put]
 refine wpAnyH_take (i:=4) (oi:=_) (v:=?_) rfl (by kernel_rfl) (by kernel_rfl) (by kernel_rfl) (fun _ _ _ h => h) (Or.inl ⟨by rfl,?_⟩) (hS0.out) ?_
 rotate_left
 · (intro w hSw;obtain ⟨q1,q2,q3⟩:=hSw;go_simp <;> with_reducible rfl)
 try simp only [Act.put]
 refine wpAnyH_take (i:=6) (oi:=_) (v:=?_) rfl (by kernel_rfl) (by kernel_rfl) (by kernel_rfl) (fun _ _ _ h => h) (Or.inl ⟨by rfl,?_⟩) (hS0.out) ?_
 rotate_left
 · (intro w hSw;obtain ⟨q1,q2,q3⟩:=hSw;go_simp <;> with_reducible rfl)
 try simp only [Act.put]
 refine wpAnyH_take (i:=9) (oi:=_) (v:=?_) rfl (by kernel_rfl) (by kernel_rfl) (by kernel_rfl) (fun _ _ _ h => h) (Or.inl ⟨by rfl,?_⟩) (hS0.out) ?_
 rotate_left
 · (intro w hSw;obtain ⟨q1,q2,q3⟩:=hSw;go_simp <;> with_reducible rfl)
 try simp only [Act.put]
 refine wpAnyH_take (i:=10) (oi:=_) (v:=?_) rfl (by kernel_rfl) (by kernel_rfl) (by kernel_rfl) (fun _ _ _ h => h) (Or.inl ⟨by rfl,?_⟩) (hS0.out) ?_
 rotate_left
 · (intro w hSw;obtain ⟨q1,q2,q3⟩:=hSw;go_simp <;> with_reducible rfl)
 try simp only [Act.put]
 refine wpAnyH_take (i:=11) (oi:=_) (v:=?_) rfl (by kernel_rfl) (by kernel_rfl) (by kernel_rfl) (fun _ _ _ h => h) (Or.inl ⟨by rfl,?_⟩) (hS0.out) ?_
 rotate_left
 · (intro w hSw;obtain ⟨q1,q2,q3⟩:=hSw;go_simp <;> with_reducible rfl)
 try simp only [Act.put]
 refine wpAnyH_take (i:=13) (oi:=_) (v:=?_) rfl (by kernel_rfl) (by kernel_rfl) (by kernel_rfl) (fun _ _ _ h => h) (Or.inl ⟨by rfl,?_⟩) (hS0.out) ?_
 rotate_left
 · (intro w hSw;obtain ⟨q1,q2,q3⟩:=hSw;go_simp <;> with_reducible rfl)
 try simp only [Act.put]
 clear hS0
 refine some_funS (fun F hF => ?_)
 replace hF:=Lib.hid hF
 have Lx5x7x8x12x14x15 : ∀ (l7 : Nat) (Aa2 : Option Addr) (ca2 : Nat) (l14 : Nat) (Ab2 : Option Addr) (cb2 : Nat) (W : World),Hid (Kp (xb :: ((Value.slice Aa i ca).ownBlock.toList ++ (Value.slice Ab i cb).ownBlock.toList)) w W) → Hid (Bk W xb 74 [uv,.slice Aa i ca,.slice Ab i cb]) → Hid (Bk W gb 37 [.bool x.1,.string x.2.1,.string x.2.2]) → Hid (W.ownsRow B1 29 1 (Value.slice Aa2 (i + 1) ca2) (i + 1) (hds ++ [.slice (some ⟨rb,0,none⟩) m m])) → Hid ((Value.slice Aa2 (i + 1) ca2).ownBlock = (Value.slice Aa i ca).ownBlock ∨ ∃ b,(Value.slice Aa2 (i + 1) ca2).ownBlock = some b ∧ w.heap.size ≤ b) → Hid (W.ownsRow B1 37 3 (Value.slice Ab2 (i + 1) cb2) (i + 1) (cbs ++ [.bool x.1,.string x.2.1,.string x.2.2])) → Hid ((Value.slice Ab2 (i + 1) cb2).ownBlock = (Value.slice Ab i cb).ownBlock ∨ ∃ b,(Value.slice Ab2 (i + 1) cb2).ownBlock = some b ∧ w.heap.size ≤ b) → Hid (∀ b,(Value.slice Aa2 (i + 1) ca2).ownBlock = some b → (Value.slice Ab2 (i + 1) cb2).ownBlock ≠ some b) → F 6 #[true,true,true,true,true,true,true,true,true,true,true,true,true,true,true,true,false,false,false,false,false,false] ⟨#[.pointer (some ⟨xb,0,none⟩),c1,c2,c3,c4,c5,c6,c7,c8,.slice (some ⟨rb,0,none⟩) m m,c10,.pointer (some ⟨gb,0,none⟩),c12,c13,c14,c15,c16,c17,c18,c19,c20,c21,c22,c23,c24,c25,c26,c27,c28,c29,c30,c31,c32,c33,c34,c35,c36,c37,c38,c39,c40,c41,c42,c43,c44,c45,c46,c47,c48,c49,c50,c51,c52,c53,c54,c55,c56,c57,c58,c59,c60,c61,c62,c63,c64,c65,c66,c67,c68,c69,c70,c71,c72,c73,c74,c75,c76,c77,c78,c79,c80,c81,c82,c83,c84,c85,c86,.pointer (some ⟨xb,0,none⟩),.pointer (some ⟨xb,0,none⟩),.pointer (some ⟨xb,0,none⟩),.pointer (some ⟨xb,0,none⟩),.pointer (some ⟨xb,1,none⟩),.slice Aa i ca,.slice (some ⟨rb,0,none⟩) m m,.slice (some ⟨l7,0,none⟩) 1 1,.slice Aa2 (i + 1) ca2,.pointer (some ⟨xb,0,none⟩),.pointer (some ⟨xb,0,none⟩),.pointer (some ⟨xb,2,none⟩),.slice Ab i cb,.agg #[.bool x.1,.string x.2.1,.string x.2.2],.slice (some ⟨l14,0,none⟩) 1 1,.slice Ab2 (i + 1) cb2,a103,a104,a105,a106,c107],[]⟩ W:=by
  intro l7 Aa2 ca2 l14 Ab2 cb2 W hk hx hb oa na ob nb ap
  rw [hF.out]
  refine wpAnyH_take (i:=16) (oi:=_) (v:=?_) rfl (by kernel_rfl) (by kernel_rfl) (by kernel_rfl) (fun _ _ _ h => h) (Or.inl ⟨by rfl,?_⟩) (⟨hb.out.cell (j:=0) rfl,hb.out.cell (j:=1) rfl,hb.out.cell (j:=2) rfl⟩) ?_
  rotate_left
  · (intro w hSw;obtain ⟨q1,q2,q3⟩:=hSw;go_simp <;> with_reducible rfl)
  try simp only [Act.put,List.setIfInBounds_toArray,List.set_cons_zero,List.set_cons_succ]
  refine wpAnyH_take (i:=17) (oi:=_) (v:=?_) rfl (by kernel_rfl) (by kernel_rfl) (by kernel_rfl) (fun _ _ _ h => h) (Or.inl ⟨by rfl,?_⟩) (⟨hb.out.cell (j:=0) rfl,hb.out.cell (j:=1) rfl,hb.out.cell (j:=2) rfl⟩) ?_
  rotate_left
  · (intro w hSw;obtain ⟨q1,q2,q3⟩:=hSw;go_simp <;> with_reducible rfl)
  try simp only [Act.put,List.setIfInBounds_toArray,List.set_cons_zero,List.set_cons_succ]
  have x1:=hx.out.cell (j:=1) rfl;have f1:=hx.out.frozen 1;have x9:=hx.out.lt
  refine wpAnyH_ready (rs:=[18]) (by kernel_rfl) (by simp) ?_
  refine AllReadyH.cons (o:=_) rfl (fun K hK => ?_) ?_
  · go_simp
    have hb2 : Hid (Bk (W.setCell ⟨xb,1,none⟩ (.slice Aa2 (i + 1) ca2)) gb 37 [.bool x.1,.string x.2.1,.string x.2.2]):=hb.out.far (p:=⟨xb,1,none⟩) ngx.out _
    have hx2 : Hid (Bk (W.setCell ⟨xb,1,none⟩ (.slice Aa2 (i + 1) ca2)) xb 74 [uv,.slice Aa2 (i + 1) ca2,.slice Ab i cb]):=hx.out.set 1 (.slice Aa2 (i + 1) ca2)
    have hk2 : Hid (Kp (xb :: ((Value.slice Aa i ca).ownBlock.toList ++ (Value.slice Ab i cb).ownBlock.toList)) w (W.setCell ⟨xb,1,none⟩ (.slice Aa2 (i + 1) ca2))):=hk.out.set (a:=⟨xb,1,none⟩) _ (.inl (by simp))
    have nxa2 : Hid ((Value.slice Aa2 (i + 1) ca2).ownBlock ≠ some xb):=fun e => by rcases na.out with c | ⟨b,c,d⟩;(· exact nxa.out (c ▸ e));(· rw [c] at e;cases e;have:=xl.out;omega)
    have nxb2 : Hid ((Value.slice Ab2 (i + 1) cb2).ownBlock ≠ some xb):=fun e => by rcases nb.out with c | ⟨b,c,d⟩;(· exact nxb.out (c ▸ e));(· rw [c] at e;cases e;have:=xl.out;omega)
    have oa2:=Lib.hid (oa.out.kept (grown_set W ⟨xb,1,none⟩ (.slice Aa2 (i + 1) ca2)) (.inr nxa2.out));have ob2:=Lib.hid (ob.out.kept (grown_set W ⟨xb,1,none⟩ (.slice Aa2 (i + 1) ca2)) (.inr nxb2.out))
    clear x1 f1 x9
    refine hK.out _ _ (⟨hb2.out.cell (j:=0) rfl,hb2.out.cell (j:=1) rfl,hb2.out.cell (j:=2) rfl⟩) (fun _ => ?_)
    clear hK K
    try simp only [List.setIfInBounds_toArray,List.set_cons_zero,List.set_cons_succ]
    refine wpAnyH_take (i:=19) (oi:=_) (v:=?_) rfl (by kernel_rfl) (by kernel_rfl) (by kernel_rfl) (fun _ _ _ h => h) (Or.inl ⟨by rfl,?_⟩) (⟨hb2.out.cell (j:=0) rfl,hb2.out.cell (j:=1) rfl,hb2.out.cell (j:=2) rfl⟩) ?_
    rotate_left
    · (intro w hSw;obtain ⟨q1,q2,q3⟩:=hSw;go_simp <;> with_reducible rfl)
    try simp only [Act.put,List.setIfInBounds_toArray,List.set_cons_zero,List.set_cons_succ]
    refine wpAnyH_take (i:=20) (oi:=_) (v:=?_) rfl (by kernel_rfl) (by kernel_rfl) (by kernel_rfl) (fun _ _ _ h => h) (Or.inl ⟨by rfl,?_⟩) (⟨hb2.out.cell (j:=0) rfl,hb2.out.cell (j:=1) rfl,hb2.out.cell (j:=2) rfl⟩) ?_
    rotate_left
    · (intro w hSw;obtain ⟨q1,q2,q3⟩:=hSw;go_simp <;> with_reducible rfl)
    try simp only [Act.put,List.setIfInBounds_toArray,List.set_cons_zero,List.set_cons_succ]
    have x1:=hx2.out.cell (j:=2) rfl;have f1:=hx2.out.frozen 2;have x9:=hx2.out.lt
    refine wpAnyH_ready (rs:=[21]) (by kernel_rfl) (by simp) ?_
    refine AllReadyH.cons (o:=_) rfl (fun K hK => ?_) ?_
    · go_simp
      have hb3 : Hid (Bk ((W.setCell ⟨xb,1,none⟩ (.slice Aa2 (i + 1) ca2)).setCell ⟨xb,2,none⟩ (.slice Ab2 (i + 1) cb2)) gb 37 [.bool x.1,.string x.2.1,.string x.2.2]):=hb2.out.far (p:=⟨xb,2,none⟩) ngx.out _
      have hx3 : Hid (Bk ((W.setCell ⟨xb,1,none⟩ (.slice Aa2 (i + 1) ca2)).setCell ⟨xb,2,none⟩ (.slice Ab2 (i + 1) cb2)) xb 74 [uv,.slice Aa2 (i + 1) ca2,.slice Ab2 (i + 1) cb2]):=hx2.out.set 2 (.slice Ab2 (i + 1) cb2)
      have hk3 : Hid (Kp (xb :: ((Value.slice Aa i ca).ownBlock.toList ++ (Value.slice Ab i cb).ownBlock.toList)) w ((W.setCell ⟨xb,1,none⟩ (.slice Aa2 (i + 1) ca2)).setCell ⟨xb,2,none⟩ (.slice Ab2 (i + 1) cb2))):=hk2.out.set (a:=⟨xb,2,none⟩) _ (.inl (by simp))
      have oa3:=Lib.hid (oa2.out.kept (grown_set (W.setCell ⟨xb,1,none⟩ (.slice Aa2 (i + 1) ca2)) ⟨xb,2,none⟩ (.slice Ab2 (i + 1) cb2)) (.inr nxa2.out));have ob3:=Lib.hid (ob2.out.kept (grown_set (W.setCell ⟨xb,1,none⟩ (.slice Aa2 (i + 1) ca2)) ⟨xb,2,none⟩ (.slice Ab2 (i + 1) cb2)) (.inr nxb2.out))
      clear x1 f1 x9
      refine hK.out _ _ (⟨hb3.out.cell (j:=0) rfl,hb3.out.cell (j:=1) rfl,hb3.out.cell (j:=2) rfl⟩) (fun _ => ?_)
      clear hK K
      try simp only [List.setIfInBounds_toArray,List.set_cons_zero,List.set_cons_succ]
      refine wpAnyH_done (by kernel_rfl) ?_ _
      refine NoPanic.normal ?_
      exact h.out _ _ _ _ _ _ _ _ _ _ _ _ _ _ _ _ _ _ _ _ _ _ _ _ _ hk3 hx3 oa3 ob3 ap na nb
    exact AllReadyH.nil
  exact AllReadyH.nil
 have Lx5x7x8x12x14 : ∀ (l7 : Nat) (Aa2 : Option Addr) (ca2 : Nat) (l14 : Nat) (W : World),Hid (Kp (xb :: ((Value.slice Aa i ca).ownBlock.toList ++ (Value.slice Ab i cb).ownBlock.toList)) w W) → Hid (Bk W xb 74 [uv,.slice Aa i ca,.slice Ab i cb]) → Hid (Bk W gb 37 [.bool x.1,.string x.2.1,.string x.2.2]) → Hid (W.ownsRow B1 29 1 (Value.slice Aa2 (i + 1) ca2) (i + 1) (hds ++ [.slice (some ⟨rb,0,none⟩) m m])) → Hid ((Value.slice Aa2 (i + 1) ca2).ownBlock = (Value.slice Aa i ca).ownBlock ∨ ∃ b,(Value.slice Aa2 (i + 1) ca2).ownBlock = some b ∧ w.heap.size ≤ b) → Hid (W.ownsRow B1 37 3 (Value.slice Ab i cb) i cbs) → Hid (∀ b,(Value.slice Aa2 (i + 1) ca2).ownBlock = some b → (Value.slice Ab i cb).ownBlock ≠ some b) → Hid ((W.cell? ⟨l14,0,none⟩ = some (.bool x.1) ∧ W.cell? ⟨l14,1,none⟩ = some (.string x.2.1) ∧ W.cell? ⟨l14,2,none⟩ = some (.string x.2.2)) ∧ w.heap.size ≤ l14 ∧ l14 < W.heap.size) → F 7 #[true,true,true,true,true,true,true,true,true,true,true,true,true,true,true,false,false,false,false,false,false,false] ⟨#[.pointer (some ⟨xb,0,none⟩),c1,c2,c3,c4,c5,c6,c7,c8,.slice (some ⟨rb,0,none⟩) m m,c10,.pointer (some ⟨gb,0,none⟩),c12,c13,c14,c15,c16,c17,c18,c19,c20,c21,c22,c23,c24,c25,c26,c27,c28,c29,c30,c31,c32,c33,c34,c35,c36,c37,c38,c39,c40,c41,c42,c43,c44,c45,c46,c47,c48,c49,c50,c51,c52,c53,c54,c55,c56,c57,c58,c59,c60,c61,c62,c63,c64,c65,c66,c67,c68,c69,c70,c71,c72,c73,c74,c75,c76,c77,c78,c79,c80,c81,c82,c83,c84,c85,c86,.pointer (some ⟨xb,0,none⟩),.pointer (some ⟨xb,0,none⟩),.pointer (some ⟨xb,0,none⟩),.pointer (some ⟨xb,0,none⟩),.pointer (some ⟨xb,1,none⟩),.slice Aa i ca,.slice (some ⟨rb,0,none⟩) m m,.slice (some ⟨l7,0,none⟩) 1 1,.slice Aa2 (i + 1) ca2,.pointer (some ⟨xb,0,none⟩),.pointer (some ⟨xb,0,none⟩),.pointer (some ⟨xb,2,none⟩),.slice Ab i cb,.agg #[.bool x.1,.string x.2.1,.string x.2.2],.slice (some ⟨l14,0,none⟩) 1 1,a102,a103,a104,a105,a106,c107],[]⟩ W:=by
  intro l7 Aa2 ca2 l14 W hk hx hb oa na ob ap c14
  rw [hF.out]
  refine wpAnyH_ready (rs:=[15]) (by kernel_rfl) (by simp) ?_
  refine AllReadyH.cons (o:=_) rfl (fun K hK => ?_) ?_
  · rw [if_pos (by rfl)]
    refine Nt.wp_append_new _ _ _ 29 rfl B1 37 i3 (.agg #[.bool false,.string ⟨#[]⟩,.string ⟨#[]⟩]) 3 40 Tryz.underlying29 hi3.out z0i3.out z1i3.out z2i3.out rfl (by decide) (.slice Ab i cb) i cbs rfl ob.out ⟨l14,0,none⟩ 1 1 [.bool x.1,.string x.2.1,.string x.2.2] rfl rfl (three_at c14.out.1.1 c14.out.1.2.1 c14.out.1.2.2) (fun u hu => raw_cell x u hu) (by omega) (by unfold maxLen;omega) (by omega) (Nat.le_trans hB1.out hk.out.size) ?_
    intro vx wx hox hgx hnx
    obtain ⟨A9,c9,rfl⟩:=own_form3 hox
    have hb2:=Lib.hid (hb.out.grown hgx (fun e => ngb.out e.symm))
    have hx2:=Lib.hid (hx.out.grown hgx (fun e => nxb.out e.symm))
    have hk2:=Lib.hid (kp_own hk.out hgx hmb.out)
    have oa2:=Lib.hid (oa.out.kept hgx (by cases e : (Value.slice Aa2 (i + 1) ca2).ownBlock with | none => exact .inl rfl | some b => exact .inr (fun e2 => ap.out b e e2.symm)))
    have nb2 : Hid ((Value.slice A9 (i + 1) c9).ownBlock = (Value.slice Ab i cb).ownBlock ∨ ∃ b,(Value.slice A9 (i + 1) c9).ownBlock = some b ∧ w.heap.size ≤ b):=hnx.imp id fun e => ⟨_,e,hk.out.size⟩
    have ap2 : Hid (∀ b,(Value.slice Aa2 (i + 1) ca2).ownBlock = some b → (Value.slice A9 (i + 1) c9).ownBlock ≠ some b):=fun b e e2 => by rcases hnx with c | c;(· exact ap.out b e (c ▸ e2));(· rw [c] at e2;cases e2;have:=(oa.out.lt _ e).2;omega)
    refine hK.out _ _ (⟨hb2.out.cell (j:=0) rfl,hb2.out.cell (j:=1) rfl,hb2.out.cell (j:=2) rfl⟩) (fun _ => ?_)
    clear hK K
    try simp only [Act.put,List.setIfInBounds_toArray,List.set_cons_zero,List.set_cons_succ]
    rw [← hF.out]
    exact Lx5x7x8x12x14x15 l7 Aa2 ca2 l14 A9 c9 _ hk2 hx2 hb2 oa2 na (Lib.hid hox) nb2 ap2
  exact AllReadyH.nil
 have Lx5x7x12x14 : ∀ (l7 : Nat) (l14 : Nat) (W : World),Hid (Kp (xb :: ((Value.slice Aa i ca).ownBlock.toList ++ (Value.slice Ab i cb).ownBlock.toList)) w W) → Hid (Bk W xb 74 [uv,.slice Aa i ca,.slice Ab i cb]) → Hid (Bk W gb 37 [.bool x.1,.string x.2.1,.string x.2.2]) → Hid (W.ownsRow B1 29 1 (Value.slice Aa i ca) i hds) → Hid (W.ownsRow B1 37 3 (Value.slice Ab i cb) i cbs) → Hid (∀ b,(Value.slice Aa i ca).ownBlock = some b → (Value.slice Ab i cb).ownBlock ≠ some b) → Hid (W.cell? ⟨l7,0,none⟩ = some (.slice (some ⟨rb,0,none⟩) m m) ∧ w.heap.size ≤ l7 ∧ l7 < W.heap.size) → Hid ((W.cell? ⟨l14,0,none⟩ = some (.bool x.1) ∧ W.cell? ⟨l14,1,none⟩ = some (.string x.2.1) ∧ W.cell? ⟨l14,2,none⟩ = some (.string x.2.2)) ∧ w.heap.size ≤ l14 ∧ l14 < W.heap.size) → F 8 #[true,true,true,true,true,true,true,true,false,true,true,true,true,true,true,false,false,false,false,false,false,false] ⟨#[.pointer (some ⟨xb,0,none⟩),c1,c2,c3,c4,c5,c6,c7,c8,.slice (some ⟨rb,0,none⟩) m m,c10,.pointer (some ⟨gb,0,none⟩),c12,c13,c14,c15,c16,c17,c18,c19,c20,c21,c22,c23,c24,c25,c26,c27,c28,c29,c30,c31,c32,c33,c34,c35,c36,c37,c38,c39,c40,c41,c42,c43,c44,c45,c46,c47,c48,c49,c50,c51,c52,c53,c54,c55,c56,c57,c58,c59,c60,c61,c62,c63,c64,c65,c66,c67,c68,c69,c70,c71,c72,c73,c74,c75,c76,c77,c78,c79,c80,c81,c82,c83,c84,c85,c86,.pointer (some ⟨xb,0,none⟩),.pointer (some ⟨xb,0,none⟩),.pointer (some ⟨xb,0,none⟩),.pointer (some ⟨xb,0,none⟩),.pointer (some ⟨xb,1,none⟩),.slice Aa i ca,.slice (some ⟨rb,0,none⟩) m m,.slice (some ⟨l7,0,none⟩) 1 1,a95,.pointer (some ⟨xb,0,none⟩),.pointer (some ⟨xb,0,none⟩),.pointer (some ⟨xb,2,none⟩),.slice Ab i cb,.agg #[.bool x.1,.string x.2.1,.string x.2.2],.slice (some ⟨l14,0,none⟩) 1 1,a102,a103,a104,a105,a106,c107],[]⟩ W:=by
  intro l7 l14 W hk hx hb oa ob ap c7 c14
  rw [hF.out]
  refine wpAnyH_ready (rs:=[8]) (by kernel_rfl) (by simp) ?_
  refine AllReadyH.cons (o:=_) rfl (fun K hK => ?_) ?_
  · rw [if_pos (by rfl)]
    refine Nt.wp_append_new _ _ _ 72 rfl B1 29 i0 (.slice none 0 0) 1 24 Tryz.underlying72 hi0.out z0i0.out z1i0.out z2i0.out rfl (by decide) (.slice Aa i ca) i hds rfl oa.out ⟨l7,0,none⟩ 1 1 [.slice (some ⟨rb,0,none⟩) m m] rfl rfl (one_at c7.out.1) (Ci.one_cell1 _ rfl) (by omega) (by unfold maxLen;omega) (by omega) (Nat.le_trans hB1.out hk.out.size) ?_
    intro vx wx hox hgx hnx
    obtain ⟨A9,c9,rfl⟩:=own_form3 hox
    have hb2:=Lib.hid (hb.out.grown hgx (fun e => nga.out e.symm))
    have hx2:=Lib.hid (hx.out.grown hgx (fun e => nxa.out e.symm))
    have hk2:=Lib.hid (kp_own hk.out hgx hma.out)
    have ob2:=Lib.hid (ob.out.kept hgx (by cases e : (Value.slice Ab i cb).ownBlock with | none => exact .inl rfl | some b => exact .inr (fun e2 => ap.out b e2.symm e)))
    have na2 : Hid ((Value.slice A9 (i + 1) c9).ownBlock = (Value.slice Aa i ca).ownBlock ∨ ∃ b,(Value.slice A9 (i + 1) c9).ownBlock = some b ∧ w.heap.size ≤ b):=hnx.imp id fun e => ⟨_,e,hk.out.size⟩
    have ap2 : Hid (∀ b,(Value.slice A9 (i + 1) c9).ownBlock = some b → (Value.slice Ab i cb).ownBlock ≠ some b):=fun b e e2 => by rcases hnx with c | c;(· exact ap.out b (c ▸ e) e2);(· rw [c] at e;cases e;have:=(ob.out.lt _ e2).2;omega)
    have c142 : Hid (((wx.cell? ⟨l14,0,none⟩ = some (.bool x.1) ∧ wx.cell? ⟨l14,1,none⟩ = some (.string x.2.1) ∧ wx.cell? ⟨l14,2,none⟩ = some (.string x.2.2)) ∧ w.heap.size ≤ l14 ∧ l14 < wx.heap.size)):=by
     have hblk:=hgx.block l14 c14.out.2.2 (fun e => by have:=(hla.out _ e.symm).2;have:=c14.out.2.1;omega)
     exact ⟨⟨(World.cell?_of_block (a:=⟨l14,0,none⟩) hblk).trans c14.out.1.1,(World.cell?_of_block (a:=⟨l14,1,none⟩) hblk).trans c14.out.1.2.1,(World.cell?_of_block (a:=⟨l14,2,none⟩) hblk).trans c14.out.1.2.2⟩,c14.out.2.1,Nat.lt_of_lt_of_le c14.out.2.2 hgx.size⟩
    refine hK.out _ _ (⟨hb2.out.cell (j:=0) rfl,hb2.out.cell (j:=1) rfl,hb2.out.cell (j:=2) rfl⟩) (fun _ => ?_)
    clear hK K
    try simp only [Act.put,List.setIfInBounds_toArray,List.set_cons_zero,List.set_cons_succ]
    rw [← hF.out]
    exact Lx5x7x8x12x14 l7 A9 c9 l14 _ hk2 hx2 hb2 (Lib.hid hox) na2 ob2 ap2 c142
  exact AllReadyH.nil
 have Lx5x7x8x12 : ∀ (l7 : Nat) (Aa2 : Option Addr) (ca2 : Nat) (W : World),Hid (Kp (xb :: ((Value.slice Aa i ca).ownBlock.toList ++ (Value.slice Ab i cb).ownBlock.toList)) w W) → Hid (Bk W xb 74 [uv,.slice Aa i ca,.slice Ab i cb]) → Hid (Bk W gb 37 [.bool x.1,.string x.2.1,.string x.2.2]) → Hid (W.ownsRow B1 29 1 (Value.slice Aa2 (i + 1) ca2) (i + 1) (hds ++ [.slice (some ⟨rb,0,none⟩) m m])) → Hid ((Value.slice Aa2 (i + 1) ca2).ownBlock = (Value.slice Aa i ca).ownBlock ∨ ∃ b,(Value.slice Aa2 (i + 1) ca2).ownBlock = some b ∧ w.heap.size ≤ b) → Hid (W.ownsRow B1 37 3 (Value.slice Ab i cb) i cbs) → Hid (∀ b,(Value.slice Aa2 (i + 1) ca2).ownBlock = some b → (Value.slice Ab i cb).ownBlock ≠ some b) → F 8 #[true,true,true,true,true,true,true,true,true,true,true,true,true,true,false,false,false,false,false,false,false,false] ⟨#[.pointer (some ⟨xb,0,none⟩),c1,c2,c3,c4,c5,c6,c7,c8,.slice (some ⟨rb,0,none⟩) m m,c10,.pointer (some ⟨gb,0,none⟩),c12,c13,c14,c15,c16,c17,c18,c19,c20,c21,c22,c23,c24,c25,c26,c27,c28,c29,c30,c31,c32,c33,c34,c35,c36,c37,c38,c39,c40,c41,c42,c43,c44,c45,c46,c47,c48,c49,c50,c51,c52,c53,c54,c55,c56,c57,c58,c59,c60,c61,c62,c63,c64,c65,c66,c67,c68,c69,c70,c71,c72,c73,c74,c75,c76,c77,c78,c79,c80,c81,c82,c83,c84,c85,c86,.pointer (some ⟨xb,0,none⟩),.pointer (some ⟨xb,0,none⟩),.pointer (some ⟨xb,0,none⟩),.pointer (some ⟨xb,0,none⟩),.pointer (some ⟨xb,1,none⟩),.slice Aa i ca,.slice (some ⟨rb,0,none⟩) m m,.slice (some ⟨l7,0,none⟩) 1 1,.slice Aa2 (i + 1) ca2,.pointer (some ⟨xb,0,none⟩),.pointer (some ⟨xb,0,none⟩),.pointer (some ⟨xb,2,none⟩),.slice Ab i cb,.agg #[.bool x.1,.string x.2.1,.string x.2.2],a101,a102,a103,a104,a105,a106,c107],[]⟩ W:=by
  intro l7 Aa2 ca2 W hk hx hb oa na ob ap
  rw [hF.out]
  refine wpAnyH_ready (rs:=[14]) (by kernel_rfl) (by simp) ?_
  refine AllReadyH.cons (o:=_) rfl (fun K hK => ?_) ?_
  · go_simp
    refine hK.out _ _ (⟨(hb.out.alloc (.cells #[.bool x.1,.string x.2.1,.string x.2.2] 37)).cell (j:=0) rfl,(hb.out.alloc (.cells #[.bool x.1,.string x.2.1,.string x.2.2] 37)).cell (j:=1) rfl,(hb.out.alloc (.cells #[.bool x.1,.string x.2.1,.string x.2.2] 37)).cell (j:=2) rfl⟩) (fun _ => ?_)
    clear hK K
    try simp only [List.setIfInBounds_toArray,List.set_cons_zero,List.set_cons_succ]
    rw [← hF.out]
    exact Lx5x7x8x12x14 l7 Aa2 ca2 W.heap.size _ (Lib.hid ((hk.out.alloc (.cells #[.bool x.1,.string x.2.1,.string x.2.2] 37)))) (Lib.hid ((hx.out.alloc (.cells #[.bool x.1,.string x.2.1,.string x.2.2] 37)))) (Lib.hid ((hb.out.alloc (.cells #[.bool x.1,.string x.2.1,.string x.2.2] 37)))) (Lib.hid ((oa.out.alloc (.cells #[.bool x.1,.string x.2.1,.string x.2.2] 37)))) (Lib.hid (na.out)) (Lib.hid ((ob.out.alloc (.cells #[.bool x.1,.string x.2.1,.string x.2.2] 37)))) (Lib.hid (ap.out)) (Lib.hid (⟨⟨(Bk.new W 37 [.bool x.1,.string x.2.1,.string x.2.2]).cell (j:=0) rfl,(Bk.new W 37 [.bool x.1,.string x.2.1,.string x.2.2]).cell (j:=1) rfl,(Bk.new W 37 [.bool x.1,.string x.2.1,.string x.2.2]).cell (j:=2) rfl⟩,hk.out.size,by rw [World.size_alloc];exact Nat.lt_succ_self _⟩))
  exact AllReadyH.nil
 have Lx5x7x12 : ∀ (l7 : Nat) (W : World),Hid (Kp (xb :: ((Value.slice Aa i ca).ownBlock.toList ++ (Value.slice Ab i cb).ownBlock.toList)) w W) → Hid (Bk W xb 74 [uv,.slice Aa i ca,.slice Ab i cb]) → Hid (Bk W gb 37 [.bool x.1,.string x.2.1,.string x.2.2]) → Hid (W.ownsRow B1 29 1 (Value.slice Aa i ca) i hds) → Hid (W.ownsRow B1 37 3 (Value.slice Ab i cb) i cbs) → Hid (∀ b,(Value.slice Aa i ca).ownBlock = some b → (Value.slice Ab i cb).ownBlock ≠ some b) → Hid (W.cell? ⟨l7,0,none⟩ = some (.slice (some ⟨rb,0,none⟩) m m) ∧ w.heap.size ≤ l7 ∧ l7 < W.heap.size) → F 9 #[true,true,true,true,true,true,true,true,false,true,true,true,true,true,false,false,false,false,false,false,false,false] ⟨#[.pointer (some ⟨xb,0,none⟩),c1,c2,c3,c4,c5,c6,c7,c8,.slice (some ⟨rb,0,none⟩) m m,c10,.pointer (some ⟨gb,0,none⟩),c12,c13,c14,c15,c16,c17,c18,c19,c20,c21,c22,c23,c24,c25,c26,c27,c28,c29,c30,c31,c32,c33,c34,c35,c36,c37,c38,c39,c40,c41,c42,c43,c44,c45,c46,c47,c48,c49,c50,c51,c52,c53,c54,c55,c56,c57,c58,c59,c60,c61,c62,c63,c64,c65,c66,c67,c68,c69,c70,c71,c72,c73,c74,c75,c76,c77,c78,c79,c80,c81,c82,c83,c84,c85,c86,.pointer (some ⟨xb,0,none⟩),.pointer (some ⟨xb,0,none⟩),.pointer (some ⟨xb,0,none⟩),.pointer (some ⟨xb,0,none⟩),.pointer (some ⟨xb,1,none⟩),.slice Aa i ca,.slice (some ⟨rb,0,none⟩) m m,.slice (some ⟨l7,0,none⟩) 1 1,a95,.pointer (some ⟨xb,0,none⟩),.pointer (some ⟨xb,0,none⟩),.pointer (some ⟨xb,2,none⟩),.slice Ab i cb,.agg #[.bool x.1,.string x.2.1,.string x.2.2],a101,a102,a103,a104,a105,a106,c107],[]⟩ W:=by
  intro l7 W hk hx hb oa ob ap c7
  rw [hF.out]
  refine wpAnyH_ready (rs:=[8,14]) (by kernel_rfl) (by simp) ?_
  refine AllReadyH.cons (o:=_) rfl (fun K hK => ?_) ?_
  · rw [if_pos (by rfl)]
    refine Nt.wp_append_new _ _ _ 72 rfl B1 29 i0 (.slice none 0 0) 1 24 Tryz.underlying72 hi0.out z0i0.out z1i0.out z2i0.out rfl (by decide) (.slice Aa i ca) i hds rfl oa.out ⟨l7,0,none⟩ 1 1 [.slice (some ⟨rb,0,none⟩) m m] rfl rfl (one_at c7.out.1) (Ci.one_cell1 _ rfl) (by omega) (by unfold maxLen;omega) (by omega) (Nat.le_trans hB1.out hk.out.size) ?_
    intro vx wx hox hgx hnx
    obtain ⟨A9,c9,rfl⟩:=own_form3 hox
    have hb2:=Lib.hid (hb.out.grown hgx (fun e => nga.out e.symm))
    have hx2:=Lib.hid (hx.out.grown hgx (fun e => nxa.out e.symm))
    have hk2:=Lib.hid (kp_own hk.out hgx hma.out)
    have ob2:=Lib.hid (ob.out.kept hgx (by cases e : (Value.slice Ab i cb).ownBlock with | none => exact .inl rfl | some b => exact .inr (fun e2 => ap.out b e2.symm e)))
    have na2 : Hid ((Value.slice A9 (i + 1) c9).ownBlock = (Value.slice Aa i ca).ownBlock ∨ ∃ b,(Value.slice A9 (i + 1) c9).ownBlock = some b ∧ w.heap.size ≤ b):=hnx.imp id fun e => ⟨_,e,hk.out.size⟩
    have ap2 : Hid (∀ b,(Value.slice A9 (i + 1) c9).ownBlock = some b → (Value.slice Ab i cb).ownBlock ≠ some b):=fun b e e2 => by rcases hnx with c | c;(· exact ap.out b (c ▸ e) e2);(· rw [c] at e;cases e;have:=(ob.out.lt _ e2).2;omega)
    refine hK.out _ _ (⟨hb2.out.cell (j:=0) rfl,hb2.out.cell (j:=1) rfl,hb2.out.cell (j:=2) rfl⟩) (fun _ => ?_)
    clear hK K
    try simp only [Act.put,List.setIfInBounds_toArray,List.set_cons_zero,List.set_cons_succ]
    rw [← hF.out]
    exact Lx5x7x8x12 l7 A9 c9 _ hk2 hx2 hb2 (Lib.hid hox) na2 ob2 ap2
  refine AllReadyH.cons (o:=_) rfl (fun K hK => ?_) ?_
  · go_simp
    refine hK.out _ _ (⟨(hb.out.alloc (.cells #[.bool x.1,.string x.2.1,.string x.2.2] 37)).cell (j:=0) rfl,(hb.out.alloc (.cells #[.bool x.1,.string x.2.1,.string x.2.2] 37)).cell (j:=1) rfl,(hb.out.alloc (.cells #[.bool x.1,.string x.2.1,.string x.2.2] 37)).cell (j:=2) rfl⟩) (fun _ => ?_)
    clear hK K
    try simp only [List.setIfInBounds_toArray,List.set_cons_zero,List.set_cons_succ]
    rw [← hF.out]
    exact Lx5x7x12x14 l7 W.heap.size _ (Lib.hid ((hk.out.alloc (.cells #[.bool x.1,.string x.2.1,.string x.2.2] 37)))) (Lib.hid ((hx.out.alloc (.cells #[.bool x.1,.string x.2.1,.string x.2.2] 37)))) (Lib.hid ((hb.out.alloc (.cells #[.bool x.1,.string x.2.1,.string x.2.2] 37)))) (Lib.hid ((oa.out.alloc (.cells #[.bool x.1,.string x.2.1,.string x.2.2] 37)))) (Lib.hid ((ob.out.alloc (.cells #[.bool x.1,.string x.2.1,.string x.2.2] 37)))) (Lib.hid (ap.out)) (Lib.hid (⟨(World.cell?_alloc_lt _ _ _ c7.out.2.2).trans c7.out.1,c7.out.2.1,by rw [World.size_alloc];exact Nat.lt_succ_of_lt c7.out.2.2⟩)) (Lib.hid (⟨⟨(Bk.new W 37 [.bool x.1,.string x.2.1,.string x.2.2]).cell (j:=0) rfl,(Bk.new W 37 [.bool x.1,.string x.2.1,.string x.2.2]).cell (j:=1) rfl,(Bk.new W 37 [.bool x.1,.string x.2.1,.string x.2.2]).cell (j:=2) rfl⟩,hk.out.size,by rw [World.size_alloc];exact Nat.lt_succ_self _⟩))
  exact AllReadyH.nil
 have Lx5x7x8x14 : ∀ (l7 : Nat) (Aa2 : Option Addr) (ca2 : Nat) (l14 : Nat) (W : World),Hid (Kp (xb :: ((Value.slice Aa i ca).ownBlock.toList ++ (Value.slice Ab i cb).ownBlock.toList)) w W) → Hid (Bk W xb 74 [uv,.slice Aa i ca,.slice Ab i cb]) → Hid (Bk W gb 37 [.bool x.1,.string x.2.1,.string x.2.2]) → Hid (W.ownsRow B1 29 1 (Value.slice Aa2 (i + 1) ca2) (i + 1) (hds ++ [.slice (some ⟨rb,0,none⟩) m m])) → Hid ((Value.slice Aa2 (i + 1) ca2).ownBlock = (Value.slice Aa i ca).ownBlock ∨ ∃ b,(Value.slice Aa2 (i + 1) ca2).ownBlock = some b ∧ w.heap.size ≤ b) → Hid (W.ownsRow B1 37 3 (Value.slice Ab i cb) i cbs) → Hid (∀ b,(Value.slice Aa2 (i + 1) ca2).ownBlock = some b → (Value.slice Ab i cb).ownBlock ≠ some b) → Hid ((W.cell? ⟨l14,0,none⟩ = some (.bool x.1) ∧ W.cell? ⟨l14,1,none⟩ = some (.string x.2.1) ∧ W.cell? ⟨l14,2,none⟩ = some (.string x.2.2)) ∧ w.heap.size ≤ l14 ∧ l14 < W.heap.size) → F 8 #[true,true,true,true,true,true,true,true,true,true,true,true,false,true,true,false,false,false,false,false,false,false] ⟨#[.pointer (some ⟨xb,0,none⟩),c1,c2,c3,c4,c5,c6,c7,c8,.slice (some ⟨rb,0,none⟩) m m,c10,.pointer (some ⟨gb,0,none⟩),c12,c13,c14,c15,c16,c17,c18,c19,c20,c21,c22,c23,c24,c25,c26,c27,c28,c29,c30,c31,c32,c33,c34,c35,c36,c37,c38,c39,c40,c41,c42,c43,c44,c45,c46,c47,c48,c49,c50,c51,c52,c53,c54,c55,c56,c57,c58,c59,c60,c61,c62,c63,c64,c65,c66,c67,c68,c69,c70,c71,c72,c73,c74,c75,c76,c77,c78,c79,c80,c81,c82,c83,c84,c85,c86,.pointer (some ⟨xb,0,none⟩),.pointer (some ⟨xb,0,none⟩),.pointer (some ⟨xb,0,none⟩),.pointer (some ⟨xb,0,none⟩),.pointer (some ⟨xb,1,none⟩),.slice Aa i ca,.slice (some ⟨rb,0,none⟩) m m,.slice (some ⟨l7,0,none⟩) 1 1,.slice Aa2 (i + 1) ca2,.pointer (some ⟨xb,0,none⟩),.pointer (some ⟨xb,0,none⟩),.pointer (some ⟨xb,2,none⟩),a99,.agg #[.bool x.1,.string x.2.1,.string x.2.2],.slice (some ⟨l14,0,none⟩) 1 1,a102,a103,a104,a105,a106,c107],[]⟩ W:=by
  intro l7 Aa2 ca2 l14 W hk hx hb oa na ob ap c14
  rw [hF.out]
  refine wpAnyH_ready (rs:=[12]) (by kernel_rfl) (by simp) ?_
  have x1:=hx.out.cell (j:=2) rfl;have x9:=hx.out.lt
  refine AllReadyH.cons (o:=_) rfl (fun K hK => ?_) ?_
  · go_simp
    clear x1 x9
    refine hK.out _ _ (⟨hb.out.cell (j:=0) rfl,hb.out.cell (j:=1) rfl,hb.out.cell (j:=2) rfl⟩) (fun _ => ?_)
    clear hK K
    try simp only [List.setIfInBounds_toArray,List.set_cons_zero,List.set_cons_succ]
    rw [← hF.out]
    exact Lx5x7x8x12x14 l7 Aa2 ca2 l14 W hk hx hb oa na ob ap c14
  clear x1 x9
  exact AllReadyH.nil
 have Lx5x7x14 : ∀ (l7 : Nat) (l14 : Nat) (W : World),Hid (Kp (xb :: ((Value.slice Aa i ca).ownBlock.toList ++ (Value.slice Ab i cb).ownBlock.toList)) w W) → Hid (Bk W xb 74 [uv,.slice Aa i ca,.slice Ab i cb]) → Hid (Bk W gb 37 [.bool x.1,.string x.2.1,.string x.2.2]) → Hid (W.ownsRow B1 29 1 (Value.slice Aa i ca) i hds) → Hid (W.ownsRow B1 37 3 (Value.slice Ab i cb) i cbs) → Hid (∀ b,(Value.slice Aa i ca).ownBlock = some b → (Value.slice Ab i cb).ownBlock ≠ some b) → Hid (W.cell? ⟨l7,0,none⟩ = some (.slice (some ⟨rb,0,none⟩) m m) ∧ w.heap.size ≤ l7 ∧ l7 < W.heap.size) → Hid ((W.cell? ⟨l14,0,none⟩ = some (.bool x.1) ∧ W.cell? ⟨l14,1,none⟩ = some (.string x.2.1) ∧ W.cell? ⟨l14,2,none⟩ = some (.string x.2.2)) ∧ w.heap.size ≤ l14 ∧ l14 < W.heap.size) → F 9 #[true,true,true,true,true,true,true,true,false,true,true,true,false,true,true,false,false,false,false,false,false,false] ⟨#[.pointer (some ⟨xb,0,none⟩),c1,c2,c3,c4,c5,c6,c7,c8,.slice (some ⟨rb,0,none⟩) m m,c10,.pointer (some ⟨gb,0,none⟩),c12,c13,c14,c15,c16,c17,c18,c19,c20,c21,c22,c23,c24,c25,c26,c27,c28,c29,c30,c31,c32,c33,c34,c35,c36,c37,c38,c39,c40,c41,c42,c43,c44,c45,c46,c47,c48,c49,c50,c51,c52,c53,c54,c55,c56,c57,c58,c59,c60,c61,c62,c63,c64,c65,c66,c67,c68,c69,c70,c71,c72,c73,c74,c75,c76,c77,c78,c79,c80,c81,c82,c83,c84,c85,c86,.pointer (some ⟨xb,0,none⟩),.pointer (some ⟨xb,0,none⟩),.pointer (some ⟨xb,0,none⟩),.pointer (some ⟨xb,0,none⟩),.pointer (some ⟨xb,1,none⟩),.slice Aa i ca,.slice (some ⟨rb,0,none⟩) m m,.slice (some ⟨l7,0,none⟩) 1 1,a95,.pointer (some ⟨xb,0,none⟩),.pointer (some ⟨xb,0,none⟩),.pointer (some ⟨xb,2,none⟩),a99,.agg #[.bool x.1,.string x.2.1,.string x.2.2],.slice (some ⟨l14,0,none⟩) 1 1,a102,a103,a104,a105,a106,c107],[]⟩ W:=by
  intro l7 l14 W hk hx hb oa ob ap c7 c14
  rw [hF.out]
  refine wpAnyH_ready (rs:=[8,12]) (by kernel_rfl) (by simp) ?_
  refine AllReadyH.cons (o:=_) rfl (fun K hK => ?_) ?_
  · rw [if_pos (by rfl)]
    refine Nt.wp_append_new _ _ _ 72 rfl B1 29 i0 (.slice none 0 0) 1 24 Tryz.underlying72 hi0.out z0i0.out z1i0.out z2i0.out rfl (by decide) (.slice Aa i ca) i hds rfl oa.out ⟨l7,0,none⟩ 1 1 [.slice (some ⟨rb,0,none⟩) m m] rfl rfl (one_at c7.out.1) (Ci.one_cell1 _ rfl) (by omega) (by unfold maxLen;omega) (by omega) (Nat.le_trans hB1.out hk.out.size) ?_
    intro vx wx hox hgx hnx
    obtain ⟨A9,c9,rfl⟩:=own_form3 hox
    have hb2:=Lib.hid (hb.out.grown hgx (fun e => nga.out e.symm))
    have hx2:=Lib.hid (hx.out.grown hgx (fun e => nxa.out e.symm))
    have hk2:=Lib.hid (kp_own hk.out hgx hma.out)
    have ob2:=Lib.hid (ob.out.kept hgx (by cases e : (Value.slice Ab i cb).ownBlock with | none => exact .inl rfl | some b => exact .inr (fun e2 => ap.out b e2.symm e)))
    have na2 : Hid ((Value.slice A9 (i + 1) c9).ownBlock = (Value.slice Aa i ca).ownBlock ∨ ∃ b,(Value.slice A9 (i + 1) c9).ownBlock = some b ∧ w.heap.size ≤ b):=hnx.imp id fun e => ⟨_,e,hk.out.size⟩
    have ap2 : Hid (∀ b,(Value.slice A9 (i + 1) c9).ownBlock = some b → (Value.slice Ab i cb).ownBlock ≠ some b):=fun b e e2 => by rcases hnx with c | c;(· exact ap.out b (c ▸ e) e2);(· rw [c] at e;cases e;have:=(ob.out.lt _ e2).2;omega)
    have c142 : Hid (((wx.cell? ⟨l14,0,none⟩ = some (.bool x.1) ∧ wx.cell? ⟨l14,1,none⟩ = some (.string x.2.1) ∧ wx.cell? ⟨l14,2,none⟩ = some (.string x.2.2)) ∧ w.heap.size ≤ l14 ∧ l14 < wx.heap.size)):=by
     have hblk:=hgx.block l14 c14.out.2.2 (fun e => by have:=(hla.out _ e.symm).2;have:=c14.out.2.1;omega)
     exact ⟨⟨(World.cell?_of_block (a:=⟨l14,0,none⟩) hblk).trans c14.out.1.1,(World.cell?_of_block (a:=⟨l14,1,none⟩) hblk).trans c14.out.1.2.1,(World.cell?_of_block (a:=⟨l14,2,none⟩) hblk).trans c14.out.1.2.2⟩,c14.out.2.1,Nat.lt_of_lt_of_le c14.out.2.2 hgx.size⟩
    refine hK.out _ _ (⟨hb2.out.cell (j:=0) rfl,hb2.out.cell (j:=1) rfl,hb2.out.cell (j:=2) rfl⟩) (fun _ => ?_)
    clear hK K
    try simp only [Act.put,List.setIfInBounds_toArray,List.set_cons_zero,List.set_cons_succ]
    rw [← hF.out]
    exact Lx5x7x8x14 l7 A9 c9 l14 _ hk2 hx2 hb2 (Lib.hid hox) na2 ob2 ap2 c142
  have x1:=hx.out.cell (j:=2) rfl;have x9:=hx.out.lt
  refine AllReadyH.cons (o:=_) rfl (fun K hK => ?_) ?_
  · go_simp
    clear x1 x9
    refine hK.out _ _ (⟨hb.out.cell (j:=0) rfl,hb.out.cell (j:=1) rfl,hb.out.cell (j:=2) rfl⟩) (fun _ => ?_)
    clear hK K
    try simp only [List.setIfInBounds_toArray,List.set_cons_zero,List.set_cons_succ]
    rw [← hF.out]
    exact Lx5x7x12x14 l7 l14 W hk hx hb oa ob ap c7 c14
  clear x1 x9
  exact AllReadyH.nil
 have Lx5x7x8 : ∀ (l7 : Nat) (Aa2 : Option Addr) (ca2 : Nat) (W : World),Hid (Kp (xb :: ((Value.slice Aa i ca).ownBlock.toList ++ (Value.slice Ab i cb).ownBlock.toList)) w W) → Hid (Bk W xb 74 [uv,.slice Aa i ca,.slice Ab i cb]) → Hid (Bk W gb 37 [.bool x.1,.string x.2.1,.string x.2.2]) → Hid (W.ownsRow B1 29 1 (Value.slice Aa2 (i + 1) ca2) (i + 1) (hds ++ [.slice (some ⟨rb,0,none⟩) m m])) → Hid ((Value.slice Aa2 (i + 1) ca2).ownBlock = (Value.slice Aa i ca).ownBlock ∨ ∃ b,(Value.slice Aa2 (i + 1) ca2).ownBlock = some b ∧ w.heap.size ≤ b) → Hid (W.ownsRow B1 37 3 (Value.slice Ab i cb) i cbs) → Hid (∀ b,(Value.slice Aa2 (i + 1) ca2).ownBlock = some b → (Value.slice Ab i cb).ownBlock ≠ some b) → F 9 #[true,true,true,true,true,true,true,true,true,true,true,true,false,true,false,false,false,false,false,false,false,false] ⟨#[.pointer (some ⟨xb,0,none⟩),c1,c2,c3,c4,c5,c6,c7,c8,.slice (some ⟨rb,0,none⟩) m m,c10,.pointer (some ⟨gb,0,none⟩),c12,c13,c14,c15,c16,c17,c18,c19,c20,c21,c22,c23,c24,c25,c26,c27,c28,c29,c30,c31,c32,c33,c34,c35,c36,c37,c38,c39,c40,c41,c42,c43,c44,c45,c46,c47,c48,c49,c50,c51,c52,c53,c54,c55,c56,c57,c58,c59,c60,c61,c62,c63,c64,c65,c66,c67,c68,c69,c70,c71,c72,c73,c74,c75,c76,c77,c78,c79,c80,c81,c82,c83,c84,c85,c86,.pointer (some ⟨xb,0,none⟩),.pointer (some ⟨xb,0,none⟩),.pointer (some ⟨xb,0,none⟩),.pointer (some ⟨xb,0,none⟩),.pointer (some ⟨xb,1,none⟩),.slice Aa i ca,.slice (some ⟨rb,0,none⟩) m m,.slice (some ⟨l7,0,none⟩) 1 1,.slice Aa2 (i + 1) ca2,.pointer (some ⟨xb,0,none⟩),.pointer (some ⟨xb,0,none⟩),.pointer (some ⟨xb,2,none⟩),a99,.agg #[.bool x.1,.string x.2.1,.string x.2.2],a101,a102,a103,a104,a105,a106,c107],[]⟩ W:=by
  intro l7 Aa2 ca2 W hk hx hb oa na ob ap
  rw [hF.out]
  refine wpAnyH_ready (rs:=[12,14]) (by kernel_rfl) (by simp) ?_
  have x1:=hx.out.cell (j:=2) rfl;have x9:=hx.out.lt
  refine AllReadyH.cons (o:=_) rfl (fun K hK => ?_) ?_
  · go_simp
    clear x1 x9
    refine hK.out _ _ (⟨hb.out.cell (j:=0) rfl,hb.out.cell (j:=1) rfl,hb.out.cell (j:=2) rfl⟩) (fun _ => ?_)
    clear hK K
    try simp only [List.setIfInBounds_toArray,List.set_cons_zero,List.set_cons_succ]
    rw [← hF.out]
    exact Lx5x7x8x12 l7 Aa2 ca2 W hk hx hb oa na ob ap
  clear x1 x9
  refine AllReadyH.cons (o:=_) rfl (fun K hK => ?_) ?_
  · go_simp
    refine hK.out _ _ (⟨(hb.out.alloc (.cells #[.bool x.1,.string x.2.1,.string x.2.2] 37)).cell (j:=0) rfl,(hb.out.alloc (.cells #[.bool x.1,.string x.2.1,.string x.2.2] 37)).cell (j:=1) rfl,(hb.out.alloc (.cells #[.bool x.1,.string x.2.1,.string x.2.2] 37)).cell (j:=2) rfl⟩) (fun _ => ?_)
    clear hK K
    try simp only [List.setIfInBounds_toArray,List.set_cons_zero,List.set_cons_succ]
    rw [← hF.out]
    exact Lx5x7x8x14 l7 Aa2 ca2 W.heap.size _ (Lib.hid ((hk.out.alloc (.cells #[.bool x.1,.string x.2.1,.string x.2.2] 37)))) (Lib.hid ((hx.out.alloc (.cells #[.bool x.1,.string x.2.1,.string x.2.2] 37)))) (Lib.hid ((hb.out.alloc (.cells #[.bool x.1,.string x.2.1,.string x.2.2] 37)))) (Lib.hid ((oa.out.alloc (.cells #[.bool x.1,.string x.2.1,.string x.2.2] 37)))) (Lib.hid (na.out)) (Lib.hid ((ob.out.alloc (.cells #[.bool x.1,.string x.2.1,.string x.2.2] 37)))) (Lib.hid (ap.out)) (Lib.hid (⟨⟨(Bk.new W 37 [.bool x.1,.string x.2.1,.string x.2.2]).cell (j:=0) rfl,(Bk.new W 37 [.bool x.1,.string x.2.1,.string x.2.2]).cell (j:=1) rfl,(Bk.new W 37 [.bool x.1,.string x.2.1,.string x.2.2]).cell (j:=2) rfl⟩,hk.out.size,by rw [World.size_alloc];exact Nat.lt_succ_self _⟩))
  exact AllReadyH.nil
 have Lx5x7 : ∀ (l7 : Nat) (W : World),Hid (Kp (xb :: ((Value.slice Aa i ca).ownBlock.toList ++ (Value.slice Ab i cb).ownBlock.toList)) w W) → Hid (Bk W xb 74 [uv,.slice Aa i ca,.slice Ab i cb]) → Hid (Bk W gb 37 [.bool x.1,.string x.2.1,.string x.2.2]) → Hid (W.ownsRow B1 29 1 (Value.slice Aa i ca) i hds) → Hid (W.ownsRow B1 37 3 (Value.slice Ab i cb) i cbs) → Hid (∀ b,(Value.slice Aa i ca).ownBlock = some b → (Value.slice Ab i cb).ownBlock ≠ some b) → Hid (W.cell? ⟨l7,0,none⟩ = some (.slice (some ⟨rb,0,none⟩) m m) ∧ w.heap.size ≤ l7 ∧ l7 < W.heap.size) → F 10 #[true,true,true,true,true,true,true,true,false,true,true,true,false,true,false,false,false,false,false,false,false,false] ⟨#[.pointer (some ⟨xb,0,none⟩),c1,c2,c3,c4,c5,c6,c7,c8,.slice (some ⟨rb,0,none⟩) m m,c10,.pointer (some ⟨gb,0,none⟩),c12,c13,c14,c15,c16,c17,c18,c19,c20,c21,c22,c23,c24,c25,c26,c27,c28,c29,c30,c31,c32,c33,c34,c35,c36,c37,c38,c39,c40,c41,c42,c43,c44,c45,c46,c47,c48,c49,c50,c51,c52,c53,c54,c55,c56,c57,c58,c59,c60,c61,c62,c63,c64,c65,c66,c67,c68,c69,c70,c71,c72,c73,c74,c75,c76,c77,c78,c79,c80,c81,c82,c83,c84,c85,c86,.pointer (some ⟨xb,0,none⟩),.pointer (some ⟨xb,0,none⟩),.pointer (some ⟨xb,0,none⟩),.pointer (some ⟨xb,0,none⟩),.pointer (some ⟨xb,1,none⟩),.slice Aa i ca,.slice (some ⟨rb,0,none⟩) m m,.slice (some ⟨l7,0,none⟩) 1 1,a95,.pointer (some ⟨xb,0,none⟩),.pointer (some ⟨xb,0,none⟩),.pointer (some ⟨xb,2,none⟩),a99,.agg #[.bool x.1,.string x.2.1,.string x.2.2],a101,a102,a103,a104,a105,a106,c107],[]⟩ W:=by
  intro l7 W hk hx hb oa ob ap c7
  rw [hF.out]
  refine wpAnyH_ready (rs:=[8,12,14]) (by kernel_rfl) (by simp) ?_
  refine AllReadyH.cons (o:=_) rfl (fun K hK => ?_) ?_
  · rw [if_pos (by rfl)]
    refine Nt.wp_append_new _ _ _ 72 rfl B1 29 i0 (.slice none 0 0) 1 24 Tryz.underlying72 hi0.out z0i0.out z1i0.out z2i0.out rfl (by decide) (.slice Aa i ca) i hds rfl oa.out ⟨l7,0,none⟩ 1 1 [.slice (some ⟨rb,0,none⟩) m m] rfl rfl (one_at c7.out.1) (Ci.one_cell1 _ rfl) (by omega) (by unfold maxLen;omega) (by omega) (Nat.le_trans hB1.out hk.out.size) ?_
    intro vx wx hox hgx hnx
    obtain ⟨A9,c9,rfl⟩:=own_form3 hox
    have hb2:=Lib.hid (hb.out.grown hgx (fun e => nga.out e.symm))
    have hx2:=Lib.hid (hx.out.grown hgx (fun e => nxa.out e.symm))
    have hk2:=Lib.hid (kp_own hk.out hgx hma.out)
    have ob2:=Lib.hid (ob.out.kept hgx (by cases e : (Value.slice Ab i cb).ownBlock with | none => exact .inl rfl | some b => exact .inr (fun e2 => ap.out b e2.symm e)))
    have na2 : Hid ((Value.slice A9 (i + 1) c9).ownBlock = (Value.slice Aa i ca).ownBlock ∨ ∃ b,(Value.slice A9 (i + 1) c9).ownBlock = some b ∧ w.heap.size ≤ b):=hnx.imp id fun e => ⟨_,e,hk.out.size⟩
    have ap2 : Hid (∀ b,(Value.slice A9 (i + 1) c9).ownBlock = some b → (Value.slice Ab i cb).ownBlock ≠ some b):=fun b e e2 => by rcases hnx with c | c;(· exact ap.out b (c ▸ e) e2);(· rw [c] at e;cases e;have:=(ob.out.lt _ e2).2;omega)
    refine hK.out _ _ (⟨hb2.out.cell (j:=0) rfl,hb2.out.cell (j:=1) rfl,hb2.out.cell (j:=2) rfl⟩) (fun _ => ?_)
    clear hK K
    try simp only [Act.put,List.setIfInBounds_toArray,List.set_cons_zero,List.set_cons_succ]
    rw [← hF.out]
    exact Lx5x7x8 l7 A9 c9 _ hk2 hx2 hb2 (Lib.hid hox) na2 ob2 ap2
  have x1:=hx.out.cell (j:=2) rfl;have x9:=hx.out.lt
  refine AllReadyH.cons (o:=_) rfl (fun K hK => ?_) ?_
  · go_simp
    clear x1 x9
    refine hK.out _ _ (⟨hb.out.cell (j:=0) rfl,hb.out.cell (j:=1) rfl,hb.out.cell (j:=2) rfl⟩) (fun _ => ?_)
    clear hK K
    try simp only [List.setIfInBounds_toArray,List.set_cons_zero,List.set_cons_succ]
    rw [← hF.out]
    exact Lx5x7x12 l7 W hk hx hb oa ob ap c7
  clear x1 x9
  refine AllReadyH.cons (o:=_) rfl (fun K hK => ?_) ?_
  · go_simp
    refine hK.out _ _ (⟨(hb.out.alloc (.cells #[.bool x.1,.string x.2.1,.string x.2.2] 37)).cell (j:=0) rfl,(hb.out.alloc (.cells #[.bool x.1,.string x.2.1,.string x.2.2] 37)).cell (j:=1) rfl,(hb.out.alloc (.cells #[.bool x.1,.string x.2.1,.string x.2.2] 37)).cell (j:=2) rfl⟩) (fun _ => ?_)
    clear hK K
    try simp only [List.setIfInBounds_toArray,List.set_cons_zero,List.set_cons_succ]
    rw [← hF.out]
    exact Lx5x7x14 l7 W.heap.size _ (Lib.hid ((hk.out.alloc (.cells #[.bool x.1,.string x.2.1,.string x.2.2] 37)))) (Lib.hid ((hx.out.alloc (.cells #[.bool x.1,.string x.2.1,.string x.2.2] 37)))) (Lib.hid ((hb.out.alloc (.cells #[.bool x.1,.string x.2.1,.string x.2.2] 37)))) (Lib.hid ((oa.out.alloc (.cells #[.bool x.1,.string x.2.1,.string x.2.2] 37)))) (Lib.hid ((ob.out.alloc (.cells #[.bool x.1,.string x.2.1,.string x.2.2] 37)))) (Lib.hid (ap.out)) (Lib.hid (⟨(World.cell?_alloc_lt _ _ _ c7.out.2.2).trans c7.out.1,c7.out.2.1,by rw [World.size_alloc];exact Nat.lt_succ_of_lt c7.out.2.2⟩)) (Lib.hid (⟨⟨(Bk.new W 37 [.bool x.1,.string x.2.1,.string x.2.2]).cell (j:=0) rfl,(Bk.new W 37 [.bool x.1,.string x.2.1,.string x.2.2]).cell (j:=1) rfl,(Bk.new W 37 [.bool x.1,.string x.2.1,.string x.2.2]).cell (j:=2) rfl⟩,hk.out.size,by rw [World.size_alloc];exact Nat.lt_succ_self _⟩))
  exact AllReadyH.nil
 have Lx5x12x14 : ∀ (l14 : Nat) (W : World),Hid (Kp (xb :: ((Value.slice Aa i ca).ownBlock.toList ++ (Value.slice Ab i cb).ownBlock.toList)) w W) → Hid (Bk W xb 74 [uv,.slice Aa i ca,.slice Ab i cb]) → Hid (Bk W gb 37 [.bool x.1,.string x.2.1,.string x.2.2]) → Hid (W.ownsRow B1 29 1 (Value.slice Aa i ca) i hds) → Hid (W.ownsRow B1 37 3 (Value.slice Ab i cb) i cbs) → Hid (∀ b,(Value.slice Aa i ca).ownBlock = some b → (Value.slice Ab i cb).ownBlock ≠ some b) → Hid ((W.cell? ⟨l14,0,none⟩ = some (.bool x.1) ∧ W.cell? ⟨l14,1,none⟩ = some (.string x.2.1) ∧ W.cell? ⟨l14,2,none⟩ = some (.string x.2.2)) ∧ w.heap.size ≤ l14 ∧ l14 < W.heap.size) → F 9 #[true,true,true,true,true,true,true,false,false,true,true,true,true,true,true,false,false,false,false,false,false,false] ⟨#[.pointer (some ⟨xb,0,none⟩),c1,c2,c3,c4,c5,c6,c7,c8,.slice (some ⟨rb,0,none⟩) m m,c10,.pointer (some ⟨gb,0,none⟩),c12,c13,c14,c15,c16,c17,c18,c19,c20,c21,c22,c23,c24,c25,c26,c27,c28,c29,c30,c31,c32,c33,c34,c35,c36,c37,c38,c39,c40,c41,c42,c43,c44,c45,c46,c47,c48,c49,c50,c51,c52,c53,c54,c55,c56,c57,c58,c59,c60,c61,c62,c63,c64,c65,c66,c67,c68,c69,c70,c71,c72,c73,c74,c75,c76,c77,c78,c79,c80,c81,c82,c83,c84,c85,c86,.pointer (some ⟨xb,0,none⟩),.pointer (some ⟨xb,0,none⟩),.pointer (some ⟨xb,0,none⟩),.pointer (some ⟨xb,0,none⟩),.pointer (some ⟨xb,1,none⟩),.slice Aa i ca,.slice (some ⟨rb,0,none⟩) m m,a94,a95,.pointer (some ⟨xb,0,none⟩),.pointer (some ⟨xb,0,none⟩),.pointer (some ⟨xb,2,none⟩),.slice Ab i cb,.agg #[.bool x.1,.string x.2.1,.string x.2.2],.slice (some ⟨l14,0,none⟩) 1 1,a102,a103,a104,a105,a106,c107],[]⟩ W:=by
  intro l14 W hk hx hb oa ob ap c14
  rw [hF.out]
  refine wpAnyH_ready (rs:=[7]) (by kernel_rfl) (by simp) ?_
  refine AllReadyH.cons (o:=_) rfl (fun K hK => ?_) ?_
  · go_simp
    refine hK.out _ _ (⟨(hb.out.alloc (.cells #[.slice (some ⟨rb,0,none⟩) m m] 29)).cell (j:=0) rfl,(hb.out.alloc (.cells #[.slice (some ⟨rb,0,none⟩) m m] 29)).cell (j:=1) rfl,(hb.out.alloc (.cells #[.slice (some ⟨rb,0,none⟩) m m] 29)).cell (j:=2) rfl⟩) (fun _ => ?_)
    clear hK K
    try simp only [List.setIfInBounds_toArray,List.set_cons_zero,List.set_cons_succ]
    rw [← hF.out]
    exact Lx5x7x12x14 W.heap.size l14 _ (Lib.hid ((hk.out.alloc (.cells #[.slice (some ⟨rb,0,none⟩) m m] 29)))) (Lib.hid ((hx.out.alloc (.cells #[.slice (some ⟨rb,0,none⟩) m m] 29)))) (Lib.hid ((hb.out.alloc (.cells #[.slice (some ⟨rb,0,none⟩) m m] 29)))) (Lib.hid ((oa.out.alloc (.cells #[.slice (some ⟨rb,0,none⟩) m m] 29)))) (Lib.hid ((ob.out.alloc (.cells #[.slice (some ⟨rb,0,none⟩) m m] 29)))) (Lib.hid (ap.out)) (Lib.hid (⟨(Bk.new W 29 [.slice (some ⟨rb,0,none⟩) m m]).cell (j:=0) rfl,hk.out.size,by rw [World.size_alloc];exact Nat.lt_succ_self _⟩)) (Lib.hid (⟨⟨(World.cell?_alloc_lt _ _ _ c14.out.2.2).trans c14.out.1.1,(World.cell?_alloc_lt _ _ _ c14.out.2.2).trans c14.out.1.2.1,(World.cell?_alloc_lt _ _ _ c14.out.2.2).trans c14.out.1.2.2⟩,c14.out.2.1,by rw [World.size_alloc];exact Nat.lt_succ_of_lt c14.out.2.2⟩))
  exact AllReadyH.nil
 have Lx5x12 : ∀ (W : World),Hid (Kp (xb :: ((Value.slice Aa i ca).ownBlock.toList ++ (Value.slice Ab i cb).ownBlock.toList)) w W) → Hid (Bk W xb 74 [uv,.slice Aa i ca,.slice Ab i cb]) → Hid (Bk W gb 37 [.bool x.1,.string x.2.1,.string x.2.2]) → Hid (W.ownsRow B1 29 1 (Value.slice Aa i ca) i hds) → Hid (W.ownsRow B1 37 3 (Value.slice Ab i cb) i cbs) → Hid (∀ b,(Value.slice Aa i ca).ownBlock = some b → (Value.slice Ab i cb).ownBlock ≠ some b) → F 10 #[true,true,true,true,true,true,true,false,false,true,true,true,true,true,false,false,false,false,false,false,false,false] ⟨#[.pointer (some ⟨xb,0,none⟩),c1,c2,c3,c4,c5,c6,c7,c8,.slice (some ⟨rb,0,none⟩) m m,c10,.pointer (some ⟨gb,0,none⟩),c12,c13,c14,c15,c16,c17,c18,c19,c20,c21,c22,c23,c24,c25,c26,c27,c28,c29,c30,c31,c32,c33,c34,c35,c36,c37,c38,c39,c40,c41,c42,c43,c44,c45,c46,c47,c48,c49,c50,c51,c52,c53,c54,c55,c56,c57,c58,c59,c60,c61,c62,c63,c64,c65,c66,c67,c68,c69,c70,c71,c72,c73,c74,c75,c76,c77,c78,c79,c80,c81,c82,c83,c84,c85,c86,.pointer (some ⟨xb,0,none⟩),.pointer (some ⟨xb,0,none⟩),.pointer (some ⟨xb,0,none⟩),.pointer (some ⟨xb,0,none⟩),.pointer (some ⟨xb,1,none⟩),.slice Aa i ca,.slice (some ⟨rb,0,none⟩) m m,a94,a95,.pointer (some ⟨xb,0,none⟩),.pointer (some ⟨xb,0,none⟩),.pointer (some ⟨xb,2,none⟩),.slice Ab i cb,.agg #[.bool x.1,.string x.2.1,.string x.2.2],a101,a102,a103,a104,a105,a106,c107],[]⟩ W:=by
  intro  W hk hx hb oa ob ap
  rw [hF.out]
  refine wpAnyH_ready (rs:=[7,14]) (by kernel_rfl) (by simp) ?_
  refine AllReadyH.cons (o:=_) rfl (fun K hK => ?_) ?_
  · go_simp
    refine hK.out _ _ (⟨(hb.out.alloc (.cells #[.slice (some ⟨rb,0,none⟩) m m] 29)).cell (j:=0) rfl,(hb.out.alloc (.cells #[.slice (some ⟨rb,0,none⟩) m m] 29)).cell (j:=1) rfl,(hb.out.alloc (.cells #[.slice (some ⟨rb,0,none⟩) m m] 29)).cell (j:=2) rfl⟩) (fun _ => ?_)
    clear hK K
    try simp only [List.setIfInBounds_toArray,List.set_cons_zero,List.set_cons_succ]
    rw [← hF.out]
    exact Lx5x7x12 W.heap.size _ (Lib.hid ((hk.out.alloc (.cells #[.slice (some ⟨rb,0,none⟩) m m] 29)))) (Lib.hid ((hx.out.alloc (.cells #[.slice (some ⟨rb,0,none⟩) m m] 29)))) (Lib.hid ((hb.out.alloc (.cells #[.slice (some ⟨rb,0,none⟩) m m] 29)))) (Lib.hid ((oa.out.alloc (.cells #[.slice (some ⟨rb,0,none⟩) m m] 29)))) (Lib.hid ((ob.out.alloc (.cells #[.slice (some ⟨rb,0,none⟩) m m] 29)))) (Lib.hid (ap.out)) (Lib.hid (⟨(Bk.new W 29 [.slice (some ⟨rb,0,none⟩) m m]).cell (j:=0) rfl,hk.out.size,by rw [World.size_alloc];exact Nat.lt_succ_self _⟩))
  refine AllReadyH.cons (o:=_) rfl (fun K hK => ?_) ?_
  · go_simp
    refine hK.out _ _ (⟨(hb.out.alloc (.cells #[.bool x.1,.string x.2.1,.string x.2.2] 37)).cell (j:=0) rfl,(hb.out.alloc (.cells #[.bool x.1,.string x.2.1,.string x.2.2] 37)).cell (j:=1) rfl,(hb.out.alloc (.cells #[.bool x.1,.string x.2.1,.string x.2.2] 37)).cell (j:=2) rfl⟩) (fun _ => ?_)
    clear hK K
    try simp only [List.setIfInBounds_toArray,List.set_cons_zero,List.set_cons_succ]
    rw [← hF.out]
    exact Lx5x12x14 W.heap.size _ (Lib.hid ((hk.out.alloc (.cells #[.bool x.1,.string x.2.1,.string x.2.2] 37)))) (Lib.hid ((hx.out.alloc (.cells #[.bool x.1,.string x.2.1,.string x.2.2] 37)))) (Lib.hid ((hb.out.alloc (.cells #[.bool x.1,.string x.2.1,.string x.2.2] 37)))) (Lib.hid ((oa.out.alloc (.cells #[.bool x.1,.string x.2.1,.string x.2.2] 37)))) (Lib.hid ((ob.out.alloc (.cells #[.bool x.1,.string x.2.1,.string x.2.2] 37)))) (Lib.hid (ap.out)) (Lib.hid (⟨⟨(Bk.new W 37 [.bool x.1,.string x.2.1,.string x.2.2]).cell (j:=0) rfl,(Bk.new W 37 [.bool x.1,.string x.2.1,.string x.2.2]).cell (j:=1) rfl,(Bk.new W 37 [.bool x.1,.string x.2.1,.string x.2.2]).cell (j:=2) rfl⟩,hk.out.size,by rw [World.size_alloc];exact Nat.lt_succ_self _⟩))
  exact AllReadyH.nil
 have Lx5x14 : ∀ (l14 : Nat) (W : World),Hid (Kp (xb :: ((Value.slice Aa i ca).ownBlock.toList ++ (Value.slice Ab i cb).ownBlock.toList)) w W) → Hid (Bk W xb 74 [uv,.slice Aa i ca,.slice Ab i cb]) → Hid (Bk W gb 37 [.bool x.1,.string x.2.1,.string x.2.2]) → Hid (W.ownsRow B1 29 1 (Value.slice Aa i ca) i hds) → Hid (W.ownsRow B1 37 3 (Value.slice Ab i cb) i cbs) → Hid (∀ b,(Value.slice Aa i ca).ownBlock = some b → (Value.slice Ab i cb).ownBlock ≠ some b) → Hid ((W.cell? ⟨l14,0,none⟩ = some (.bool x.1) ∧ W.cell? ⟨l14,1,none⟩ = some (.string x.2.1) ∧ W.cell? ⟨l14,2,none⟩ = some (.string x.2.2)) ∧ w.heap.size ≤ l14 ∧ l14 < W.heap.size) → F 10 #[true,true,true,true,true,true,true,false,false,true,true,true,false,true,true,false,false,false,false,false,false,false] ⟨#[.pointer (some ⟨xb,0,none⟩),c1,c2,c3,c4,c5,c6,c7,c8,.slice (some ⟨rb,0,none⟩) m m,c10,.pointer (some ⟨gb,0,none⟩),c12,c13,c14,c15,c16,c17,c18,c19,c20,c21,c22,c23,c24,c25,c26,c27,c28,c29,c30,c31,c32,c33,c34,c35,c36,c37,c38,c39,c40,c41,c42,c43,c44,c45,c46,c47,c48,c49,c50,c51,c52,c53,c54,c55,c56,c57,c58,c59,c60,c61,c62,c63,c64,c65,c66,c67,c68,c69,c70,c71,c72,c73,c74,c75,c76,c77,c78,c79,c80,c81,c82,c83,c84,c85,c86,.pointer (some ⟨xb,0,none⟩),.pointer (some ⟨xb,0,none⟩),.pointer (some ⟨xb,0,none⟩),.pointer (some ⟨xb,0,none⟩),.pointer (some ⟨xb,1,none⟩),.slice Aa i ca,.slice (some ⟨rb,0,none⟩) m m,a94,a95,.pointer (some ⟨xb,0,none⟩),.pointer (some ⟨xb,0,none⟩),.pointer (some ⟨xb,2,none⟩),a99,.agg #[.bool x.1,.string x.2.1,.string x.2.2],.slice (some ⟨l14,0,none⟩) 1 1,a102,a103,a104,a105,a106,c107],[]⟩ W:=by
  intro l14 W hk hx hb oa ob ap c14
  rw [hF.out]
  refine wpAnyH_ready (rs:=[7,12]) (by kernel_rfl) (by simp) ?_
  refine AllReadyH.cons (o:=_) rfl (fun K hK => ?_) ?_
  · go_simp
    refine hK.out _ _ (⟨(hb.out.alloc (.cells #[.slice (some ⟨rb,0,none⟩) m m] 29)).cell (j:=0) rfl,(hb.out.alloc (.cells #[.slice (some ⟨rb,0,none⟩) m m] 29)).cell (j:=1) rfl,(hb.out.alloc (.cells #[.slice (some ⟨rb,0,none⟩) m m] 29)).cell (j:=2) rfl⟩) (fun _ => ?_)
    clear hK K
    try simp only [List.setIfInBounds_toArray,List.set_cons_zero,List.set_cons_succ]
    rw [← hF.out]
    exact Lx5x7x14 W.heap.size l14 _ (Lib.hid ((hk.out.alloc (.cells #[.slice (some ⟨rb,0,none⟩) m m] 29)))) (Lib.hid ((hx.out.alloc (.cells #[.slice (some ⟨rb,0,none⟩) m m] 29)))) (Lib.hid ((hb.out.alloc (.cells #[.slice (some ⟨rb,0,none⟩) m m] 29)))) (Lib.hid ((oa.out.alloc (.cells #[.slice (some ⟨rb,0,none⟩) m m] 29)))) (Lib.hid ((ob.out.alloc (.cells #[.slice (some ⟨rb,0,none⟩) m m] 29)))) (Lib.hid (ap.out)) (Lib.hid (⟨(Bk.new W 29 [.slice (some ⟨rb,0,none⟩) m m]).cell (j:=0) rfl,hk.out.size,by rw [World.size_alloc];exact Nat.lt_succ_self _⟩)) (Lib.hid (⟨⟨(World.cell?_alloc_lt _ _ _ c14.out.2.2).trans c14.out.1.1,(World.cell?_alloc_lt _ _ _ c14.out.2.2).trans c14.out.1.2.1,(World.cell?_alloc_lt _ _ _ c14.out.2.2).trans c14.out.1.2.2⟩,c14.out.2.1,by rw [World.size_alloc];exact Nat.lt_succ_of_lt c14.out.2.2⟩))
  have x1:=hx.out.cell (j:=2) rfl;have x9:=hx.out.lt
  refine AllReadyH.cons (o:=_) rfl (fun K hK => ?_) ?_
  · go_simp
    clear x1 x9
    refine hK.out _ _ (⟨hb.out.cell (j:=0) rfl,hb.out.cell (j:=1) rfl,hb.out.cell (j:=2) rfl⟩) (fun _ => ?_)
    clear hK K
    try simp only [List.setIfInBounds_toArray,List.set_cons_zero,List.set_cons_succ]
    rw [← hF.out]
    exact Lx5x12x14 l14 W hk hx hb oa ob ap c14
  clear x1 x9
  exact AllReadyH.nil
 have Lx5 : ∀ (W : World),Hid (Kp (xb :: ((Value.slice Aa i ca).ownBlock.toList ++ (Value.slice Ab i cb).ownBlock.toList)) w W) → Hid (Bk W xb 74 [uv,.slice Aa i ca,.slice Ab i cb]) → Hid (Bk W gb 37 [.bool x.1,.string x.2.1,.string x.2.2]) → Hid (W.ownsRow B1 29 1 (Value.slice Aa i ca) i hds) → Hid (W.ownsRow B1 37 3 (Value.slice Ab i cb) i cbs) → Hid (∀ b,(Value.slice Aa i ca).ownBlock = some b → (Value.slice Ab i cb).ownBlock ≠ some b) → F 11 #[true,true,true,true,true,true,true,false,false,true,true,true,false,true,false,false,false,false,false,false,false,false] ⟨#[.pointer (some ⟨xb,0,none⟩),c1,c2,c3,c4,c5,c6,c7,c8,.slice (some ⟨rb,0,none⟩) m m,c10,.pointer (some ⟨gb,0,none⟩),c12,c13,c14,c15,c16,c17,c18,c19,c20,c21,c22,c23,c24,c25,c26,c27,c28,c29,c30,c31,c32,c33,c34,c35,c36,c37,c38,c39,c40,c41,c42,c43,c44,c45,c46,c47,c48,c49,c50,c51,c52,c53,c54,c55,c56,c57,c58,c59,c60,c61,c62,c63,c64,c65,c66,c67,c68,c69,c70,c71,c72,c73,c74,c75,c76,c77,c78,c79,c80,c81,c82,c83,c84,c85,c86,.pointer (some ⟨xb,0,none⟩),.pointer (some ⟨xb,0,none⟩),.pointer (some ⟨xb,0,none⟩),.pointer (some ⟨xb,0,none⟩),.pointer (some ⟨xb,1,none⟩),.slice Aa i ca,.slice (some ⟨rb,0,none⟩) m m,a94,a95,.pointer (some ⟨xb,0,none⟩),.pointer (some ⟨xb,0,none⟩),.pointer (some ⟨xb,2,none⟩),a99,.agg #[.bool x.1,.string x.2.1,.string x.2.2],a101,a102,a103,a104,a105,a106,c107],[]⟩ W:=by
  intro  W hk hx hb oa ob ap
  rw [hF.out]
  refine wpAnyH_ready (rs:=[7,12,14]) (by kernel_rfl) (by simp) ?_
  refine AllReadyH.cons (o:=_) rfl (fun K hK => ?_) ?_
  · go_simp
    refine hK.out _ _ (⟨(hb.out.alloc (.cells #[.slice (some ⟨rb,0,none⟩) m m] 29)).cell (j:=0) rfl,(hb.out.alloc (.cells #[.slice (some ⟨rb,0,none⟩) m m] 29)).cell (j:=1) rfl,(hb.out.alloc (.cells #[.slice (some ⟨rb,0,none⟩) m m] 29)).cell (j:=2) rfl⟩) (fun _ => ?_)
    clear hK K
    try simp only [List.setIfInBounds_toArray,List.set_cons_zero,List.set_cons_succ]
    rw [← hF.out]
    exact Lx5x7 W.heap.size _ (Lib.hid ((hk.out.alloc (.cells #[.slice (some ⟨rb,0,none⟩) m m] 29)))) (Lib.hid ((hx.out.alloc (.cells #[.slice (some ⟨rb,0,none⟩) m m] 29)))) (Lib.hid ((hb.out.alloc (.cells #[.slice (some ⟨rb,0,none⟩) m m] 29)))) (Lib.hid ((oa.out.alloc (.cells #[.slice (some ⟨rb,0,none⟩) m m] 29)))) (Lib.hid ((ob.out.alloc (.cells #[.slice (some ⟨rb,0,none⟩) m m] 29)))) (Lib.hid (ap.out)) (Lib.hid (⟨(Bk.new W 29 [.slice (some ⟨rb,0,none⟩) m m]).cell (j:=0) rfl,hk.out.size,by rw [World.size_alloc];exact Nat.lt_succ_self _⟩))
  have x1:=hx.out.cell (j:=2) rfl;have x9:=hx.out.lt
  refine AllReadyH.cons (o:=_) rfl (fun K hK => ?_) ?_
  · go_simp
    clear x1 x9
    refine hK.out _ _ (⟨hb.out.cell (j:=0) rfl,hb.out.cell (j:=1) rfl,hb.out.cell (j:=2) rfl⟩) (fun _ => ?_)
    clear hK K
    try simp only [List.setIfInBounds_toArray,List.set_cons_zero,List.set_cons_succ]
    rw [← hF.out]
    exact Lx5x12  W hk hx hb oa ob ap
  clear x1 x9
  refine AllReadyH.cons (o:=_) rfl (fun K hK => ?_) ?_
  · go_simp
    refine hK.out _ _ (⟨(hb.out.alloc (.cells #[.bool x.1,.string x.2.1,.string x.2.2] 37)).cell (j:=0) rfl,(hb.out.alloc (.cells #[.bool x.1,.string x.2.1,.string x.2.2] 37)).cell (j:=1) rfl,(hb.out.alloc (.cells #[.bool x.1,.string x.2.1,.string x.2.2] 37)).cell (j:=2) rfl⟩) (fun _ => ?_)
    clear hK K
    try simp only [List.setIfInBounds_toArray,List.set_cons_zero,List.set_cons_succ]
    rw [← hF.out]
    exact Lx5x14 W.heap.size _ (Lib.hid ((hk.out.alloc (.cells #[.bool x.1,.string x.2.1,.string x.2.2] 37)))) (Lib.hid ((hx.out.alloc (.cells #[.bool x.1,.string x.2.1,.string x.2.2] 37)))) (Lib.hid ((hb.out.alloc (.cells #[.bool x.1,.string x.2.1,.string x.2.2] 37)))) (Lib.hid ((oa.out.alloc (.cells #[.bool x.1,.string x.2.1,.string x.2.2] 37)))) (Lib.hid ((ob.out.alloc (.cells #[.bool x.1,.string x.2.1,.string x.2.2] 37)))) (Lib.hid (ap.out)) (Lib.hid (⟨⟨(Bk.new W 37 [.bool x.1,.string x.2.1,.string x.2.2]).cell (j:=0) rfl,(Bk.new W 37 [.bool x.1,.string x.2.1,.string x.2.2]).cell (j:=1) rfl,(Bk.new W 37 [.bool x.1,.string x.2.1,.string x.2.2]).cell (j:=2) rfl⟩,hk.out.size,by rw [World.size_alloc];exact Nat.lt_succ_self _⟩))
  exact AllReadyH.nil
 have Lx7x12x14 : ∀ (l7 : Nat) (l14 : Nat) (W : World),Hid (Kp (xb :: ((Value.slice Aa i ca).ownBlock.toList ++ (Value.slice Ab i cb).ownBlock.toList)) w W) → Hid (Bk W xb 74 [uv,.slice Aa i ca,.slice Ab i cb]) → Hid (Bk W gb 37 [.bool x.1,.string x.2.1,.string x.2.2]) → Hid (W.ownsRow B1 29 1 (Value.slice Aa i ca) i hds) → Hid (W.ownsRow B1 37 3 (Value.slice Ab i cb) i cbs) → Hid (∀ b,(Value.slice Aa i ca).ownBlock = some b → (Value.slice Ab i cb).ownBlock ≠ some b) → Hid (W.cell? ⟨l7,0,none⟩ = some (.slice (some ⟨rb,0,none⟩) m m) ∧ w.heap.size ≤ l7 ∧ l7 < W.heap.size) → Hid ((W.cell? ⟨l14,0,none⟩ = some (.bool x.1) ∧ W.cell? ⟨l14,1,none⟩ = some (.string x.2.1) ∧ W.cell? ⟨l14,2,none⟩ = some (.string x.2.2)) ∧ w.heap.size ≤ l14 ∧ l14 < W.heap.size) → F 9 #[true,true,true,true,true,false,true,true,false,true,true,true,true,true,true,false,false,false,false,false,false,false] ⟨#[.pointer (some ⟨xb,0,none⟩),c1,c2,c3,c4,c5,c6,c7,c8,.slice (some ⟨rb,0,none⟩) m m,c10,.pointer (some ⟨gb,0,none⟩),c12,c13,c14,c15,c16,c17,c18,c19,c20,c21,c22,c23,c24,c25,c26,c27,c28,c29,c30,c31,c32,c33,c34,c35,c36,c37,c38,c39,c40,c41,c42,c43,c44,c45,c46,c47,c48,c49,c50,c51,c52,c53,c54,c55,c56,c57,c58,c59,c60,c61,c62,c63,c64,c65,c66,c67,c68,c69,c70,c71,c72,c73,c74,c75,c76,c77,c78,c79,c80,c81,c82,c83,c84,c85,c86,.pointer (some ⟨xb,0,none⟩),.pointer (some ⟨xb,0,none⟩),.pointer (some ⟨xb,0,none⟩),.pointer (some ⟨xb,0,none⟩),.pointer (some ⟨xb,1,none⟩),a92,.slice (some ⟨rb,0,none⟩) m m,.slice (some ⟨l7,0,none⟩) 1 1,a95,.pointer (some ⟨xb,0,none⟩),.pointer (some ⟨xb,0,none⟩),.pointer (some ⟨xb,2,none⟩),.slice Ab i cb,.agg #[.bool x.1,.string x.2.1,.string x.2.2],.slice (some ⟨l14,0,none⟩) 1 1,a102,a103,a104,a105,a106,c107],[]⟩ W:=by
  intro l7 l14 W hk hx hb oa ob ap c7 c14
  rw [hF.out]
  refine wpAnyH_ready (rs:=[5]) (by kernel_rfl) (by simp) ?_
  have x1:=hx.out.cell (j:=1) rfl;have x9:=hx.out.lt
  refine AllReadyH.cons (o:=_) rfl (fun K hK => ?_) ?_
  · go_simp
    clear x1 x9
    refine hK.out _ _ (⟨hb.out.cell (j:=0) rfl,hb.out.cell (j:=1) rfl,hb.out.cell (j:=2) rfl⟩) (fun _ => ?_)
    clear hK K
    try simp only [List.setIfInBounds_toArray,List.set_cons_zero,List.set_cons_succ]
    rw [← hF.out]
    exact Lx5x7x12x14 l7 l14 W hk hx hb oa ob ap c7 c14
  clear x1 x9
  exact AllReadyH.nil
 have Lx7x12 : ∀ (l7 : Nat) (W : World),Hid (Kp (xb :: ((Value.slice Aa i ca).ownBlock.toList ++ (Value.slice Ab i cb).ownBlock.toList)) w W) → Hid (Bk W xb 74 [uv,.slice Aa i ca,.slice Ab i cb]) → Hid (Bk W gb 37 [.bool x.1,.string x.2.1,.string x.2.2]) → Hid (W.ownsRow B1 29 1 (Value.slice Aa i ca) i hds) → Hid (W.ownsRow B1 37 3 (Value.slice Ab i cb) i cbs) → Hid (∀ b,(Value.slice Aa i ca).ownBlock = some b → (Value.slice Ab i cb).ownBlock ≠ some b) → Hid (W.cell? ⟨l7,0,none⟩ = some (.slice (some ⟨rb,0,none⟩) m m) ∧ w.heap.size ≤ l7 ∧ l7 < W.heap.size) → F 10 #[true,true,true,true,true,false,true,true,false,true,true,true,true,true,false,false,false,false,false,false,false,false] ⟨#[.pointer (some ⟨xb,0,none⟩),c1,c2,c3,c4,c5,c6,c7,c8,.slice (some ⟨rb,0,none⟩) m m,c10,.pointer (some ⟨gb,0,none⟩),c12,c13,c14,c15,c16,c17,c18,c19,c20,c21,c22,c23,c24,c25,c26,c27,c28,c29,c30,c31,c32,c33,c34,c35,c36,c37,c38,c39,c40,c41,c42,c43,c44,c45,c46,c47,c48,c49,c50,c51,c52,c53,c54,c55,c56,c57,c58,c59,c60,c61,c62,c63,c64,c65,c66,c67,c68,c69,c70,c71,c72,c73,c74,c75,c76,c77,c78,c79,c80,c81,c82,c83,c84,c85,c86,.pointer (some ⟨xb,0,none⟩),.pointer (some ⟨xb,0,none⟩),.pointer (some ⟨xb,0,none⟩),.pointer (some ⟨xb,0,none⟩),.pointer (some ⟨xb,1,none⟩),a92,.slice (some ⟨rb,0,none⟩) m m,.slice (some ⟨l7,0,none⟩) 1 1,a95,.pointer (some ⟨xb,0,none⟩),.pointer (some ⟨xb,0,none⟩),.pointer (some ⟨xb,2,none⟩),.slice Ab i cb,.agg #[.bool x.1,.string x.2.1,.string x.2.2],a101,a102,a103,a104,a105,a106,c107],[]⟩ W:=by
  intro l7 W hk hx hb oa ob ap c7
  rw [hF.out]
  refine wpAnyH_ready (rs:=[5,14]) (by kernel_rfl) (by simp) ?_
  have x1:=hx.out.cell (j:=1) rfl;have x9:=hx.out.lt
  refine AllReadyH.cons (o:=_) rfl (fun K hK => ?_) ?_
  · go_simp
    clear x1 x9
    refine hK.out _ _ (⟨hb.out.cell (j:=0) rfl,hb.out.cell (j:=1) rfl,hb.out.cell (j:=2) rfl⟩) (fun _ => ?_)
    clear hK K
    try simp only [List.setIfInBounds_toArray,List.set_cons_zero,List.set_cons_succ]
    rw [← hF.out]
    exact Lx5x7x12 l7 W hk hx hb oa ob ap c7
  clear x1 x9
  refine AllReadyH.cons (o:=_) rfl (fun K hK => ?_) ?_
  · go_simp
    refine hK.out _ _ (⟨(hb.out.alloc (.cells #[.bool x.1,.string x.2.1,.string x.2.2] 37)).cell (j:=0) rfl,(hb.out.alloc (.cells #[.bool x.1,.string x.2.1,.string x.2.2] 37)).cell (j:=1) rfl,(hb.out.alloc (.cells #[.bool x.1,.string x.2.1,.string x.2.2] 37)).cell (j:=2) rfl⟩) (fun _ => ?_)
    clear hK K
    try simp only [List.setIfInBounds_toArray,List.set_cons_zero,List.set_cons_succ]
    rw [← hF.out]
    exact Lx7x12x14 l7 W.heap.size _ (Lib.hid ((hk.out.alloc (.cells #[.bool x.1,.string x.2.1,.string x.2.2] 37)))) (Lib.hid ((hx.out.alloc (.cells #[.bool x.1,.string x.2.1,.string x.2.2] 37)))) (Lib.hid ((hb.out.alloc (.cells #[.bool x.1,.string x.2.1,.string x.2.2] 37)))) (Lib.hid ((oa.out.alloc (.cells #[.bool x.1,.string x.2.1,.string x.2.2] 37)))) (Lib.hid ((ob.out.alloc (.cells #[.bool x.1,.string x.2.1,.string x.2.2] 37)))) (Lib.hid (ap.out)) (Lib.hid (⟨(World.cell?_alloc_lt _ _ _ c7.out.2.2).trans c7.out.1,c7.out.2.1,by rw [World.size_alloc];exact Nat.lt_succ_of_lt c7.out.2.2⟩)) (Lib.hid (⟨⟨(Bk.new W 37 [.bool x.1,.string x.2.1,.string x.2.2]).cell (j:=0) rfl,(Bk.new W 37 [.bool x.1,.string x.2.1,.string x.2.2]).cell (j:=1) rfl,(Bk.new W 37 [.bool x.1,.string x.2.1,.string x.2.2]).cell (j:=2) rfl⟩,hk.out.size,by rw [World.size_alloc];exact Nat.lt_succ_self _⟩))
  exact AllReadyH.nil
 have Lx7x14 : ∀ (l7 : Nat) (l14 : Nat) (W : World),Hid (Kp (xb :: ((Value.slice Aa i ca).ownBlock.toList ++ (Value.slice Ab i cb).ownBlock.toList)) w W) → Hid (Bk W xb 74 [uv,.slice Aa i ca,.slice Ab i cb]) → Hid (Bk W gb 37 [.bool x.1,.string x.2.1,.string x.2.2]) → Hid (W.ownsRow B1 29 1 (Value.slice Aa i ca) i hds) → Hid (W.ownsRow B1 37 3 (Value.slice Ab i cb) i cbs) → Hid (∀ b,(Value.slice Aa i ca).ownBlock = some b → (Value.slice Ab i cb).ownBlock ≠ some b) → Hid (W.cell? ⟨l7,0,none⟩ = some (.slice (some ⟨rb,0,none⟩) m m) ∧ w.heap.size ≤ l7 ∧ l7 < W.heap.size) → Hid ((W.cell? ⟨l14,0,none⟩ = some (.bool x.1) ∧ W.cell? ⟨l14,1,none⟩ = some (.string x.2.1) ∧ W.cell? ⟨l14,2,none⟩ = some (.string x.2.2)) ∧ w.heap.size ≤ l14 ∧ l14 < W.heap.size) → F 10 #[true,true,true,true,true,false,true,true,false,true,true,true,false,true,true,false,false,false,false,false,false,false] ⟨#[.pointer (some ⟨xb,0,none⟩),c1,c2,c3,c4,c5,c6,c7,c8,.slice (some ⟨rb,0,none⟩) m m,c10,.pointer (some ⟨gb,0,none⟩),c12,c13,c14,c15,c16,c17,c18,c19,c20,c21,c22,c23,c24,c25,c26,c27,c28,c29,c30,c31,c32,c33,c34,c35,c36,c37,c38,c39,c40,c41,c42,c43,c44,c45,c46,c47,c48,c49,c50,c51,c52,c53,c54,c55,c56,c57,c58,c59,c60,c61,c62,c63,c64,c65,c66,c67,c68,c69,c70,c71,c72,c73,c74,c75,c76,c77,c78,c79,c80,c81,c82,c83,c84,c85,c86,.pointer (some ⟨xb,0,none⟩),.pointer (some ⟨xb,0,none⟩),.pointer (some ⟨xb,0,none⟩),.pointer (some ⟨xb,0,none⟩),.pointer (some ⟨xb,1,none⟩),a92,.slice (some ⟨rb,0,none⟩) m m,.slice (some ⟨l7,0,none⟩) 1 1,a95,.pointer (some ⟨xb,0,none⟩),.pointer (some ⟨xb,0,none⟩),.pointer (some ⟨xb,2,none⟩),a99,.agg #[.bool x.1,.string x.2.1,.string x.2.2],.slice (some ⟨l14,0,none⟩) 1 1,a102,a103,a104,a105,a106,c107],[]⟩ W:=by
  intro l7 l14 W hk hx hb oa ob ap c7 c14
  rw [hF.out]
  refine wpAnyH_ready (rs:=[5,12]) (by kernel_rfl) (by simp) ?_
  have x1:=hx.out.cell (j:=1) rfl;have x9:=hx.out.lt
  refine AllReadyH.cons (o:=_) rfl (fun K hK => ?_) ?_
  · go_simp
    clear x1 x9
    refine hK.out _ _ (⟨hb.out.cell (j:=0) rfl,hb.out.cell (j:=1) rfl,hb.out.cell (j:=2) rfl⟩) (fun _ => ?_)
    clear hK K
    try simp only [List.setIfInBounds_toArray,List.set_cons_zero,List.set_cons_succ]
    rw [← hF.out]
    exact Lx5x7x14 l7 l14 W hk hx hb oa ob ap c7 c14
  clear x1 x9
  have x1:=hx.out.cell (j:=2) rfl;have x9:=hx.out.lt
  refine AllReadyH.cons (o:=_) rfl (fun K hK => ?_) ?_
  · go_simp
    clear x1 x9
    refine hK.out _ _ (⟨hb.out.cell (j:=0) rfl,hb.out.cell (j:=1) rfl,hb.out.cell (j:=2) rfl⟩) (fun _ => ?_)
    clear hK K
    try simp only [List.setIfInBounds_toArray,List.set_cons_zero,List.set_cons_succ]
    rw [← hF.out]
    exact Lx7x12x14 l7 l14 W hk hx hb oa ob ap c7 c14
  clear x1 x9
  exact AllReadyH.nil
 have Lx7 : ∀ (l7 : Nat) (W : World),Hid (Kp (xb :: ((Value.slice Aa i ca).ownBlock.toList ++ (Value.slice Ab i cb).ownBlock.toList)) w W) → Hid (Bk W xb 74 [uv,.slice Aa i ca,.slice Ab i cb]) → Hid (Bk W gb 37 [.bool x.1,.string x.2.1,.string x.2.2]) → Hid (W.ownsRow B1 29 1 (Value.slice Aa i ca) i hds) → Hid (W.ownsRow B1 37 3 (Value.slice Ab i cb) i cbs) → Hid (∀ b,(Value.slice Aa i ca).ownBlock = some b → (Value.slice Ab i cb).ownBlock ≠ some b) → Hid (W.cell? ⟨l7,0,none⟩ = some (.slice (some ⟨rb,0,none⟩) m m) ∧ w.heap.size ≤ l7 ∧ l7 < W.heap.size) → F 11 #[true,true,true,true,true,false,true,true,false,true,true,true,false,true,false,false,false,false,false,false,false,false] ⟨#[.pointer (some ⟨xb,0,none⟩),c1,c2,c3,c4,c5,c6,c7,c8,.slice (some ⟨rb,0,none⟩) m m,c10,.pointer (some ⟨gb,0,none⟩),c12,c13,c14,c15,c16,c17,c18,c19,c20,c21,c22,c23,c24,c25,c26,c27,c28,c29,c30,c31,c32,c33,c34,c35,c36,c37,c38,c39,c40,c41,c42,c43,c44,c45,c46,c47,c48,c49,c50,c51,c52,c53,c54,c55,c56,c57,c58,c59,c60,c61,c62,c63,c64,c65,c66,c67,c68,c69,c70,c71,c72,c73,c74,c75,c76,c77,c78,c79,c80,c81,c82,c83,c84,c85,c86,.pointer (some ⟨xb,0,none⟩),.pointer (some ⟨xb,0,none⟩),.pointer (some ⟨xb,0,none⟩),.pointer (some ⟨xb,0,none⟩),.pointer (some ⟨xb,1,none⟩),a92,.slice (some ⟨rb,0,none⟩) m m,.slice (some ⟨l7,0,none⟩) 1 1,a95,.pointer (some ⟨xb,0,none⟩),.pointer (some ⟨xb,0,none⟩),.pointer (some ⟨xb,2,none⟩),a99,.agg #[.bool x.1,.string x.2.1,.string x.2.2],a101,a102,a103,a104,a105,a106,c107],[]⟩ W:=by
  intro l7 W hk hx hb oa ob ap c7
  rw [hF.out]
  refine wpAnyH_ready (rs:=[5,12,14]) (by kernel_rfl) (by simp) ?_
  have x1:=hx.out.cell (j:=1) rfl;have x9:=hx.out.lt
  refine AllReadyH.cons (o:=_) rfl (fun K hK => ?_) ?_
  · go_simp
    clear x1 x9
    refine hK.out _ _ (⟨hb.out.cell (j:=0) rfl,hb.out.cell (j:=1) rfl,hb.out.cell (j:=2) rfl⟩) (fun _ => ?_)
    clear hK K
    try simp only [List.setIfInBounds_toArray,List.set_cons_zero,List.set_cons_succ]
    rw [← hF.out]
    exact Lx5x7 l7 W hk hx hb oa ob ap c7
  clear x1 x9
  have x1:=hx.out.cell (j:=2) rfl;have x9:=hx.out.lt
  refine AllReadyH.cons (o:=_) rfl (fun K hK => ?_) ?_
  · go_simp
    clear x1 x9
    refine hK.out _ _ (⟨hb.out.cell (j:=0) rfl,hb.out.cell (j:=1) rfl,hb.out.cell (j:=2) rfl⟩) (fun _ => ?_)
    clear hK K
    try simp only [List.setIfInBounds_toArray,List.set_cons_zero,List.set_cons_succ]
    rw [← hF.out]
    exact Lx7x12 l7 W hk hx hb oa ob ap c7
  clear x1 x9
  refine AllReadyH.cons (o:=_) rfl (fun K hK => ?_) ?_
  · go_simp
    refine hK.out _ _ (⟨(hb.out.alloc (.cells #[.bool x.1,.string x.2.1,.string x.2.2] 37)).cell (j:=0) rfl,(hb.out.alloc (.cells #[.bool x.1,.string x.2.1,.string x.2.2] 37)).cell (j:=1) rfl,(hb.out.alloc (.cells #[.bool x.1,.string x.2.1,.string x.2.2] 37)).cell (j:=2) rfl⟩) (fun _ => ?_)
    clear hK K
    try simp only [List.setIfInBounds_toArray,List.set_cons_zero,List.set_cons_succ]
    rw [← hF.out]
    exact Lx7x14 l7 W.heap.size _ (Lib.hid ((hk.out.alloc (.cells #[.bool x.1,.string x.2.1,.string x.2.2] 37)))) (Lib.hid ((hx.out.alloc (.cells #[.bool x.1,.string x.2.1,.string x.2.2] 37)))) (Lib.hid ((hb.out.alloc (.cells #[.bool x.1,.string x.2.1,.string x.2.2] 37)))) (Lib.hid ((oa.out.alloc (.cells #[.bool x.1,.string x.2.1,.string x.2.2] 37)))) (Lib.hid ((ob.out.alloc (.cells #[.bool x.1,.string x.2.1,.string x.2.2] 37)))) (Lib.hid (ap.out)) (Lib.hid (⟨(World.cell?_alloc_lt _ _ _ c7.out.2.2).trans c7.out.1,c7.out.2.1,by rw [World.size_alloc];exact Nat.lt_succ_of_lt c7.out.2.2⟩)) (Lib.hid (⟨⟨(Bk.new W 37 [.bool x.1,.string x.2.1,.string x.2.2]).cell (j:=0) rfl,(Bk.new W 37 [.bool x.1,.string x.2.1,.string x.2.2]).cell (j:=1) rfl,(Bk.new W 37 [.bool x.1,.string x.2.1,.string x.2.2]).cell (j:=2) rfl⟩,hk.out.size,by rw [World.size_alloc];exact Nat.lt_succ_self _⟩))
  exact AllReadyH.nil
 have Lx12x14 : ∀ (l14 : Nat) (W : World),Hid (Kp (xb :: ((Value.slice Aa i ca).ownBlock.toList ++ (Value.slice Ab i cb).ownBlock.toList)) w W) → Hid (Bk W xb 74 [uv,.slice Aa i ca,.slice Ab i cb]) → Hid (Bk W gb 37 [.bool x.1,.string x.2.1,.string x.2.2]) → Hid (W.ownsRow B1 29 1 (Value.slice Aa i ca) i hds) → Hid (W.ownsRow B1 37 3 (Value.slice Ab i cb) i cbs) → Hid (∀ b,(Value.slice Aa i ca).ownBlock = some b → (Value.slice Ab i cb).ownBlock ≠ some b) → Hid ((W.cell? ⟨l14,0,none⟩ = some (.bool x.1) ∧ W.cell? ⟨l14,1,none⟩ = some (.string x.2.1) ∧ W.cell? ⟨l14,2,none⟩ = some (.string x.2.2)) ∧ w.heap.size ≤ l14 ∧ l14 < W.heap.size) → F 10 #[true,true,true,true,true,false,true,false,false,true,true,true,true,true,true,false,false,false,false,false,false,false] ⟨#[.pointer (some ⟨xb,0,none⟩),c1,c2,c3,c4,c5,c6,c7,c8,.slice (some ⟨rb,0,none⟩) m m,c10,.pointer (some ⟨gb,0,none⟩),c12,c13,c14,c15,c16,c17,c18,c19,c20,c21,c22,c23,c24,c25,c26,c27,c28,c29,c30,c31,c32,c33,c34,c35,c36,c37,c38,c39,c40,c41,c42,c43,c44,c45,c46,c47,c48,c49,c50,c51,c52,c53,c54,c55,c56,c57,c58,c59,c60,c61,c62,c63,c64,c65,c66,c67,c68,c69,c70,c71,c72,c73,c74,c75,c76,c77,c78,c79,c80,c81,c82,c83,c84,c85,c86,.pointer (some ⟨xb,0,none⟩),.pointer (some ⟨xb,0,none⟩),.pointer (some ⟨xb,0,none⟩),.pointer (some ⟨xb,0,none⟩),.pointer (some ⟨xb,1,none⟩),a92,.slice (some ⟨rb,0,none⟩) m m,a94,a95,.pointer (some ⟨xb,0,none⟩),.pointer (some ⟨xb,0,none⟩),.pointer (some ⟨xb,2,none⟩),.slice Ab i cb,.agg #[.bool x.1,.string x.2.1,.string x.2.2],.slice (some ⟨l14,0,none⟩) 1 1,a102,a103,a104,a105,a106,c107],[]⟩ W:=by
  intro l14 W hk hx hb oa ob ap c14
  rw [hF.out]
  refine wpAnyH_ready (rs:=[5,7]) (by kernel_rfl) (by simp) ?_
  have x1:=hx.out.cell (j:=1) rfl;have x9:=hx.out.lt
  refine AllReadyH.cons (o:=_) rfl (fun K hK => ?_) ?_
  · go_simp
    clear x1 x9
    refine hK.out _ _ (⟨hb.out.cell (j:=0) rfl,hb.out.cell (j:=1) rfl,hb.out.cell (j:=2) rfl⟩) (fun _ => ?_)
    clear hK K
    try simp only [List.setIfInBounds_toArray,List.set_cons_zero,List.set_cons_succ]
    rw [← hF.out]
    exact Lx5x12x14 l14 W hk hx hb oa ob ap c14
  clear x1 x9
  refine AllReadyH.cons (o:=_) rfl (fun K hK => ?_) ?_
  · go_simp
    refine hK.out _ _ (⟨(hb.out.alloc (.cells #[.slice (some ⟨rb,0,none⟩) m m] 29)).cell (j:=0) rfl,(hb.out.alloc (.cells #[.slice (some ⟨rb,0,none⟩) m m] 29)).cell (j:=1) rfl,(hb.out.alloc (.cells #[.slice (some ⟨rb,0,none⟩) m m] 29)).cell (j:=2) rfl⟩) (fun _ => ?_)
    clear hK K
    try simp only [List.setIfInBounds_toArray,List.set_cons_zero,List.set_cons_succ]
    rw [← hF.out]
    exact Lx7x12x14 W.heap.size l14 _ (Lib.hid ((hk.out.alloc (.cells #[.slice (some ⟨rb,0,none⟩) m m] 29)))) (Lib.hid ((hx.out.alloc (.cells #[.slice (some ⟨rb,0,none⟩) m m] 29)))) (Lib.hid ((hb.out.alloc (.cells #[.slice (some ⟨rb,0,none⟩) m m] 29)))) (Lib.hid ((oa.out.alloc (.cells #[.slice (some ⟨rb,0,none⟩) m m] 29)))) (Lib.hid ((ob.out.alloc (.cells #[.slice (some ⟨rb,0,none⟩) m m] 29)))) (Lib.hid (ap.out)) (Lib.hid (⟨(Bk.new W 29 [.slice (some ⟨rb,0,none⟩) m m]).cell (j:=0) rfl,hk.out.size,by rw [World.size_alloc];exact Nat.lt_succ_self _⟩)) (Lib.hid (⟨⟨(World.cell?_alloc_lt _ _ _ c14.out.2.2).trans c14.out.1.1,(World.cell?_alloc_lt _ _ _ c14.out.2.2).trans c14.out.1.2.1,(World.cell?_alloc_lt _ _ _ c14.out.2.2).trans c14.out.1.2.2⟩,c14.out.2.1,by rw [World.size_alloc];exact Nat.lt_succ_of_lt c14.out.2.2⟩))
  exact AllReadyH.nil
 have Lx12 : ∀ (W : World),Hid (Kp (xb :: ((Value.slice Aa i ca).ownBlock.toList ++ (Value.slice Ab i cb).ownBlock.toList)) w W) → Hid (Bk W xb 74 [uv,.slice Aa i ca,.slice Ab i cb]) → Hid (Bk W gb 37 [.bool x.1,.string x.2.1,.string x.2.2]) → Hid (W.ownsRow B1 29 1 (Value.slice Aa i ca) i hds) → Hid (W.ownsRow B1 37 3 (Value.slice Ab i cb) i cbs) → Hid (∀ b,(Value.slice Aa i ca).ownBlock = some b → (Value.slice Ab i cb).ownBlock ≠ some b) → F 11 #[true,true,true,true,true,false,true,false,false,true,true,true,true,true,false,false,false,false,false,false,false,false] ⟨#[.pointer (some ⟨xb,0,none⟩),c1,c2,c3,c4,c5,c6,c7,c8,.slice (some ⟨rb,0,none⟩) m m,c10,.pointer (some ⟨gb,0,none⟩),c12,c13,c14,c15,c16,c17,c18,c19,c20,c21,c22,c23,c24,c25,c26,c27,c28,c29,c30,c31,c32,c33,c34,c35,c36,c37,c38,c39,c40,c41,c42,c43,c44,c45,c46,c47,c48,c49,c50,c51,c52,c53,c54,c55,c56,c57,c58,c59,c60,c61,c62,c63,c64,c65,c66,c67,c68,c69,c70,c71,c72,c73,c74,c75,c76,c77,c78,c79,c80,c81,c82,c83,c84,c85,c86,.pointer (some ⟨xb,0,none⟩),.pointer (some ⟨xb,0,none⟩),.pointer (some ⟨xb,0,none⟩),.pointer (some ⟨xb,0,none⟩),.pointer (some ⟨xb,1,none⟩),a92,.slice (some ⟨rb,0,none⟩) m m,a94,a95,.pointer (some ⟨xb,0,none⟩),.pointer (some ⟨xb,0,none⟩),.pointer (some ⟨xb,2,none⟩),.slice Ab i cb,.agg #[.bool x.1,.string x.2.1,.string x.2.2],a101,a102,a103,a104,a105,a106,c107],[]⟩ W:=by
  intro  W hk hx hb oa ob ap
  rw [hF.out]
  refine wpAnyH_ready (rs:=[5,7,14]) (by kernel_rfl) (by simp) ?_
  have x1:=hx.out.cell (j:=1) rfl;have x9:=hx.out.lt
  refine AllReadyH.cons (o:=_) rfl (fun K hK => ?_) ?_
  · go_simp
    clear x1 x9
    refine hK.out _ _ (⟨hb.out.cell (j:=0) rfl,hb.out.cell (j:=1) rfl,hb.out.cell (j:=2) rfl⟩) (fun _ => ?_)
    clear hK K
    try simp only [List.setIfInBounds_toArray,List.set_cons_zero,List.set_cons_succ]
    rw [← hF.out]
    exact Lx5x12  W hk hx hb oa ob ap
  clear x1 x9
  refine AllReadyH.cons (o:=_) rfl (fun K hK => ?_) ?_
  · go_simp
    refine hK.out _ _ (⟨(hb.out.alloc (.cells #[.slice (some ⟨rb,0,none⟩) m m] 29)).cell (j:=0) rfl,(hb.out.alloc (.cells #[.slice (some ⟨rb,0,none⟩) m m] 29)).cell (j:=1) rfl,(hb.out.alloc (.cells #[.slice (some ⟨rb,0,none⟩) m m] 29)).cell (j:=2) rfl⟩) (fun _ => ?_)
    clear hK K
    try simp only [List.setIfInBounds_toArray,List.set_cons_zero,List.set_cons_succ]
    rw [← hF.out]
    exact Lx7x12 W.heap.size _ (Lib.hid ((hk.out.alloc (.cells #[.slice (some ⟨rb,0,none⟩) m m] 29)))) (Lib.hid ((hx.out.alloc (.cells #[.slice (some ⟨rb,0,none⟩) m m] 29)))) (Lib.hid ((hb.out.alloc (.cells #[.slice (some ⟨rb,0,none⟩) m m] 29)))) (Lib.hid ((oa.out.alloc (.cells #[.slice (some ⟨rb,0,none⟩) m m] 29)))) (Lib.hid ((ob.out.alloc (.cells #[.slice (some ⟨rb,0,none⟩) m m] 29)))) (Lib.hid (ap.out)) (Lib.hid (⟨(Bk.new W 29 [.slice (some ⟨rb,0,none⟩) m m]).cell (j:=0) rfl,hk.out.size,by rw [World.size_alloc];exact Nat.lt_succ_self _⟩))
  refine AllReadyH.cons (o:=_) rfl (fun K hK => ?_) ?_
  · go_simp
    refine hK.out _ _ (⟨(hb.out.alloc (.cells #[.bool x.1,.string x.2.1,.string x.2.2] 37)).cell (j:=0) rfl,(hb.out.alloc (.cells #[.bool x.1,.string x.2.1,.string x.2.2] 37)).cell (j:=1) rfl,(hb.out.alloc (.cells #[.bool x.1,.string x.2.1,.string x.2.2] 37)).cell (j:=2) rfl⟩) (fun _ => ?_)
    clear hK K
    try simp only [List.setIfInBounds_toArray,List.set_cons_zero,List.set_cons_succ]
    rw [← hF.out]
    exact Lx12x14 W.heap.size _ (Lib.hid ((hk.out.alloc (.cells #[.bool x.1,.string x.2.1,.string x.2.2] 37)))) (Lib.hid ((hx.out.alloc (.cells #[.bool x.1,.string x.2.1,.string x.2.2] 37)))) (Lib.hid ((hb.out.alloc (.cells #[.bool x.1,.string x.2.1,.string x.2.2] 37)))) (Lib.hid ((oa.out.alloc (.cells #[.bool x.1,.string x.2.1,.string x.2.2] 37)))) (Lib.hid ((ob.out.alloc (.cells #[.bool x.1,.string x.2.1,.string x.2.2] 37)))) (Lib.hid (ap.out)) (Lib.hid (⟨⟨(Bk.new W 37 [.bool x.1,.string x.2.1,.string x.2.2]).cell (j:=0) rfl,(Bk.new W 37 [.bool x.1,.string x.2.1,.string x.2.2]).cell (j:=1) rfl,(Bk.new W 37 [.bool x.1,.string x.2.1,.string x.2.2]).cell (j:=2) rfl⟩,hk.out.size,by rw [World.size_alloc];exact Nat.lt_succ_self _⟩))
  exact AllReadyH.nil
 have Lx14 : ∀ (l14 : Nat) (W : World),Hid (Kp (xb :: ((Value.slice Aa i ca).ownBlock.toList ++ (Value.slice Ab i cb).ownBlock.toList)) w W) → Hid (Bk W xb 74 [uv,.slice Aa i ca,.slice Ab i cb]) → Hid (Bk W gb 37 [.bool x.1,.string x.2.1,.string x.2.2]) → Hid (W.ownsRow B1 29 1 (Value.slice Aa i ca) i hds) → Hid (W.ownsRow B1 37 3 (Value.slice Ab i cb) i cbs) → Hid (∀ b,(Value.slice Aa i ca).ownBlock = some b → (Value.slice Ab i cb).ownBlock ≠ some b) → Hid ((W.cell? ⟨l14,0,none⟩ = some (.bool x.1) ∧ W.cell? ⟨l14,1,none⟩ = some (.string x.2.1) ∧ W.cell? ⟨l14,2,none⟩ = some (.string x.2.2)) ∧ w.heap.size ≤ l14 ∧ l14 < W.heap.size) → F 11 #[true,true,true,true,true,false,true,false,false,true,true,true,false,true,true,false,false,false,false,false,false,false] ⟨#[.pointer (some ⟨xb,0,none⟩),c1,c2,c3,c4,c5,c6,c7,c8,.slice (some ⟨rb,0,none⟩) m m,c10,.pointer (some ⟨gb,0,none⟩),c12,c13,c14,c15,c16,c17,c18,c19,c20,c21,c22,c23,c24,c25,c26,c27,c28,c29,c30,c31,c32,c33,c34,c35,c36,c37,c38,c39,c40,c41,c42,c43,c44,c45,c46,c47,c48,c49,c50,c51,c52,c53,c54,c55,c56,c57,c58,c59,c60,c61,c62,c63,c64,c65,c66,c67,c68,c69,c70,c71,c72,c73,c74,c75,c76,c77,c78,c79,c80,c81,c82,c83,c84,c85,c86,.pointer (some ⟨xb,0,none⟩),.pointer (some ⟨xb,0,none⟩),.pointer (some ⟨xb,0,none⟩),.pointer (some ⟨xb,0,none⟩),.pointer (some ⟨xb,1,none⟩),a92,.slice (some ⟨rb,0,none⟩) m m,a94,a95,.pointer (some ⟨xb,0,none⟩),.pointer (some ⟨xb,0,none⟩),.pointer (some ⟨xb,2,none⟩),a99,.agg #[.bool x.1,.string x.2.1,.string x.2.2],.slice (some ⟨l14,0,none⟩) 1 1,a102,a103,a104,a105,a106,c107],[]⟩ W:=by
  intro l14 W hk hx hb oa ob ap c14
  rw [hF.out]
  refine wpAnyH_ready (rs:=[5,7,12]) (by kernel_rfl) (by simp) ?_
  have x1:=hx.out.cell (j:=1) rfl;have x9:=hx.out.lt
  refine AllReadyH.cons (o:=_) rfl (fun K hK => ?_) ?_
  · go_simp
    clear x1 x9
    refine hK.out _ _ (⟨hb.out.cell (j:=0) rfl,hb.out.cell (j:=1) rfl,hb.out.cell (j:=2) rfl⟩) (fun _ => ?_)
    clear hK K
    try simp only [List.setIfInBounds_toArray,List.set_cons_zero,List.set_cons_succ]
    rw [← hF.out]
    exact Lx5x14 l14 W hk hx hb oa ob ap c14
  clear x1 x9
  refine AllReadyH.cons (o:=_) rfl (fun K hK => ?_) ?_
  · go_simp
    refine hK.out _ _ (⟨(hb.out.alloc (.cells #[.slice (some ⟨rb,0,none⟩) m m] 29)).cell (j:=0) rfl,(hb.out.alloc (.cells #[.slice (some ⟨rb,0,none⟩) m m] 29)).cell (j:=1) rfl,(hb.out.alloc (.cells #[.slice (some ⟨rb,0,none⟩) m m] 29)).cell (j:=2) rfl⟩) (fun _ => ?_)
    clear hK K
    try simp only [List.setIfInBounds_toArray,List.set_cons_zero,List.set_cons_succ]
    rw [← hF.out]
    exact Lx7x14 W.heap.size l14 _ (Lib.hid ((hk.out.alloc (.cells #[.slice (some ⟨rb,0,none⟩) m m] 29)))) (Lib.hid ((hx.out.alloc (.cells #[.slice (some ⟨rb,0,none⟩) m m] 29)))) (Lib.hid ((hb.out.alloc (.cells #[.slice (some ⟨rb,0,none⟩) m m] 29)))) (Lib.hid ((oa.out.alloc (.cells #[.slice (some ⟨rb,0,none⟩) m m] 29)))) (Lib.hid ((ob.out.alloc (.cells #[.slice (some ⟨rb,0,none⟩) m m] 29)))) (Lib.hid (ap.out)) (Lib.hid (⟨(Bk.new W 29 [.slice (some ⟨rb,0,none⟩) m m]).cell (j:=0) rfl,hk.out.size,by rw [World.size_alloc];exact Nat.lt_succ_self _⟩)) (Lib.hid (⟨⟨(World.cell?_alloc_lt _ _ _ c14.out.2.2).trans c14.out.1.1,(World.cell?_alloc_lt _ _ _ c14.out.2.2).trans c14.out.1.2.1,(World.cell?_alloc_lt _ _ _ c14.out.2.2).trans c14.out.1.2.2⟩,c14.out.2.1,by rw [World.size_alloc];exact Nat.lt_succ_of_lt c14.out.2.2⟩))
  have x1:=hx.out.cell (j:=2) rfl;have x9:=hx.out.lt
  refine AllReadyH.cons (o:=_) rfl (fun K hK => ?_) ?_
  · go_simp
    clear x1 x9
    refine hK.out _ _ (⟨hb.out.cell (j:=0) rfl,hb.out.cell (j:=1) rfl,hb.out.cell (j:=2) rfl⟩) (fun _ => ?_)
    clear hK K
    try simp only [List.setIfInBounds_toArray,List.set_cons_zero,List.set_cons_succ]
    rw [← hF.out]
    exact Lx12x14 l14 W hk hx hb oa ob ap c14
  clear x1 x9
  exact AllReadyH.nil
 have L : ∀ (W : World),Hid (Kp (xb :: ((Value.slice Aa i ca).ownBlock.toList ++ (Value.slice Ab i cb).ownBlock.toList)) w W) → Hid (Bk W xb 74 [uv,.slice Aa i ca,.slice Ab i cb]) → Hid (Bk W gb 37 [.bool x.1,.string x.2.1,.string x.2.2]) → Hid (W.ownsRow B1 29 1 (Value.slice Aa i ca) i hds) → Hid (W.ownsRow B1 37 3 (Value.slice Ab i cb) i cbs) → Hid (∀ b,(Value.slice Aa i ca).ownBlock = some b → (Value.slice Ab i cb).ownBlock ≠ some b) → F 12 #[true,true,true,true,true,false,true,false,false,true,true,true,false,true,false,false,false,false,false,false,false,false] ⟨#[.pointer (some ⟨xb,0,none⟩),c1,c2,c3,c4,c5,c6,c7,c8,.slice (some ⟨rb,0,none⟩) m m,c10,.pointer (some ⟨gb,0,none⟩),c12,c13,c14,c15,c16,c17,c18,c19,c20,c21,c22,c23,c24,c25,c26,c27,c28,c29,c30,c31,c32,c33,c34,c35,c36,c37,c38,c39,c40,c41,c42,c43,c44,c45,c46,c47,c48,c49,c50,c51,c52,c53,c54,c55,c56,c57,c58,c59,c60,c61,c62,c63,c64,c65,c66,c67,c68,c69,c70,c71,c72,c73,c74,c75,c76,c77,c78,c79,c80,c81,c82,c83,c84,c85,c86,.pointer (some ⟨xb,0,none⟩),.pointer (some ⟨xb,0,none⟩),.pointer (some ⟨xb,0,none⟩),.pointer (some ⟨xb,0,none⟩),.pointer (some ⟨xb,1,none⟩),a92,.slice (some ⟨rb,0,none⟩) m m,a94,a95,.pointer (some ⟨xb,0,none⟩),.pointer (some ⟨xb,0,none⟩),.pointer (some ⟨xb,2,none⟩),a99,.agg #[.bool x.1,.string x.2.1,.string x.2.2],a101,a102,a103,a104,a105,a106,c107],[]⟩ W:=by
  intro  W hk hx hb oa ob ap
  rw [hF.out]
  refine wpAnyH_ready (rs:=[5,7,12,14]) (by kernel_rfl) (by simp) ?_
  have x1:=hx.out.cell (j:=1) rfl;have x9:=hx.out.lt
  refine AllReadyH.cons (o:=_) rfl (fun K hK => ?_) ?_
  · go_simp
    clear x1 x9
    refine hK.out _ _ (⟨hb.out.cell (j:=0) rfl,hb.out.cell (j:=1) rfl,hb.out.cell (j:=2) rfl⟩) (fun _ => ?_)
    clear hK K
    try simp only [List.setIfInBounds_toArray,List.set_cons_zero,List.set_cons_succ]
    rw [← hF.out]
    exact Lx5  W hk hx hb oa ob ap
  clear x1 x9
  refine AllReadyH.cons (o:=_) rfl (fun K hK => ?_) ?_
  · go_simp
    refine hK.out _ _ (⟨(hb.out.alloc (.cells #[.slice (some ⟨rb,0,none⟩) m m] 29)).cell (j:=0) rfl,(hb.out.alloc (.cells #[.slice (some ⟨rb,0,none⟩) m m] 29)).cell (j:=1) rfl,(hb.out.alloc (.cells #[.slice (some ⟨rb,0,none⟩) m m] 29)).cell (j:=2) rfl⟩) (fun _ => ?_)
    clear hK K
    try simp only [List.setIfInBounds_toArray,List.set_cons_zero,List.set_cons_succ]
    rw [← hF.out]
    exact Lx7 W.heap.size _ (Lib.hid ((hk.out.alloc (.cells #[.slice (some ⟨rb,0,none⟩) m m] 29)))) (Lib.hid ((hx.out.alloc (.cells #[.slice (some ⟨rb,0,none⟩) m m] 29)))) (Lib.hid ((hb.out.alloc (.cells #[.slice (some ⟨rb,0,none⟩) m m] 29)))) (Lib.hid ((oa.out.alloc (.cells #[.slice (some ⟨rb,0,none⟩) m m] 29)))) (Lib.hid ((ob.out.alloc (.cells #[.slice (some ⟨rb,0,none⟩) m m] 29)))) (Lib.hid (ap.out)) (Lib.hid (⟨(Bk.new W 29 [.slice (some ⟨rb,0,none⟩) m m]).cell (j:=0) rfl,hk.out.size,by rw [World.size_alloc];exact Nat.lt_succ_self _⟩))
  have x1:=hx.out.cell (j:=2) rfl;have x9:=hx.out.lt
  refine AllReadyH.cons (o:=_) rfl (fun K hK => ?_) ?_
  · go_simp
    clear x1 x9
    refine hK.out _ _ (⟨hb.out.cell (j:=0) rfl,hb.out.cell (j:=1) rfl,hb.out.cell (j:=2) rfl⟩) (fun _ => ?_)
    clear hK K
    try simp only [List.setIfInBounds_toArray,List.set_cons_zero,List.set_cons_succ]
    rw [← hF.out]
    exact Lx12  W hk hx hb oa ob ap
  clear x1 x9
  refine AllReadyH.cons (o:=_) rfl (fun K hK => ?_) ?_
  · go_simp
    refine hK.out _ _ (⟨(hb.out.alloc (.cells #[.bool x.1,.string x.2.1,.string x.2.2] 37)).cell (j:=0) rfl,(hb.out.alloc (.cells #[.bool x.1,.string x.2.1,.string x.2.2] 37)).cell (j:=1) rfl,(hb.out.alloc (.cells #[.bool x.1,.string x.2.1,.string x.2.2] 37)).cell (j:=2) rfl⟩) (fun _ => ?_)
    clear hK K
    try simp only [List.setIfInBounds_toArray,List.set_cons_zero,List.set_cons_succ]
    rw [← hF.out]
    exact Lx14 W.heap.size _ (Lib.hid ((hk.out.alloc (.cells #[.bool x.1,.string x.2.1,.string x.2.2] 37)))) (Lib.hid ((hx.out.alloc (.cells #[.bool x.1,.string x.2.1,.string x.2.2] 37)))) (Lib.hid ((hb.out.alloc (.cells #[.bool x.1,.string x.2.1,.string x.2.2] 37)))) (Lib.hid ((oa.out.alloc (.cells #[.bool x.1,.string x.2.1,.string x.2.2] 37)))) (Lib.hid ((ob.out.alloc (.cells #[.bool x.1,.string x.2.1,.string x.2.2] 37)))) (Lib.hid (ap.out)) (Lib.hid (⟨⟨(Bk.new W 37 [.bool x.1,.string x.2.1,.string x.2.2]).cell (j:=0) rfl,(Bk.new W 37 [.bool x.1,.string x.2.1,.string x.2.2]).cell (j:=1) rfl,(Bk.new W 37 [.bool x.1,.string x.2.1,.string x.2.2]).cell (j:=2) rfl⟩,hk.out.size,by rw [World.size_alloc];exact Nat.lt_succ_self _⟩))
  exact AllReadyH.nil
 exact fun_as (by kernel_rfl) (by kernel_rfl) (by kernel_rfl) (L w.drew hk0 hx0 hb0 oa0 ob0 ap)
end Sh
end Go.Proofs.YtioidbebjgeahaaGreatDoor
namespace Go.Proofs.YtioidbebjgeahaaGreatDoor
namespace Sh
open Nt Ci
theorem lsum_append (p : Nat) (f : Nat → Rat) (l m : List Lp) : lsum p f (l ++ m) = lsum p f l + lsum p f m:=by
 induction l with
 | nil => show lsum p f m = 0 + lsum p f m;grind
 | cons x l ih =>
   rw [List.cons_append]
   show (if x.1 = p then x.2.2 * f x.2.1 else 0) + lsum p f (l ++ m) = (if x.1 = p then x.2.2 * f x.2.1 else 0) + lsum p f l + lsum p f m
   rw [ih,Rat.add_assoc]
theorem lsum_take {p : Nat} {f : Nat → Rat} {l : List Lp} {k : Nat} (h : k < l.length) : lsum p f (l.take (k + 1)) = lsum p f (l.take k) + if l[k].1 = p then l[k].2.2 * f l[k].2.1 else 0:=by
 rw [List.take_succ_eq_append_getElem h,lsum_append]
 congr 1
 show (if l[k].1 = p then l[k].2.2 * f l[k].2.1 else 0) + 0 = _
 exact Rat.add_zero _
theorem lsum_take_le {p : Nat} {f : Nat → Rat} {l : List Lp} (hp : ∀ x,x ∈ l → 0 < x.2.2) (hf : ∀ x,x ∈ l → 0 ≤ f x.2.1) (k : Nat) : lsum p f (l.take k) ≤ lsum p f l:=by
 have h:=lsum_append p f (l.take k) (l.drop k)
 rw [List.take_append_drop] at h
 have h2:=lsum_nonneg (p:=p) (f:=f) (L:=l.drop k) (fun x hx => hp x (List.mem_of_mem_drop hx)) fun x hx _ => hf x (List.mem_of_mem_drop hx)
 grind
theorem Caps.take {n : Nat} {L : List Lp} (h : Caps n L) (k : Nat) : Caps n (L.take k):=by
 refine ⟨fun x hx => h.lt x (List.mem_of_mem_take hx),fun x hx => h.whole x (List.mem_of_mem_take hx),fun x hx => h.pos x (List.mem_of_mem_take hx),fun p => ?_⟩
 have h1:=lsum_take_le (p:=p) (f:=fun _ => 1) h.pos (fun _ _ => by decide) k
 have h2:=h.le1 p
 grind
theorem row_fit {n : Nat} {L : List Lp} (h : Caps n L) (p q : Nat) (b : Bool) : Fit 6000 ((if b = true then 1 else 0) - lsum p (fun h => if h = q then 1 else 0) L):=by
 have h0:=lsum_nonneg (p:=p) (f:=fun h => if h = q then 1 else 0) h.pos fun x _ _ => by split <;> decide
 have h1 : lsum p (fun h => if h = q then 1 else 0) L ≤ 1:=h.le_of (by decide) fun x _ _ => by split <;> decide
 have h2:=h.int_sum (p:=p) (f:=fun h => if h = q then 1 else 0) (D:=1) fun x _ _ => by
  split
  · exact IsI.one.mul IsI.one
  · exact IsI.one.mul IsI.zero
 refine ⟨?_,?_,6000,by omega,Nat.le_refl _,?_⟩
 · split <;> grind
 · split <;> grind
 · have e : ((6000 : Nat) : Rat) * ((if b = true then 1 else 0) - lsum p (fun h => if h = q then 1 else 0) L) = (if b = true then 1 else 0) * 6000 + -(6000 * 1 * lsum p (fun h => if h = q then 1 else 0) L):=by
    rw [show ((6000 : Nat) : Rat) = 6000 from rfl];grind
   rw [e]
   refine IsI.add ?_ h2.neg
   split
   · exact IsI.one.mul (IsI.nat 6000)
   · exact IsI.zero.mul (IsI.nat 6000)
theorem right_fit {n D : Nat} {L : List Lp} (h : Caps n L) (p : Nat) {f : Nat → Rat} (hD : 0 < D) (hf : ∀ q,0 ≤ f q ∧ f q ≤ 1) (hi : ∀ q,IsI ((D : Rat) * f q)) : Fit (6000 * D) (lsum p f L):=by
 have h0:=lsum_nonneg (p:=p) (f:=f) h.pos fun x _ _ => (hf x.2.1).1
 have h1 : lsum p f L ≤ 1:=h.le_of (by decide) fun x _ _ => (hf x.2.1).2
 have h2:=h.int_sum (p:=p) (f:=f) (D:=(D : Rat)) fun x _ _ => hi x.2.1
 refine ⟨by grind,h1,6000 * D,Nat.mul_pos (by omega) hD,Nat.le_refl _,?_⟩
 rw [Rat.natCast_mul]
 exact h2
end Sh
end Go.Proofs.YtioidbebjgeahaaGreatDoor
namespace Go.Proofs.YtioidbebjgeahaaGreatDoor
namespace Sh
open Nt Ci
theorem Sys.congr {n c D : Nat} {A B : Mx} {v : Nat → Rat} (h : Sys n c D A v) (e : ∀ i j,i < n → j ≤ n → B i j = A i j) : Sys n c D B v:=by
 obtain ⟨⟨a1,a2,a3,a4,a5,a6⟩,h2,h3,h4,h5⟩:=h
 refine ⟨⟨fun i hi => ?_,fun i j hi hj hn => ?_,fun i hi => ?_,fun i hi => ?_,fun i hi => ?_,a6⟩,h2,h3,fun i j hi hj => ?_,fun i hi => ?_⟩
 · rw [e i i hi (by omega)];exact a1 i hi
 · rw [e i j hi (by omega)];exact a2 i j hi hj hn
 · rw [e i n hi (Nat.le_refl _)];exact a3 i hi
 · rw [e i n hi (Nat.le_refl _),sumTo_congr (f:=B i) (g:=A i) fun j hj => e i j hi (by omega)];exact a4 i hi
 · rw [sumTo_congr (g:=fun j => A i j * v j) fun j hj => by rw [e i j hi (by omega)]];exact a5 i hi
 · rw [e i j hi (by omega)];exact h4 i j hi hj
 · rw [e i n hi (Nat.le_refl _)];exact h5 i hi
def aRows (L : List Lp) (u : List Nat) (val : Nat → Rat) : List (List Raw):=(List.range u.length).map fun i => outL u.length (sysA L u val i)
def bRow (L : List Lp) (u : List Nat) (val : Nat → Rat) : List Raw:=outL u.length fun i => sysA L u val i u.length
theorem getD_outL {n : Nat} {f : Nat → Rat} {i : Nat} (h : i < n) (d : Raw) : (outL n f).getD i d = rq (f i):=by
 rw [getD_at (by rw [outL_length];exact h),outL_get]
theorem getD_aRows {L : List Lp} {u : List Nat} {val : Nat → Rat} {i : Nat} (h : i < u.length) : (aRows L u val).getD i [] = outL u.length (sysA L u val i):=by
 unfold aRows
 rw [getD_at (by simpa using h)]
 simp
theorem fit_ok {x : Rat} {B : Nat} (h : Fit B x) (hB : B < L1) : OkQ x:=(fit_short h hB).ok
theorem pow17 : 6000 ^ 17 < L1:=Nat.lt_of_le_of_lt (Nat.pow_le_pow_right (by omega) (by omega)) pow34
theorem solve_build {n D : Nat} {L : List Lp} {F done u : List Nat} {val : Nat → Rat} (hL : Caps n L) (hi : Inv L F done val D) (hx : Nxt L F done u) (hlen : done.length + u.length ≤ 16) (h8 : u.length ≤ 8) :
 solveB (aRows L u val) (bRow L u val) = .ok (outL u.length fun i => nextV SQ L u val (u.getD i 0)):=by
 have hs:=hx.sys hL hi
 have hfit : ∀ i j,i < u.length → j ≤ u.length → OkQ (sysA L u val i j):=fun i j h1 h2 => by
  have:=hs.fit (Mad.start u.length _) hs.shs (Nat.zero_le _) h1 h2
  refine fit_ok (this.mono ?_) pow17
  calc 6000 ^ (u.length + 1) * D ≤ 6000 ^ (u.length + 1) * 6000 ^ done.length:=Nat.mul_le_mul_left _ hi.dle
   _ = 6000 ^ (u.length + 1 + done.length):=(Nat.pow_add _ _ _).symm
   _ ≤ 6000 ^ 17:=Nat.pow_le_pow_right (by omega) (by omega)
 have hbl : (bRow L u val).length = u.length:=outL_length _ _
 have hal : (aRows L u val).length = u.length:=by unfold aRows;simp
 have hb : allV (bRow L u val) = true:=allV_iff.2 fun i h => by
  have e : (bRow L u val)[i] = rq (sysA L u val i u.length):=outL_get u.length (fun i => sysA L u val i u.length) i h
  rw [e]
  exact vraw_rq (hfit i _ (by rwa [hbl] at h) (Nat.le_refl _))
 have ha : matB (bRow L u val).length (aRows L u val) = true:=matB_iff.2 fun i h => by
  rw [hal] at h
  have e : (aRows L u val)[i]'(by rw [hal];exact h) = outL u.length (sysA L u val i):=by unfold aRows;simp
  rw [e,hbl]
  refine ⟨outL_length _ _,allV_iff.2 fun j hj => ?_⟩
  rw [outL_get]
  rw [outL_length] at hj
  exact vraw_rq (hfit i j h (Nat.le_of_lt hj))
 have hM : ∀ i j,i < u.length → j ≤ u.length → sysM (aRows L u val) (bRow L u val) i j = sysA L u val i j:=fun i j h1 h2 => by
  unfold sysM
  rw [hbl]
  by_cases e : j = u.length
  · rw [if_pos e,e]
    unfold bRow
    rw [getD_outL h1,vq_rq]
  · rw [if_neg e,getD_aRows h1,getD_outL (by omega),vq_rq]
 have hS : ∀ x,Fit ((6000 ^ (u.length + 1) * D) * (6000 ^ (u.length + 1) * D)) x → SQ x = true:=fun x h => SQ_fit x (h.mono (pow_bound hi.dle hlen))
 obtain ⟨M,m1,m2,_⟩:=(hs.congr hM).result (S:=SQ) hS
 obtain ⟨N,n1,n2,_⟩:=hs.result (S:=SQ) hS
 have hv : nextV SQ L u val = fun p => if p ∈ u then N (u.idxOf p) u.length else val p:=by unfold nextV;rw [n1]
 have hMN : ∀ i,i < u.length → M i u.length = N i u.length:=by
  have h1 : Sol u.length (sysM (aRows L u val) (bRow L u val)) (fun i => N i u.length) (fun i => sysM (aRows L u val) (bRow L u val) i u.length):=fun i hi2 => by
   have h2 : (sumTo u.length fun j => sysA L u val i j * N j u.length) = sysA L u val i u.length:=(n2 (fun i => N i u.length)).2 (fun _ _ => rfl) i hi2
   show (sumTo u.length fun j => sysM (aRows L u val) (bRow L u val) i j * N j u.length) = sysM (aRows L u val) (bRow L u val) i u.length
   rw [hM i _ hi2 (Nat.le_refl _),← h2]
   exact sumTo_congr fun j hj => by rw [hM i j hi2 (Nat.le_of_lt hj)]
  exact fun i hi2 => ((m2 _).1 h1 i hi2).symm
 unfold solveB
 rw [if_pos ⟨hal.trans hbl.symm,hb,ha⟩,if_pos (by rw [hbl];exact h8),hbl,m1]
 show Except.ok (outL u.length fun i => M i u.length) = _
 congr 1
 apply outL_congr
 intro i hi2
 rw [hMN i hi2,hv]
 dsimp only
 rw [if_pos (getD_mem hi2),idx_getD hx.nodup hi2]
theorem Ready.nodup {L : List Lp} {F : List Nat} : ∀ {us : List (List Nat)} {done : List Nat},Ready L F done us → done.Nodup → (done ++ us.flatten).Nodup:=by
 intro us
 induction us with
 | nil => intro done _ h;simpa using h
 | cons u us ih =>
   intro done h hd
   rw [List.flatten_cons,← List.append_assoc]
   refine ih h.2 (List.nodup_append.2 ⟨hd,h.1.nodup,fun a ha b hb e => ?_⟩)
   subst e
   exact h.1.new a hb ha
theorem Ready.lt {n : Nat} {F : List Nat} {E : List (Nat × Nat)} : ∀ p,p ∈ (syst n E F).flatten → p < n:=by
 intro p hp
 obtain ⟨u,hu,hp⟩:=List.mem_flatten.1 hp
 unfold syst at hu
 obtain ⟨c,hc,rfl⟩:=List.mem_map.1 hu
 have h1:=(mem_unk.1 hp).1
 unfold comps at hc
 obtain ⟨q,_,rfl⟩:=List.mem_map.1 hc
 exact (mem_comp.1 h1).1
theorem syst_len {n : Nat} {L : List Lp} {F : List Nat} (hL : Caps n L) : (syst n (edgesL L) F).flatten.length ≤ n:=by
 have h:=(ready_all (F:=F) hL.inN).nodup List.nodup_nil
 rw [List.nil_append] at h
 exact nodup_len n _ h Ready.lt
noncomputable def tooMany (n : Nat) (E : List (Nat × Nat)) (F : List Nat) : Bool:=(syst n E F).any (fun u => decide (8 < u.length)) || decide (16 < (syst n E F).flatten.length)
theorem few_fits {n : Nat} {L : List Lp} {F : List Nat} (hL : Caps n L) (hn : n ≤ 8) : tooMany n (edgesL L) F = false:=by
 have h:=syst_len (F:=F) hL
 unfold tooMany
 rw [Bool.or_eq_false_iff,List.any_eq_false]
 refine ⟨fun u hu => ?_,decide_eq_false (by omega)⟩
 have : u.length ≤ (syst n (edgesL L) F).flatten.length:=(List.sublist_flatten_of_mem hu).length_le
 simp only [decide_eq_true_eq]
 omega
theorem tooMany_no {n : Nat} {E : List (Nat × Nat)} {F : List Nat} (h : tooMany n E F = false) : (∀ u,u ∈ syst n E F → u.length ≤ 8) ∧ (syst n E F).flatten.length ≤ 16:=by
 unfold tooMany at h
 rw [Bool.or_eq_false_iff,List.any_eq_false] at h
 refine ⟨fun u hu => ?_,by have:=of_decide_eq_false h.2;omega⟩
 have:=h.1 u hu
 simp only [decide_eq_true_eq] at this
 omega
end Sh
end Go.Proofs.YtioidbebjgeahaaGreatDoor
namespace Go.Proofs.YtioidbebjgeahaaGreatDoor
namespace Sh
open Nt Ci
section
variable {n : Nat} {L : List Lp} {u : List Nat} {val : Nat → Rat} {i k j : Nat}
def rowR (L : List Lp) (u : List Nat) (i k j : Nat) : Rat:=(if i = j then 1 else 0) - lsum (u.getD i 0) (fun h => if h = u.getD j 0 then 1 else 0) (L.take k)
def rgtR (L : List Lp) (u : List Nat) (val : Nat → Rat) (i k : Nat) : Rat:=lsum (u.getD i 0) (fun h => if h ∈ u then 0 else val h) (L.take k)
theorem rowR_zero : rowR L u i 0 j = if i = j then 1 else 0:=by
 unfold rowR
 show _ - (0 : Rat) = _
 grind
theorem rgtR_zero : rgtR L u val i 0 = 0:=rfl
theorem rowR_all (hj : j < u.length) : rowR L u i L.length j = sysA L u val i j:=by
 unfold rowR sysA
 dsimp only
 rw [List.take_length]
 have e : ¬ j = u.length:=by omega
 rw [if_neg e]
theorem rgtR_all : rgtR L u val i L.length = sysA L u val i u.length:=by
 unfold rgtR sysA
 dsimp only
 rw [List.take_length,if_pos rfl]
theorem row_skip (hk : k < L.length) (h : L[k].1 ≠ u.getD i 0) : (∀ j,rowR L u i (k + 1) j = rowR L u i k j) ∧ rgtR L u val i (k + 1) = rgtR L u val i k:=by
 refine ⟨fun j => ?_,?_⟩
 · unfold rowR;rw [lsum_take hk,if_neg h,Rat.add_zero]
 · unfold rgtR;rw [lsum_take hk,if_neg h,Rat.add_zero]
theorem row_in (hu : u.Nodup) (hk : k < L.length) (h : L[k].1 = u.getD i 0) {c : Nat} (hc : c < u.length) (hh : L[k].2.1 = u.getD c 0) :
 (∀ j,j < u.length → rowR L u i (k + 1) j = if j = c then rowR L u i k c + -1 * L[k].2.2 else rowR L u i k j) ∧ rgtR L u val i (k + 1) = rgtR L u val i k:=by
 refine ⟨fun j hj => ?_,?_⟩
 · unfold rowR
   rw [lsum_take hk,if_pos h,hh]
   by_cases e : j = c
   · subst e
     have e1 : (if u.getD j 0 = u.getD j 0 then (1 : Rat) else 0) = 1:=if_pos rfl
     rw [e1,if_pos (rfl : j = j)];grind
   · have e1 : (if u.getD c 0 = u.getD j 0 then (1 : Rat) else 0) = 0:=if_neg fun e2 => by
      have:=idx_getD hu hj
      rw [← e2,idx_getD hu hc] at this
      exact e this.symm
     rw [e1,if_neg e];grind
 · unfold rgtR
   rw [lsum_take hk,if_pos h,if_pos (by rw [hh];exact getD_mem hc)]
   grind
theorem row_out (hk : k < L.length) (h : L[k].1 = u.getD i 0) (hh : L[k].2.1 ∉ u) :
 (∀ j,j < u.length → rowR L u i (k + 1) j = rowR L u i k j) ∧ rgtR L u val i (k + 1) = rgtR L u val i k + L[k].2.2 * val L[k].2.1:=by
 refine ⟨fun j hj => ?_,?_⟩
 · unfold rowR
   have e1 : (if L[k].2.1 = u.getD j 0 then (1 : Rat) else 0) = 0:=if_neg fun e => hh (by rw [e];exact getD_mem hj)
   rw [lsum_take hk,if_pos h,e1]
   grind
 · unfold rgtR
   rw [lsum_take hk,if_pos h,if_neg hh]
theorem rowR_short (hL : Caps n L) : ShortQ (rowR L u i k j):=by
 have:=row_fit (hL.take k) (u.getD i 0) (u.getD j 0) (decide (i = j))
 unfold rowR
 simp only [decide_eq_true_eq] at this
 exact fit_short this (Nat.lt_of_le_of_lt (by have : 6000 ^ 1 ≤ 6000 ^ 34:=Nat.pow_le_pow_right (by omega) (by omega);omega) pow34)
theorem pow17' {D : Nat} (h : D ≤ 6000 ^ 16) : 6000 * D < L1:=by
 refine Nat.lt_of_le_of_lt ?_ pow17
 calc 6000 * D ≤ 6000 * 6000 ^ 16:=Nat.mul_le_mul_left _ h
  _ = 6000 ^ 17:=by rw [Nat.pow_succ 6000 16,Nat.mul_comm]
structure Vals (val : Nat → Rat) (D : Nat) : Prop where
 rng : ∀ p,0 ≤ val p ∧ val p ≤ 1
 dp : 0 < D
 dle : D ≤ 6000 ^ 16
 whole : ∀ p,IsI ((D : Rat) * val p)
theorem Vals.fit {D : Nat} (h : Vals val D) (p : Nat) : Fit D (val p):=⟨by have:=(h.rng p).1;grind,(h.rng p).2,D,h.dp,Nat.le_refl _,h.whole p⟩
theorem Vals.short {D : Nat} (h : Vals val D) (p : Nat) : ShortQ (val p):=fit_short (h.fit p) (Nat.lt_of_le_of_lt h.dle (Nat.lt_of_le_of_lt (Nat.pow_le_pow_right (by omega) (by omega)) pow34))
theorem rgtR_short {D : Nat} (hL : Caps n L) (h : Vals val D) : ShortQ (rgtR L u val i k):=by
 have:=right_fit (hL.take k) (u.getD i 0) (f:=fun q => if q ∈ u then 0 else val q) h.dp (fun q => by
  split
  · constructor <;> decide
  · exact h.rng q) fun q => by
  split
  · rw [Rat.mul_zero];exact IsI.zero
  · exact h.whole q
 exact fit_short this (pow17' h.dle)
theorem part_fit (hL : Caps n L) (hk : k < L.length) : Fit 6000 L[k].2.2:=by
 have h1:=hL.pos _ (List.getElem_mem hk)
 have h2:=hL.whole _ (List.getElem_mem hk)
 have h3:=hL.le1 L[k].1
 have h4:=lsum_gap (p:=L[k].1) (f:=fun _ => 0) (g:=fun _ => 1) hL.pos (fun _ _ _ => by decide) (List.getElem_mem hk) rfl
 rw [lsum_zero fun _ _ _ => rfl] at h4
 exact ⟨by grind,by grind,6000,by omega,Nat.le_refl _,h2⟩
theorem pow1 : 6000 < L1:=Nat.lt_of_le_of_lt (by have : 6000 ^ 1 ≤ 6000 ^ 34:=Nat.pow_le_pow_right (by omega) (by omega);omega) pow34
theorem part_short (hL : Caps n L) (hk : k < L.length) : ShortQ L[k].2.2:=fit_short (part_fit hL hk) pow1
theorem part_neg (hL : Caps n L) (hk : k < L.length) : ShortQ (-1 * L[k].2.2):=by
 obtain ⟨a,b,d,d1,d2,d3⟩:=part_fit hL hk
 have : Fit 6000 (-1 * L[k].2.2):=⟨by grind,by grind,d,d1,d2,by
  have e : (d : Rat) * (-1 * L[k].2.2) = -((d : Rat) * L[k].2.2):=by grind
  rw [e];exact d3.neg⟩
 exact fit_short this pow1
theorem part_val {D : Nat} (hL : Caps n L) (h : Vals val D) (hk : k < L.length) (q : Nat) : ShortQ (L[k].2.2 * val q):=by
 have h1:=part_fit hL hk
 have h0:=hL.pos _ (List.getElem_mem hk)
 have h2:=h.rng q
 have h3:=(hL.whole _ (List.getElem_mem hk)).mul (h.whole q)
 have e : 6000 * L[k].2.2 * ((D : Rat) * val q) = ((6000 * D : Nat) : Rat) * (L[k].2.2 * val q):=by
  rw [Rat.natCast_mul,show ((6000 : Nat) : Rat) = 6000 from rfl];grind
 rw [e] at h3
 have h4:=Rat.mul_nonneg (Rat.le_of_lt h0) h2.1
 have h5:=Rat.mul_le_mul_of_nonneg_left h2.2 (Rat.le_of_lt h0)
 have h6:=h1.2.1
 have : Fit (6000 * D) (L[k].2.2 * val q):=⟨by grind,by grind,6000 * D,Nat.mul_pos (by omega) h.dp,Nat.le_refl _,h3⟩
 exact fit_short this (pow17' h.dle)
theorem ix_in (hu : u.Nodup) {h c : Nat} (hc : c < u.length) (e : h = u.getD c 0) : ixOf (u.map fun (q : Nat) => (q : Int)) (h : Int) = (c : Int):=by
 have hc2 : c < (u.map fun (q : Nat) => (q : Int)).length:=by simpa using hc
 refine ix_at hc2 (fun j hj hjc => ?_) ?_
 · rw [List.getElem_map]
   intro e2
   have e3 : u[j]'(by simpa using hj) = h:=by omega
   rw [e,getD_get hc] at e3
   have hp:=List.pairwise_iff_getElem.1 hu j c (by simpa using hj) hc hjc
   exact hp e3
 · rw [List.getElem_map,e,getD_get hc]
theorem ix_out {h : Nat} (e : h ∉ u) : ixOf (u.map fun (q : Nat) => (q : Int)) (h : Int) = -1:=by
 refine ix_no fun j hj => ?_
 rw [List.getElem_map]
 intro e2
 exact e (by have e3 : u[j]'(by simpa using hj) = h:=by omega
             rw [← e3];exact List.getElem_mem _)
end
theorem kp_trans {xs ys : List Nat} {w w' w'' : World} (h : Kp xs w w') (h2 : Kp ys w' w'') (hy : ∀ y,y ∈ ys → y ∈ xs ∨ w.heap.size ≤ y) : Kp xs w w'' :=
 ⟨h2.os.trans h.os,h2.tape.trans h.tape,h2.output.trans h.output,Nat.le_trans h.size h2.size,fun k hk hx => (h2.block k (Nat.lt_of_lt_of_le hk h.size) (fun hm => (hy k hm).elim hx (fun c => by omega))).trans (h.block k hk hx)⟩
theorem own_kpS {xs : List Nat} {base size m : Nat} {e : TypeId} {u : Value} {l : List Value} {w w' : World} (h : w.ownsRow base e size u m l) (hk : Kp xs w w') (hb : ∀ b,u.ownBlock = some b → b ∉ xs) : w'.ownsRow base e size u m l:=by
 obtain ⟨h1,h2⟩:=h
 refine ⟨h1,?_⟩
 rcases h2 with h2 | ⟨g,cap,cur,hv,hg,hh,rest⟩
 · exact .inl h2
 · exact .inr ⟨g,cap,cur,hv,hg,(hk.block g (Array.getElem?_eq_some_iff.1 hh).1 (hb g (by rw [hv];rfl))).trans hh,rest⟩
theorem rowB_kp {xs : List Nat} {w w' : World} {b m : Nat} {r : Nat → Raw} (h : RowB w b m r) (hk : Kp xs w w') (hb : b ∉ xs) : RowB w' b m r:=(hk.block b h.lt hb).trans h
end Sh
end Go.Proofs.YtioidbebjgeahaaGreatDoor
namespace Go.Proofs.YtioidbebjgeahaaGreatDoor
open Go.RowKit Go.Shelf
namespace Sh
open Nt Ci
def BdI (w W : World) (xb m i : Nat) (uv : Value) (M : Mx) : Prop :=
 ∃ (Aa Ab : Option Addr) (ca cb : Nat) (bl : Nat → Nat),Kp [xb] w W ∧ Bk W xb 74 [uv,.slice Aa i ca,.slice Ab i cb] ∧
  W.ownsRow w.heap.size 29 1 (.slice Aa i ca) i ((List.range i).map fun k => .slice (some ⟨bl k,0,none⟩) m m) ∧
  W.ownsRow w.heap.size 37 3 (.slice Ab i cb) i (rowL i fun k => rq (M k m)) ∧
  (∀ b,(Value.slice Aa i ca).ownBlock = some b → (Value.slice Ab i cb).ownBlock ≠ some b) ∧
  ∀ k,k < i → RowB W (bl k) m (fun j => rq (M k j)) ∧ (Value.slice Aa i ca).ownBlock ≠ some (bl k) ∧ (Value.slice Ab i cb).ownBlock ≠ some (bl k) ∧ bl k ≠ xb
theorem BdI.start {w : World} {xb m : Nat} {uv : Value} {M : Mx} (h : Bk w xb 74 [uv,.slice none 0 0,.slice none 0 0]) : BdI w w xb m 0 uv M :=
 ⟨none,none,0,0,fun _ => 0,Kp.refl _ _,h,World.ownsRow_nil _ _ _ _,World.ownsRow_nil _ _ _ _,(fun b e => by cases e),fun k h => absurd h (Nat.not_lt_zero _)⟩
theorem BdI.step {w wy wz W : World} {xb m i rb : Nat} {uv : Value} {M : Mx} {Aa Ab Aa2 Ab2 : Option Addr} {ca cb ca2 cb2 : Nat} {bl : Nat → Nat}
 (hK : Kp [xb] w wy) (hoa : wy.ownsRow w.heap.size 29 1 (.slice Aa i ca) i ((List.range i).map fun k => .slice (some ⟨bl k,0,none⟩) m m))
 (hob : wy.ownsRow w.heap.size 37 3 (.slice Ab i cb) i (rowL i fun k => rq (M k m)))
 (hrows : ∀ k,k < i → RowB wy (bl k) m (fun j => rq (M k j)) ∧ (Value.slice Aa i ca).ownBlock ≠ some (bl k) ∧ (Value.slice Ab i cb).ownBlock ≠ some (bl k) ∧ bl k ≠ xb)
 (hB : Below wy.heap.size wy wz) (hrb : rb = wy.heap.size) (hxl : xb < wy.heap.size) (hrow : RowB wz rb m fun j => rq (M i j))
 (k1 : Kp (xb :: ((Value.slice Aa i ca).ownBlock.toList ++ (Value.slice Ab i cb).ownBlock.toList)) wz W)
 (k2 : Bk W xb 74 [uv,.slice Aa2 (i + 1) ca2,.slice Ab2 (i + 1) cb2])
 (k3 : W.ownsRow w.heap.size 29 1 (.slice Aa2 (i + 1) ca2) (i + 1) (((List.range i).map fun k => .slice (some ⟨bl k,0,none⟩) m m) ++ [.slice (some ⟨rb,0,none⟩) m m]))
 (k4 : W.ownsRow w.heap.size 37 3 (.slice Ab2 (i + 1) cb2) (i + 1) ((rowL i fun k => rq (M k m)) ++ [.bool (rq (M i m)).1,.string (rq (M i m)).2.1,.string (rq (M i m)).2.2]))
 (k5 : ∀ b,(Value.slice Aa2 (i + 1) ca2).ownBlock = some b → (Value.slice Ab2 (i + 1) cb2).ownBlock ≠ some b)
 (k6 : (Value.slice Aa2 (i + 1) ca2).ownBlock = (Value.slice Aa i ca).ownBlock ∨ ∃ b,(Value.slice Aa2 (i + 1) ca2).ownBlock = some b ∧ wz.heap.size ≤ b)
 (k7 : (Value.slice Ab2 (i + 1) cb2).ownBlock = (Value.slice Ab i cb).ownBlock ∨ ∃ b,(Value.slice Ab2 (i + 1) cb2).ownBlock = some b ∧ wz.heap.size ≤ b) : BdI w W xb m (i + 1) uv M:=by
 have hzs:=hB.size
 have hrl:=hrow.lt
 have la : ∀ b,(Value.slice Aa i ca).ownBlock = some b → w.heap.size ≤ b ∧ b < wy.heap.size:=fun b e => hoa.lt b e
 have lb : ∀ b,(Value.slice Ab i cb).ownBlock = some b → w.heap.size ≤ b ∧ b < wy.heap.size:=fun b e => hob.lt b e
 have hin : ∀ {b : Nat},b ≠ xb → (Value.slice Aa i ca).ownBlock ≠ some b → (Value.slice Ab i cb).ownBlock ≠ some b → b ∉ (xb :: ((Value.slice Aa i ca).ownBlock.toList ++ (Value.slice Ab i cb).ownBlock.toList)):=fun {b} h1 h2 h3 hm => by
  rcases List.mem_cons.1 hm with c | c
  · exact h1 c
  · rcases List.mem_append.1 c with c | c
    · exact h2 (by simpa using c)
    · exact h3 (by simpa using c)
 refine ⟨Aa2,Ab2,ca2,cb2,fun k => if k = i then rb else bl k,?_,k2,?_,?_,k5,?_⟩
 · refine kp_trans (hK.below hB) k1 fun y hy => ?_
   rcases List.mem_cons.1 hy with c | c
   · exact .inl (by simp [c])
   · rcases List.mem_append.1 c with c | c
     · exact .inr (la y (by simpa using c)).1
     · exact .inr (lb y (by simpa using c)).1
 · have e : (List.range (i + 1)).map (fun k => Value.slice (some ⟨if k = i then rb else bl k,0,none⟩) m m) = ((List.range i).map fun k => .slice (some ⟨bl k,0,none⟩) m m) ++ [.slice (some ⟨rb,0,none⟩) m m]:=by
    rw [List.range_succ,List.map_append,List.map_singleton,if_pos rfl]
    congr 1
    refine List.map_congr_left fun k hk => ?_
    rw [if_neg (by have:=List.mem_range.1 hk;omega)]
   rw [e];exact k3
 · rw [rowL_succ];exact k4
 · intro k hk
   dsimp only
   by_cases e : k = i
   · subst e
     rw [if_pos rfl]
     have n1 : (Value.slice Aa k ca).ownBlock ≠ some rb:=fun e => by have:=(la _ e).2;omega
     have n2 : (Value.slice Ab k cb).ownBlock ≠ some rb:=fun e => by have:=(lb _ e).2;omega
     refine ⟨rowB_kp hrow k1 (hin (by omega) n1 n2),fun e => ?_,fun e => ?_,by omega⟩
     · rcases k6 with c | ⟨b,c,d⟩
       · exact n1 (c ▸ e)
       · rw [c] at e;cases e;omega
     · rcases k7 with c | ⟨b,c,d⟩
       · exact n2 (c ▸ e)
       · rw [c] at e;cases e;omega
   · rw [if_neg e]
     obtain ⟨r1,r2,r3,r4⟩:=hrows k (by omega)
     have hbl:=r1.lt
     refine ⟨rowB_kp (r1.below hB hbl) k1 (hin r4 r2 r3),fun e => ?_,fun e => ?_,r4⟩
     · rcases k6 with c | ⟨b,c,d⟩
       · exact r2 (c ▸ e)
       · rw [c] at e;cases e;omega
     · rcases k7 with c | ⟨b,c,d⟩
       · exact r3 (c ▸ e)
       · rw [c] at e;cases e;omega
theorem sound_n60 {s : SR} (h : soundB s = true) : s.ps.length ≤ 60:=by
 unfold soundB at h
 simp only [Bool.and_eq_true,decide_eq_true_eq] at h
 exact h.2.1
theorem shnum_rq (k : Int) (q : Rat) (hq : (k : Rat) = q) (hk : -10 ≤ k ∧ k ≤ 10) (w : World) (hE : Env w) :
 Calls Tryz.prog 46 #[.int .i64 k] w fun e w' => e = .returned (.agg #[.bool (rq (q)).1,.string (rq (q)).2.1,.string (rq (q)).2.2]) ∧ Below w.heap.size w w':=by
 rw [← hq]
 exact shnum_any k hk w hE
theorem link_part {s : SR} (hsd : soundB s = true) {k : Nat} (hk : k < s.cap.length) : ∃ (co ho : Nat) (part : Rat),s.cap[k] = ((co : Int),(ho : Int),rq part) ∧ (capL s.cap)[k]'(by unfold capL;simpa using hk) = (co,ho,part) ∧ co < s.ps.length ∧ ho < s.ps.length:=by
 obtain ⟨⟨h1,h2⟩,⟨h3,h4⟩,h5⟩:=cap_own hsd (List.getElem_mem hk)
 have hv:=(units_valid h5).1
 have hr:=(raw_of (x:=lkP s.cap[k]) hv).1
 refine ⟨s.cap[k].1.toNat,s.cap[k].2.1.toNat,vq (lkP s.cap[k]),?_,by unfold capL;rw [List.getElem_map],by omega,by omega⟩
 rw [hr]
 have e1 : ((s.cap[k].1.toNat : Nat) : Int) = s.cap[k].1:=by omega
 have e2 : ((s.cap[k].2.1.toNat : Nat) : Int) = s.cap[k].2.1:=by omega
 rw [e1,e2]
 rfl
set_option maxRecDepth 100000 in
set_option maxHeartbeats 32000000 in
theorem build_any {D : Nat} (s : SR) (Ap Ac Av U : Option Addr) (cp cc cv cu : Nat) (u : List Nat) (val : Nat → Rat) (xb vb mb : Nat) (w : World)
 (hsd : soundB s = true) (hc3 : s.cap.length ≤ 300) (hm : u.length ≤ 8) (hu : u.Nodup) (hun : ∀ p,p ∈ u → p < s.ps.length) (hv : Vals val D)
 (hx : Bk w xb 74 [.slice U u.length cu,.slice none 0 0,.slice none 0 0])
 (hEW : ∀ W,Kp [xb] w W → Env W) (hsW : ∀ W,Kp [xb] w W → InLk W Ac s.cap) (hUW : ∀ W,Kp [xb] w W → InInt W U (u.map fun (q : Nat) => (q : Int))) (hVW : ∀ W,Kp [xb] w W → VM W vb mb s.ps.length val) :
 Calls Tryz.prog 48 #[.pointer (some ⟨xb,0,none⟩),.agg #[.slice Ap s.ps.length cp,.slice Ac s.cap.length cc,.slice Av s.vot.length cv],.func (.func 47) #[] #[.pointer (some ⟨vb,0,none⟩)]] w fun e w' => e = .returned (.tuple #[]) ∧ ∃ w3,Kp [xb] w w3 ∧ BdI w3 w' xb u.length u.length (.slice U u.length cu) (sysA (capL s.cap) u val):=by
 have hn60:=sound_n60 hsd
 have hL:=caps_of hsd
 have hxl:=hx.lt
 have hK0 : Hid (Kp [xb] w (w.alloc (.cells #[.slice Ap s.ps.length cp,.slice Ac s.cap.length cc,.slice Av s.vot.length cv] 25))):=(Kp.refl [xb] w).alloc _
 have hs0 : Hid (Bk (w.alloc (.cells #[.slice Ap s.ps.length cp,.slice Ac s.cap.length cc,.slice Av s.vot.length cv] 25)) w.heap.size 25 (SC s Ap Ac Av cp cc cv)):=Bk.new w _ _
 have hx0 : Hid (Bk (w.alloc (.cells #[.slice Ap s.ps.length cp,.slice Ac s.cap.length cc,.slice Av s.vot.length cv] 25)) xb 74 [.slice U u.length cu,.slice none 0 0,.slice none 0 0]):=hx.alloc _
 have kn1:=Lib.hid (fun W hW => shnum_rq (-1) (-1) (by decide +kernel) (by omega) W hW);have kn0:=Lib.hid (fun W hW => shnum_rq 0 0 (by decide +kernel) (by omega) W hW);have kn2:=Lib.hid (fun W hW => shnum_rq 1 1 (by decide +kernel) (by omega) W hW)
 have kix : Hid (∀ W x,Kp [xb] w W → Calls Tryz.prog 96 #[.slice U u.length cu,.int .i64 x] W fun e w' => e = .returned (.int .i64 (ixOf (u.map fun (q : Nat) => (q : Int)) x)) ∧ w' = W):=fun W x h => by have:=shidx_any U cu _ x W (hUW W h) (by rw [List.length_map];omega);rwa [List.length_map] at this
 have kva : Hid (∀ W (p : Nat),p < s.ps.length → Kp [xb] w W → Calls Tryz.prog 47 #[.int .i64 (p : Int),.pointer (some ⟨vb,0,none⟩)] W fun e w' => e = .returned (.agg #[.bool (rq (val p)).1,.string (rq (val p)).2.1,.string (rq (val p)).2.2]) ∧ Below W.heap.size W w'):=fun W p hp h => shval_any s.ps.length val vb mb p hp (by omega) W (hEW W h) (hVW W h)
 have hlk:=Lib.hid (fun k h => link_part hsd (k:=k) h)
 have hcl : (capL s.cap).length = s.cap.length:=by unfold capL;rw [List.length_map]
 have hug : Hid (∀ i (h : i < u.length),u[i] < s.ps.length ∧ u.getD i 0 = u[i]):=fun i h => ⟨hun _ (List.getElem_mem h),getD_get h⟩
 have hul : (u.map fun (q : Nat) => (q : Int)).length = u.length:=List.length_map ..
 replace hEW:=Lib.hid hEW;replace hsW:=Lib.hid hsW;replace hUW:=Lib.hid hUW;replace hVW:=Lib.hid hVW;replace hL:=Lib.hid hL;replace hv:=Lib.hid hv;replace hu:=Lib.hid hu;replace hsd:=Lib.hid hsd;replace hx:=Lib.hid hx;replace hcl:=Lib.hid hcl;replace hul:=Lib.hid hul
 clear hun
 obtain ⟨m,hme⟩ : ∃ m,m = u.length:=⟨_,rfl⟩
 have k1:=Lib.hid (kn1.out (w.alloc (.cells #[.slice Ap s.ps.length cp,.slice Ac s.cap.length cc,.slice Av s.vot.length cv] 25)) (hEW.out _ hK0.out))
 rw [← hme] at hx hx0 hm kix ⊢
 replace hme:=Lib.hid hme
 have x0:=hx0.out.cell (j:=0) rfl;have x9:=hx0.out.lt
 go_enter Tryz.func48,Tryz.ntmps48
 go_wp2_with fail
 refine k1.out.mono ?_
 rintro e w2 ⟨rfl,hb⟩
 have hK2:=Lib.hid (hK0.out.below hb);have hs2:=Lib.hid (hs0.out.below hb);have hx2:=Lib.hid (hx0.out.below hb)
 clear hb k1 kn1 x0 x9 hK0 hs0 hx0
 obtain ⟨w3,hw3⟩ : ∃ W,W = (w2.alloc (.cells #[.bool (rq (-1)).1,.string (rq (-1)).2.1,.string (rq (-1)).2.2] 37)):=⟨_,rfl⟩
 obtain ⟨mnb,hmnb⟩ : ∃ x,x = w2.heap.size:=⟨_,rfl⟩
 have hK3 : Hid (Kp [xb] w w3):=by rw [hw3];exact hK2.out.alloc _
 have hs3 : Hid (Bk w3 w.heap.size 25 (SC s Ap Ac Av cp cc cv)):=by rw [hw3];exact hs2.out.alloc _
 have hx3 : Hid (Bk w3 xb 74 [.slice U m cu,.slice none 0 0,.slice none 0 0]):=by rw [hw3];exact hx2.out.alloc _
 have hmn3 : Hid (Bk w3 mnb 37 [.bool (rq (-1)).1,.string (rq (-1)).2.1,.string (rq (-1)).2.2]):=by rw [hw3,hmnb];exact Bk.new _ _ _
 have hsz3 : Hid (w2.heap.size < w3.heap.size ∧ w.heap.size < w2.heap.size):=⟨by rw [hw3];simp,hs2.out.lt⟩
 have x0:=hx2.out.cell (j:=0) rfl;have x9:=hx2.out.lt
 go_wp2_with fail
 (try rw [← hw3])
 (try rw [← hmnb])
 replace hw3:=Lib.hid hw3
 clear x0 x9 hK2 hs2 hx2
 have hI0 : Hid (BdI w3 w3 xb m 0 (.slice U m cu) (sysA (capL s.cap) u val)):=BdI.start hx3.out
 have hlt3 : Hid (xb < w3.heap.size ∧ w.heap.size < w3.heap.size ∧ mnb < w3.heap.size ∧ mnb ≠ xb ∧ w.heap.size ≠ xb):=⟨hx3.out.lt,hs3.out.lt,hmn3.out.lt,by have:=hsz3.out;omega,by omega⟩
 replace hmnb:=Lib.hid hmnb
 go_loopw [21] (fun ix wr => ∃ (i : Nat),i ≤ m ∧ ix = .int .i64 (i : Int) ∧ Hid (BdI w3 wr xb m i (.slice U m cu) (sysA (capL s.cap) u val))) (fun ix _ => m - (intOf ix).toNat)
 case atStart => exact ⟨0,Nat.zero_le _,rfl,hI0⟩
 case round =>
  clear hI0
  obtain ⟨i,hi,rfl,hI⟩:=hrel
  obtain ⟨wy,rfl⟩ : ∃ z,z = wr:=⟨_,rfl⟩
  by_cases him : i < m
  rotate_left
  · obtain rfl : i = m:=by omega
    go_wp2
    (try simp only [Exit.inBlock,Exit.then])
    go_end0
    exact ⟨rfl,w3,hK3.out,hI.out⟩
  · obtain ⟨Aa,Ab,ca,cb,bl,hKy,hxy,hoa,hob,hap,hrows⟩:=hI.out
    replace hKy:=Lib.hid hKy;replace hxy:=Lib.hid hxy;replace hoa:=Lib.hid hoa;replace hob:=Lib.hid hob;replace hap:=Lib.hid hap;replace hrows:=Lib.hid hrows
    clear hI
    have hil : i < u.length:=by rw [← hme.out];exact him
    have hKw : Hid (Kp [xb] w wy):=kp_trans hK3.out hKy.out (fun y hy => .inl hy)
    have hBw:=Lib.hid (fun W (h : Below wy.heap.size wy W) => hKw.out.below h)
    obtain ⟨ub,uo,hUe,hub,huc⟩:=(hUW.out wy hKw.out) (by rw [hul.out];omega)
    subst hUe
    have e1:=huc i (by rw [hul.out];omega)
    rw [List.getElem_map] at e1
    obtain ⟨hpn,hpd⟩:=hug.out i hil
    obtain ⟨p,hp⟩ : ∃ p,p = u[i]'hil:=⟨_,rfl⟩
    rw [← hp] at e1 hpn hpd
    replace hp:=Lib.hid hp
    clear huc
    have j0 : (0 : Int) ≤ (i : Int):=by omega
    have j1 : (i : Int) < (m : Int):=by omega
    have x0:=hxy.out.cell (j:=0) rfl;have x9:=hxy.out.lt
    have hmk:=run_make_q 29 Tryz.underlying29 m (by omega)
    obtain ⟨rb,hrb⟩ : ∃ x,x = wy.heap.size:=⟨_,rfl⟩
    obtain ⟨w5,hw5⟩ : ∃ W,W = (wy.alloc (.cells (rowL m fun _ => zraw).toArray 37)):=⟨_,rfl⟩
    have hB5 : Hid (Below wy.heap.size wy w5):=by rw [hw5];exact (Below.refl _ wy).alloc (Nat.le_refl _) _
    have hR5 : Hid (RowB w5 rb m fun j => if j < 0 then rq 0 else zraw):=by rw [hw5,hrb];refine RowB.congr (r:=fun _ => zraw) (heap_alloc_new wy _) fun j _ => ?_;rw [if_neg (Nat.not_lt_zero _)]
    go_wp2_with fail
    (try rw [← hw5])
    (try rw [← hrb])
    replace hw5:=Lib.hid hw5;replace hrb:=Lib.hid hrb
    clear hmk x0 x9 e1
    go_loopw [34] (fun kx wr => ∃ (k : Nat),k ≤ m ∧ kx = .int .i64 (k : Int) ∧ Hid (Below wy.heap.size wy wr) ∧ Hid (RowB wr rb m fun j => if j < k then rq 0 else zraw)) (fun kx _ => m - (intOf kx).toNat)
    case atStart => exact ⟨0,Nat.zero_le _,rfl,hB5,hR5⟩
    case round =>
     clear hB5 hR5
     obtain ⟨k,hk,rfl,hBz,hRz⟩:=hrel
     obtain ⟨wz,rfl⟩ : ∃ z,z = wr:=⟨_,rfl⟩
     by_cases hkm : k < m
     · have k0:=Lib.hid (kn0.out wz (hEW.out _ (hBw.out _ hBz.out)))
       have q0 : (0 : Int) ≤ (k : Int):=by omega
       have q1 : (k : Int) < (m : Int):=by omega
       go_wp2_with fail
       refine k0.out.mono ?_
       rintro e w6 ⟨rfl,hb⟩
       have hB6 : Hid (Below wy.heap.size wy w6):=hBz.out.trans (hb.mono hBz.out.size)
       have hR6 : Hid (RowB w6 rb m fun j => if j < k then rq 0 else zraw):=hRz.out.below hb hRz.out.lt
       clear hb k0 hBz hRz
       obtain ⟨r1,r2,r3⟩:=hR6.out.cell hkm
       have f1:=hR6.out.frozen (k * 3);have f2:=hR6.out.frozen (k * 3 + 1);have f3:=hR6.out.frozen (k * 3 + 2);have r9:=hR6.out.lt
       have hrw : Hid (wy.heap.size ≤ rb):=Nat.le_of_eq hrb.out.symm
       have hB7 : Hid (Below wy.heap.size wy (((w6.setCell ⟨rb,k * 3,none⟩ (.bool (rq (0)).1)).setCell ⟨rb,k * 3 + 1,none⟩ (.string (rq (0)).2.1)).setCell ⟨rb,k * 3 + 2,none⟩ (.string (rq (0)).2.2))):=((hB6.out.setCell (p:=⟨rb,k * 3,none⟩) hrw.out _).setCell (p:=⟨rb,k * 3 + 1,none⟩) hrw.out _).setCell (p:=⟨rb,k * 3 + 2,none⟩) hrw.out _
       have hR7 : Hid (RowB (((w6.setCell ⟨rb,k * 3,none⟩ (.bool (rq (0)).1)).setCell ⟨rb,k * 3 + 1,none⟩ (.string (rq (0)).2.1)).setCell ⟨rb,k * 3 + 2,none⟩ (.string (rq (0)).2.2)) rb m fun j => if j < k + 1 then rq 0 else zraw):=(hR6.out.set hkm (rq 0)).congr fun j _ => by by_cases c : j = k;(· rw [if_pos c,if_pos (by omega)]);(· rw [if_neg c];by_cases d : j < k;(· rw [if_pos d,if_pos (by omega)]);(· rw [if_neg d,if_neg (by omega)]))
       generalize (if k < k then rq 0 else zraw) = rz at r1 r2 r3
       go_wp2
       exact ⟨⟨k + 1,by omega,by go_num,hB7,hR7⟩,by simp only [intOf];omega⟩
     · obtain rfl : k = m:=by omega
       have hR8 : Hid (RowB wz rb k fun _ => rq 0):=hRz.out.congr fun j hj => by rw [if_pos hj]
       clear hRz
       have k2:=Lib.hid (kn2.out wz (hEW.out _ (hBw.out _ hBz.out)))
       go_wp2_with fail
       refine k2.out.mono ?_
       rintro e w6 ⟨rfl,hb⟩
       have hB6 : Hid (Below wy.heap.size wy w6):=hBz.out.trans (hb.mono hBz.out.size)
       have hR6 : Hid (RowB w6 rb k fun _ => rq 0):=hR8.out.below hb hR8.out.lt
       clear hb k2 kn2 hBz hR8
       obtain ⟨r1,r2,r3⟩:=hR6.out.cell him
       have f1:=hR6.out.frozen (i * 3);have f2:=hR6.out.frozen (i * 3 + 1);have f3:=hR6.out.frozen (i * 3 + 2);have r9:=hR6.out.lt
       have hrw : Hid (wy.heap.size ≤ rb):=Nat.le_of_eq hrb.out.symm
       obtain ⟨w7,hw7⟩ : ∃ W,W = (((w6.setCell ⟨rb,i * 3,none⟩ (.bool (rq (1)).1)).setCell ⟨rb,i * 3 + 1,none⟩ (.string (rq (1)).2.1)).setCell ⟨rb,i * 3 + 2,none⟩ (.string (rq (1)).2.2)):=⟨_,rfl⟩
       have hB7 : Hid (Below wy.heap.size wy w7):=by rw [hw7];exact ((hB6.out.setCell (p:=⟨rb,i * 3,none⟩) hrw.out _).setCell (p:=⟨rb,i * 3 + 1,none⟩) hrw.out _).setCell (p:=⟨rb,i * 3 + 2,none⟩) hrw.out _
       have hR7 : Hid (RowB w7 rb k fun j => rq (rowR (capL s.cap) u i 0 j)):=by rw [hw7];exact (hR6.out.set him (rq 1)).congr fun j _ => by rw [rowR_zero];by_cases c : j = i;(· rw [if_pos c,if_pos c.symm]);(· rw [if_neg c,if_neg (fun e => c e.symm)])
       have k3:=Lib.hid (kn0.out w7 (hEW.out _ (hBw.out _ hB7.out)))
       go_wp2_with fail
       (try rw [← hw7])
       replace hw7:=Lib.hid hw7
       refine k3.out.mono ?_
       rintro e w8 ⟨rfl,hb⟩
       have hB8 : Hid (Below wy.heap.size wy w8):=hB7.out.trans (hb.mono hB7.out.size)
       have hR8 : Hid (RowB w8 rb k fun j => rq (rowR (capL s.cap) u i 0 j)):=hR7.out.below hb hR7.out.lt
       clear hb k3 hB6 hR6 hB7 hR7 r1 r2 r3 f1 f2 f3 r9 kn0
       obtain ⟨gb,hgb⟩ : ∃ x,x = w8.heap.size:=⟨_,rfl⟩
       obtain ⟨w9,hw9⟩ : ∃ W,W = (w8.alloc (.cells #[.bool (rq (0)).1,.string (rq (0)).2.1,.string (rq (0)).2.2] 37)):=⟨_,rfl⟩
       have hB9 : Hid (Below wy.heap.size wy w9):=by rw [hw9];exact hB8.out.alloc hB8.out.size _
       have hR9 : Hid (RowB w9 rb k fun j => rq (rowR (capL s.cap) u i 0 j)):=by rw [hw9];exact hR8.out.alloc _
       have hG9 : Hid (Bk w9 gb 37 [.bool (rq (rgtR (capL s.cap) u val i 0)).1,.string (rq (rgtR (capL s.cap) u val i 0)).2.1,.string (rq (rgtR (capL s.cap) u val i 0)).2.2]):=by rw [hw9,hgb,rgtR_zero];exact Bk.new _ _ _
       have hrg : Hid (rb < gb ∧ wy.heap.size ≤ gb):=⟨by rw [hgb];exact hR8.out.lt,by rw [hgb];exact hB8.out.size⟩
       have hs9:=Lib.hid ((hs3.out.kp hKy.out (by have:=hlt3.out;simp;omega)).below hB9.out)
       have u1:=hs9.out.cell (j:=1) rfl;have u9:=hs9.out.lt
       rw [hw9] at u1 u9
       go_wp2_with fail
       (try rw [← hw9])
       (try rw [← hgb])
       replace hw9:=Lib.hid hw9;replace hgb:=Lib.hid hgb
       clear u1 u9 hB8 hR8 hs9
       go_loopw [50] (fun kx wr => ∃ (c : Nat),c ≤ s.cap.length ∧ kx = .int .i64 (c : Int) ∧ Hid (Below wy.heap.size wy wr) ∧ Hid (RowB wr rb k fun j => rq (rowR (capL s.cap) u i c j)) ∧ Hid (Bk wr gb 37 [.bool (rq (rgtR (capL s.cap) u val i c)).1,.string (rq (rgtR (capL s.cap) u val i c)).2.1,.string (rq (rgtR (capL s.cap) u val i c)).2.2])) (fun kx _ => s.cap.length - (intOf kx).toNat)
       case atStart => exact ⟨0,Nat.zero_le _,rfl,hB9,hR9,hG9⟩
       case round =>
        clear hB9 hR9 hG9
        obtain ⟨c,hc,rfl,hBz,hRz,hGz⟩:=hrel
        obtain ⟨wz,rfl⟩ : ∃ z,z = wr:=⟨_,rfl⟩
        by_cases hcl2 : c < s.cap.length
        · obtain ⟨vb2,off,hAe,hbl,hcc⟩:=(hsW.out wz (hBw.out _ hBz.out)) (by omega)
          subst hAe
          obtain ⟨e1,e2,e3,e4,e5⟩:=hcc c hcl2
          obtain ⟨co,ho,part,hlk1,hlk2,hco,hho⟩:=hlk.out c hcl2
          rw [hlk1] at e1 e2 e3 e4 e5
          replace e1 : wz.cell? ⟨vb2,off + c * 5,none⟩ = some (.int .i64 (co : Int)):=e1
          replace e2 : wz.cell? ⟨vb2,off + c * 5 + 1,none⟩ = some (.int .i64 (ho : Int)):=e2
          replace e3 : wz.cell? ⟨vb2,off + c * 5 + 2,none⟩ = some (.bool (rq part).1):=e3
          replace e4 : wz.cell? ⟨vb2,off + c * 5 + 3,none⟩ = some (.string (rq part).2.1):=e4
          replace e5 : wz.cell? ⟨vb2,off + c * 5 + 4,none⟩ = some (.string (rq part).2.2):=e5
          have hclc : c < (capL s.cap).length:=by rw [hcl.out];exact hcl2
          have hpt : (capL s.cap)[c].2.2 = part:=by rw [hlk2]
          have hp1:=part_short hL.out hclc;have hp2:=part_neg hL.out hclc;have hp3:=Lib.hid (fun q => part_val hL.out hv.out hclc q)
          rw [hpt] at hp1 hp2
          replace hp1:=Lib.hid hp1;replace hp2:=Lib.hid hp2
          have hsk : Hid (co ≠ p → (∀ j,rowR (capL s.cap) u i (c + 1) j = rowR (capL s.cap) u i c j) ∧ rgtR (capL s.cap) u val i (c + 1) = rgtR (capL s.cap) u val i c):=fun hne => row_skip hclc (by rw [hlk2,hpd];exact hne)
          have hin : Hid (co = p → ∀ t (ht : t < u.length),ho = u.getD t 0 → (∀ j,j < u.length → rowR (capL s.cap) u i (c + 1) j = if j = t then rowR (capL s.cap) u i c t + -1 * part else rowR (capL s.cap) u i c j) ∧ rgtR (capL s.cap) u val i (c + 1) = rgtR (capL s.cap) u val i c):=fun he t ht hh => by have h:=row_in (val:=val) (i:=i) hu.out hclc (by rw [hlk2,hpd];exact he) ht (by rw [hlk2];exact hh);rwa [hpt] at h
          have hout : Hid (co = p → ho ∉ u → (∀ j,j < u.length → rowR (capL s.cap) u i (c + 1) j = rowR (capL s.cap) u i c j) ∧ rgtR (capL s.cap) u val i (c + 1) = rgtR (capL s.cap) u val i c + part * val ho):=fun he hh => by have h:=row_out (val:=val) (i:=i) hclc (by rw [hlk2,hpd];exact he) (by rw [hlk2];exact hh);rwa [hlk2] at h
          replace hlk1:=Lib.hid hlk1;replace hlk2:=Lib.hid hlk2;replace hpt:=Lib.hid hpt;replace hclc:=Lib.hid hclc
          clear hcc
          have c0 : (0 : Int) ≤ (c : Int):=by omega
          have c1 : (c : Int) < (s.cap.length : Int):=by omega
          obtain ⟨lb,hlb⟩ : ∃ x,x = wz.heap.size:=⟨_,rfl⟩
          obtain ⟨wa,hwa⟩ : ∃ W,W = (wz.alloc (.cells #[.int .i64 (co : Int),.int .i64 (ho : Int),.bool (rq part).1,.string (rq part).2.1,.string (rq part).2.2] 42)):=⟨_,rfl⟩
          have hBa : Hid (Below wy.heap.size wy wa):=by rw [hwa];exact hBz.out.alloc hBz.out.size _
          have hRa : Hid (RowB wa rb k fun j => rq (rowR (capL s.cap) u i c j)):=by rw [hwa];exact hRz.out.alloc _
          have hGa : Hid (Bk wa gb 37 [.bool (rq (rgtR (capL s.cap) u val i c)).1,.string (rq (rgtR (capL s.cap) u val i c)).2.1,.string (rq (rgtR (capL s.cap) u val i c)).2.2]):=by rw [hwa];exact hGz.out.alloc _
          have hLa : Hid (Bk wa lb 42 [.int .i64 (co : Int),.int .i64 (ho : Int),.bool (rq part).1,.string (rq part).2.1,.string (rq part).2.2]):=by rw [hwa,hlb];exact Bk.new _ _ _
          have hnl : Hid (rb ≠ lb ∧ gb ≠ lb):=⟨by rw [hlb];exact Nat.ne_of_lt hRz.out.lt,by rw [hlb];exact Nat.ne_of_lt hGz.out.lt⟩
          have y0:=hLa.out.cell (j:=0) rfl;have y1:=hLa.out.cell (j:=1) rfl;have y9:=hLa.out.lt
          rw [hwa,hlb] at y0 y1 y9
          by_cases hcp : co = p
          rotate_left
          · have t1 : ((co : Int) != (p : Int)) = true:=by rw [bne_iff_ne];omega
            have hnx:=hsk.out hcp
            have hRb : Hid (RowB wa rb k fun j => rq (rowR (capL s.cap) u i (c + 1) j)):=hRa.out.congr fun j _ => by rw [hnx.1 j]
            have hGb : Hid (Bk wa gb 37 [.bool (rq (rgtR (capL s.cap) u val i (c + 1))).1,.string (rq (rgtR (capL s.cap) u val i (c + 1))).2.1,.string (rq (rgtR (capL s.cap) u val i (c + 1))).2.2]):=by rw [hnx.2];exact hGa.out
            replace hcp:=Lib.hid hcp
            rw [hwa] at hBa hRb hGb
            clear hnx hsk hin hout hRa hGa hLa
            go_wp2
            exact ⟨⟨c + 1,by omega,by go_num,hBa,hRb,hGb⟩,by simp only [intOf];omega⟩
          · have t1 : ((co : Int) != (p : Int)) = false:=by rw [bne_eq_false_iff_eq];omega
            have hcp2:=Lib.hid hcp
            clear hcp
            have hxa:=Lib.hid (hxy.out.below hBa.out)
            clear hsk y0 y1 y9
            have y0:=hLa.out.cell (j:=0) rfl;have y9:=hLa.out.lt
            rw [hwa,hlb] at y0 y9
            go_wp2_with fail
            subst hwa
            subst hlb
            clear y0 y9
            have hkw:=Lib.hid (fun W (h : Below wy.heap.size wy W) => hBw.out W h)
            have hBd : Hid (Below wy.heap.size wy (wz.alloc (.cells #[.int .i64 (co : Int),.int .i64 (ho : Int),.bool (rq part).1,.string (rq part).2.1,.string (rq part).2.2] 42)).drew):=hBa.out.drew
            have hSd : Hid ((wz.alloc (.cells #[.int .i64 (co : Int),.int .i64 (ho : Int),.bool (rq part).1,.string (rq part).2.1,.string (rq part).2.2] 42)).drew.cell? ⟨xb,0,none⟩ = some (.slice (some ⟨ub,uo,none⟩) k cu) ∧ (wz.alloc (.cells #[.int .i64 (co : Int),.int .i64 (ho : Int),.bool (rq part).1,.string (rq part).2.1,.string (rq part).2.2] 42)).drew.cell? ⟨wz.heap.size,1,none⟩ = some (.int .i64 (ho : Int))):=⟨hxa.out.cell (j:=0) rfl,hLa.out.cell (j:=1) rfl⟩
            have x0:=hxa.out.cell (j:=0) rfl;have x9:=hxa.out.lt;have y1:=hLa.out.cell (j:=1) rfl;have y9:=hLa.out.lt
            go_region_held3 (fun W => W.cell? ⟨xb,0,none⟩ = some (.slice (some ⟨ub,uo,none⟩) k cu) ∧ W.cell? ⟨wz.heap.size,1,none⟩ = some (.int .i64 (ho : Int))) (first | (with_reducible exact hSd.out) | (with_reducible exact ⟨hxa.out.cell (j:=0) rfl,hLa.out.cell (j:=1) rfl⟩) | go_keep) (first | (go_at_call 96;refine (kix.out _ _ (hkw.out _ hBd.out)).mono ?_;rintro e w7b ⟨rfl,hq⟩;obtain rfl:=hq.symm))
            clear x0 x9 y1 y9 hSd
            have hRd : Hid (RowB (wz.alloc (.cells #[.int .i64 (co : Int),.int .i64 (ho : Int),.bool (rq part).1,.string (rq part).2.1,.string (rq part).2.2] 42)).drew rb k fun j => rq (rowR (capL s.cap) u i c j)):=hRa.out;have hGd : Hid (Bk (wz.alloc (.cells #[.int .i64 (co : Int),.int .i64 (ho : Int),.bool (rq part).1,.string (rq part).2.1,.string (rq part).2.2] 42)).drew gb 37 [.bool (rq (rgtR (capL s.cap) u val i c)).1,.string (rq (rgtR (capL s.cap) u val i c)).2.1,.string (rq (rgtR (capL s.cap) u val i c)).2.2]):=hGa.out;have hLd : Hid (Bk (wz.alloc (.cells #[.int .i64 (co : Int),.int .i64 (ho : Int),.bool (rq part).1,.string (rq part).2.1,.string (rq part).2.2] 42)).drew wz.heap.size 42 [.int .i64 (co : Int),.int .i64 (ho : Int),.bool (rq part).1,.string (rq part).2.1,.string (rq part).2.2]):=hLa.out
            obtain ⟨wd,hwd⟩ : ∃ W,W = (wz.alloc (.cells #[.int .i64 (co : Int),.int .i64 (ho : Int),.bool (rq part).1,.string (rq part).2.1,.string (rq part).2.2] 42)).drew:=⟨_,rfl⟩
            rw [← hwd] at hBd hRd hGd hLd
            (try rw [← hwd])
            replace hwd:=Lib.hid hwd
            clear hBa hRa hGa hLa hxa
            have hmnd : Hid (Bk wd mnb 37 [.bool (rq (-1)).1,.string (rq (-1)).2.1,.string (rq (-1)).2.2]):=(hmn3.out.kp hKy.out (by have:=hlt3.out;simp;omega)).below hBd.out
            have hmrb : Hid (rb ≠ mnb):=fun e => by have h1:=hlt3.out;have h2:=hKy.out.size;have h3:=hrb.out;omega
            by_cases hu1 : ho ∈ u
            · obtain ⟨t,ht,hte⟩ : ∃ t,t < u.length ∧ ho = u.getD t 0:=⟨u.idxOf ho,List.idxOf_lt_length_iff.2 hu1,(getD_idx hu1).symm⟩
              have hix : ixOf (u.map fun (q : Nat) => (q : Int)) (ho : Int) = (t : Int):=ix_in hu.out ht hte
              have hnx:=hin.out hcp2.out t ht hte
              rw [hix]
              rw [← hme.out] at ht hnx
              replace hnx:=Lib.hid hnx
              replace hix:=Lib.hid hix;replace hu1:=Lib.hid hu1;replace hte:=Lib.hid hte
              have t2 : decide ((0 : Int) ≤ (t : Int)) = true:=decide_eq_true (by omega)
              go_wp2_with fail
              refine bd19 mnb rb wz.heap.size k t _ (rowR (capL s.cap) u i c t) part _ _ wd (hEW.out _ (hBw.out _ hBd.out)) ht (by omega) hRd.out rfl hmnd.out hLd.out hmrb.out hnl.out.1 (rowR_short hL.out) hp1.out hp2.out ?_
              intro _ _ _ _ _ _ _ _ _ _ _ we hRe hKe
              have hBe : Hid (Below wy.heap.size wy we):=hKe.out.to_below hBd.out (fun x hx => by have:=hrb.out;simp at hx;omega)
              have hRf : Hid (RowB we rb k fun j => rq (rowR (capL s.cap) u i (c + 1) j)):=hRe.out.congr fun j hj => by rw [hnx.out.1 j hj];split <;> rfl
              have hGf : Hid (Bk we gb 37 [.bool (rq (rgtR (capL s.cap) u val i (c + 1))).1,.string (rq (rgtR (capL s.cap) u val i (c + 1))).2.1,.string (rq (rgtR (capL s.cap) u val i (c + 1))).2.2]):=by rw [hnx.out.2];exact hGd.out.kp hKe.out (by have:=hrg.out;simp;omega)
              clear hRe hKe hRd hGd hLd hBd hmnd
              go_wp2
              exact ⟨⟨c + 1,by omega,by go_num,hBe,hRf,hGf⟩,by simp only [intOf];omega⟩
            · have hix : ixOf (u.map fun (q : Nat) => (q : Int)) (ho : Int) = -1:=ix_out hu1
              have hnx:=hout.out hcp2.out hu1
              rw [hix]
              rw [← hme.out] at hnx
              replace hnx:=Lib.hid hnx
              replace hix:=Lib.hid hix;replace hu1:=Lib.hid hu1
              have hp4:=Lib.hid (hp3.out ho)
              rw [hpt.out] at hp4
              go_wp2_with fail
              refine bd20 gb wz.heap.size vb (ho : Int) (rgtR (capL s.cap) u val i c) part (val ho) _ wd (hEW.out _ (hBw.out _ hBd.out)) hGd.out hLd.out hnl.out.2 (rgtR_short hL.out hv.out) hp1.out (hv.out.short ho) hp4.out (fun W hW => kva.out W ho hho (hBw.out _ (hBd.out.trans (hW.mono hBd.out.size)))) ?_
              intro _ _ _ _ _ _ _ _ we hGe hKe
              have hBe : Hid (Below wy.heap.size wy we):=hKe.out.to_below hBd.out (fun x hx => by have:=hrg.out;simp at hx;omega)
              have hRf : Hid (RowB we rb k fun j => rq (rowR (capL s.cap) u i (c + 1) j)):=(rowB_kp hRd.out hKe.out (by have:=hrg.out;simp;omega)).congr fun j hj => by rw [hnx.out.1 j hj]
              have hGf : Hid (Bk we gb 37 [.bool (rq (rgtR (capL s.cap) u val i (c + 1))).1,.string (rq (rgtR (capL s.cap) u val i (c + 1))).2.1,.string (rq (rgtR (capL s.cap) u val i (c + 1))).2.2]):=by rw [hnx.out.2];exact hGe.out
              clear hGe hKe hRd hGd hLd hBd hmnd
              go_wp2
              exact ⟨⟨c + 1,by omega,by go_num,hBe,hRf,hGf⟩,by simp only [intOf];omega⟩
        · obtain rfl : c = s.cap.length:=by omega
          have hRf : Hid (RowB wz rb k fun j => rq (sysA (capL s.cap) u val i j)):=hRz.out.congr fun j hj => by rw [← hcl.out,rowR_all (val:=val) (by rw [← hme.out];exact hj)]
          have hGf : Hid (Bk wz gb 37 [.bool (rq (sysA (capL s.cap) u val i k)).1,.string (rq (sysA (capL s.cap) u val i k)).2.1,.string (rq (sysA (capL s.cap) u val i k)).2.2]):=by have h:=hGz.out;rw [← hcl.out,rgtR_all,← hme.out] at h;exact h
          have hxz:=Lib.hid (hxy.out.below hBz.out);have hoz:=Lib.hid (own_below' hoa.out hBz.out);have hpz:=Lib.hid (own_below' hob.out hBz.out)
          clear hRz hGz hlk kix kva
          go_wp2_with fail
          refine bd22 xb gb rb k i ca cb w3.heap.size Aa Ab _ _ _ (rq (sysA (capL s.cap) u val i k)) wz (by omega) hxz.out hGf.out (by have h1:=hlt3.out;have h2:=hKy.out.size;have h3:=hrg.out;omega) (Nat.le_trans hKy.out.size hBz.out.size) hlt3.out.1 hoz.out hpz.out hap.out (fun e => by have h1:=(hoa.out.lt _ e).2;have h3:=hrg.out;omega) (fun e => by have h1:=(hob.out.lt _ e).2;have h3:=hrg.out;omega) ?_
          intro _ _ _ _ _ _ _ _ _ _ _ _ _ _ _ _ _ _ _ _ Aa2 Ab2 ca2 cb2 we k1 k2 k3 k4 k5 k6 k7
          have hI2 : Hid (BdI w3 we xb k (i + 1) (.slice (some ⟨ub,uo,none⟩) k cu) (sysA (capL s.cap) u val)):=BdI.step hKy.out hoa.out hob.out hrows.out hBz.out hrb.out (by have h1:=hlt3.out;have h2:=hKy.out.size;omega) hRf.out k1.out k2.out k3.out k4.out k5.out k6.out k7.out
          clear k1 k2 k3 k4 k5 k6 k7 hxz hoz hpz hRf hGf hBz
          go_wp2
          exact ⟨⟨i + 1,by omega,by go_num,hI2⟩,by simp only [intOf];omega⟩
end Sh
end Go.Proofs.YtioidbebjgeahaaGreatDoor
namespace Go.Proofs.YtioidbebjgeahaaGreatDoor
open Go.RowKit Go.Shelf
namespace Sh
open Nt Ci
theorem sysA_short {n D : Nat} {L : List Lp} {u : List Nat} {val : Nat → Rat} (hL : Caps n L) (hv : Vals val D) {i j : Nat} (hj : j ≤ u.length) : ShortQ (sysA L u val i j):=by
 by_cases e : j = u.length
 · rw [e,← rgtR_all];exact rgtR_short hL hv
 · rw [← rowR_all (val:=val) (by omega : j < u.length)];exact rowR_short hL
theorem inRow_rowB {W : World} {b n : Nat} {f : Nat → Rat} (h : RowB W b n fun j => rq (f j)) : InRow W (some ⟨b,0,none⟩) (outL n f):=fun _ => ⟨b,0,rfl,h.lt,fun j hj => by
 have hj' : j < n:=by rwa [outL_length] at hj
 obtain ⟨c1,c2,c3⟩:=h.cell hj'
 rw [outL_get]
 rw [Nat.zero_add]
 exact ⟨c1,c2,c3⟩⟩
theorem BdI.slv {n D : Nat} {w W : World} {xb : Nat} {uv : Value} {L : List Lp} {u : List Nat} {val : Nat → Rat} (h : BdI w W xb u.length u.length uv (sysA L u val)) (hL : Caps n L) (hv : Vals val D) (h8 : u.length ≤ 8) :
 ∃ (Aa Ab : Option Addr) (ca cb : Nat) (la : List RowH),Kp [xb] w W ∧ Bk W xb 74 [uv,.slice Aa u.length ca,.slice Ab u.length cb] ∧ la.length = u.length ∧ SysIn W Aa Ab la (bRow L u val) ∧ rowsOf la = aRows L u val:=by
 obtain ⟨Aa,Ab,ca,cb,bl,hK,hx,hoa,hob,hap,hrows⟩:=h
 let la : List RowH:=(List.range u.length).map fun k => ((some ⟨bl k,0,none⟩ : Option Addr),u.length,outL u.length (sysA L u val k))
 have hll : la.length = u.length:=by simp [la]
 have hla : ∀ x ∈ la,∃ k,k < u.length ∧ x = ((some ⟨bl k,0,none⟩ : Option Addr),u.length,outL u.length (sysA L u val k)):=fun x hx => by
  obtain ⟨k,hk,rfl⟩:=List.mem_map.1 hx
  exact ⟨k,List.mem_range.1 hk,rfl⟩
 have hmap : (List.range u.length).map (fun k => Value.slice (some ⟨bl k,0,none⟩) u.length u.length) = la.map hdr:=by
  simp only [la,List.map_map]
  refine List.map_congr_left fun k _ => ?_
  simp [hdr,outL_length]
 obtain ⟨A1,c1,e1,hM⟩:=inMat_of_own (L:=la) (v:=.slice Aa u.length ca) (by rw [← hmap,hll];exact hoa) (fun x hx => by
  obtain ⟨k,hk,rfl⟩:=hla x hx
  exact inRow_rowB (hrows k hk).1)
 obtain ⟨A2,c2,e2,hR⟩:=inRow_of_own hob
 rw [hll] at e1
 injection e1 with q1 _ _
 injection e2 with q2 _ _
 subst q1;subst q2
 refine ⟨Aa,Ab,ca,cb,la,hK,hx,hll,⟨hM,hR,by omega,by rw [show (bRow L u val).length = u.length from outL_length _ _];omega,fun x hx => ?_,fun x hx => ?_⟩,?_⟩
 · obtain ⟨k,hk,rfl⟩:=hla x hx
   refine ⟨by show (outL _ _).length ≤ _;rw [outL_length];omega,fun y hy => ?_⟩
   obtain ⟨j,hj,rfl⟩:=List.mem_map.1 (show y ∈ outL u.length (sysA L u val k) from hy)
   exact rawSz_rq (sysA_short hL hv (Nat.le_of_lt (List.mem_range.1 hj))).ok
 · obtain ⟨j,hj,rfl⟩:=List.mem_map.1 (show x ∈ outL u.length (fun i => sysA L u val i u.length) from hx)
   exact rawSz_rq (sysA_short hL hv (Nat.le_refl _)).ok
 · simp [rowsOf,la,aRows,List.map_map]
theorem slv_any {n D : Nat} {L : List Lp} {F done u : List Nat} {val : Nat → Rat} (hL : Caps n L) (hi : Inv L F done val D) (hx : Nxt L F done u) (hlen : done.length + u.length ≤ 16) (h8 : u.length ≤ 8)
 {W : World} {Aa Ab : Option Addr} {ca cb : Nat} {la : List RowH} (hE : Env W) (hl : la.length = u.length) (hs : SysIn W Aa Ab la (bRow L u val)) (hr : rowsOf la = aRows L u val) :
 Calls Tryz.prog 49 #[.slice Aa u.length ca,.slice Ab u.length cb] W fun e w' => (∃ p c,e = .returned (.tuple #[.slice p u.length c,.int .i64 0]) ∧ InRow w' p (outL u.length fun i => nextV SQ L u val (u.getD i 0))) ∧ Below W.heap.size W w':=by
 have h:=Solve_r Aa Ab ca cb la (bRow L u val) W hE hs
 have hb : (bRow L u val).length = u.length:=outL_length _ _
 rw [hr,solve_build hL hi hx hlen h8,hl,hb] at h
 refine h.mono fun e w' ⟨⟨p,c,e1,e2⟩,hB⟩ => ⟨⟨p,c,?_,e2⟩,hB⟩
 rw [e1]
 show Ending.returned (.tuple #[.slice p (outL u.length _).length c,.int .i64 0]) = _
 rw [outL_length]
end Sh
end Go.Proofs.YtioidbebjgeahaaGreatDoor

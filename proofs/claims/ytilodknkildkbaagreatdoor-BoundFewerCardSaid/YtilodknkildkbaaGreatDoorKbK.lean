/- Texts that the proof needs: CirFew, BndFew, BndLawP, BndWrap. -/
import Derived.Test.YtilodknkildkbaaGreatDoorKbA
import Derived.Test.YtilodknkildkbaaGreatDoorKbB
import Derived.Test.YtilodknkildkbaaGreatDoorKbC
import Derived.Test.YtilodknkildkbaaGreatDoorKbD
import Derived.Test.YtilodknkildkbaaGreatDoorKbE
import Derived.Test.YtilodknkildkbaaGreatDoorKbF
import Derived.Test.YtilodknkildkbaaGreatDoorKbG
import Derived.Test.YtilodknkildkbaaGreatDoorKbH
import Derived.Test.YtilodknkildkbaaGreatDoorKbI
import Derived.Test.YtilodknkildkbaaGreatDoorKbJ
set_option maxHeartbeats 16000000
set_option maxRecDepth 100000
namespace Go.Proofs.YtilodknkildkbaaGreatDoor
section
open Go.RowKit Go.Shelf
namespace Ci
open Nt
def Ep (x:Lk):Prop:=x.2.2.2.1.size≤400∧x.2.2.2.2.size≤400
instance (x:Lk):Decidable (Ep x):=inferInstanceAs (Decidable (_∧_))
def DJ (s:SR):Bool:=decide (s.ps.length≤70∧s.cap.length≤300∧s.vot.length≤300)&&(decide (∀i (h:i<s.ps.length),s.ps[i].size≤100)&&(decide (∀i (h:i<s.cap.length),Ep s.cap[i])&&decide (∀i (h:i<s.vot.length),Ep s.vot[i])))
theorem GY {s:SR} (h:¬(s.ps.length≤70∧s.cap.length≤300∧s.vot.length≤300)):DJ s=false:=by unfold DJ;rw[decide_eq_false h];rfl
theorem Uj {s:SR} {k:Nat} (h:k<s.ps.length) (hb:¬s.ps[k].size≤100):DJ s=false:=by unfold DJ;rw[decide_eq_false (p:=∀i (h:i<s.ps.length),s.ps[i].size≤100) fun c=>hb (c k h)];simp
theorem Tj {s:SR} {k:Nat} (h:k<s.cap.length) (hb:¬Ep s.cap[k]):DJ s=false:=by unfold DJ;rw[decide_eq_false (p:=∀i (h:i<s.cap.length),Ep s.cap[i]) fun c=>hb (c k h)];simp
theorem Tk {s:SR} {k:Nat} (h:k<s.vot.length) (hb:¬Ep s.vot[k]):DJ s=false:=by unfold DJ;rw[decide_eq_false (p:=∀i (h:i<s.vot.length),Ep s.vot[i]) fun c=>hb (c k h)];simp
theorem Tl {s:SR} (h1:s.ps.length≤70) (h2:s.cap.length≤300) (h3:s.vot.length≤300) (h4:∀i (h:i<s.ps.length),s.ps[i].size≤100) (h5:∀i (h:i<s.cap.length),Ep s.cap[i]) (h6:∀i (h:i<s.vot.length),Ep s.vot[i]):DJ s=true:=by
 unfold DJ;rw[decide_eq_true ⟨h1,h2,h3⟩,decide_eq_true h4,decide_eq_true h5,decide_eq_true h6];rfl
theorem RG (s : SR) (Ap Ac Av:Option Addr) (cp cc cv:Nat) (w:World) (hs:StIn w s Ap Ac Av) :
 Calls Tryz.prog 34 #[.agg #[.slice Ap s.ps.length cp,.slice Ac s.cap.length cc,.slice Av s.vot.length cv]] w fun e w'=>e=.returned (.bool (DJ s))∧Below w.heap.size w w':=by
 have n1:=hs.np;have n2:=hs.nc;have n3:=hs.nv;have hB:Hid (Below w.heap.size w (w.alloc (.cells #[.slice Ap s.ps.length cp,.slice Ac s.cap.length cc,.slice Av s.vot.length cv] 25))):=(Below.refl _ w).alloc (Nat.le_refl _) _;replace hs:=zh hs
 by_cases h1:s.ps.length≤70
 · by_cases h2 : s.cap.length≤300
   · by_cases h3 : s.vot.length≤300
     · have hsz:=zh (show s.ps.length≤70∧s.cap.length≤300∧s.vot.length≤300 from⟨h1,h2,h3⟩);have m1:decide (70<(s.ps.length:Int))=false:=decide_eq_false (by omega);have m2:decide (300<(s.cap.length:Int))=false:=decide_eq_false (by omega);have m3:decide (300<(s.vot.length:Int))=false:=decide_eq_false (by omega);go_enter Tryz.func34,Tryz.ntmps34;go_wp2
       go_loop [3] (fun i=>∃k:Nat,k≤s.ps.length∧i=.int .i64 (k:Int)∧Hid (∀i (h:i<s.ps.length),i<k→s.ps[i].size≤100)) (fun i=>s.ps.length-(intOf i).toNat)
       case atStart=>exact⟨0,Nat.zero_le _,rfl,fun i _ h=>absurd h (Nat.not_lt_zero _)⟩
       case round =>
        obtain⟨k,hk,rfl,hIps⟩:=hrel
        by_cases hlt:k<s.ps.length
        · obtain ⟨b,o,rfl,hbl,hc⟩:=hs.out.ps (by omega);have e4:=hc k hlt;have z1:=hs.out.zp s.ps[k] (List.getElem_mem hlt)
          have hIk:Hid (s.ps[k].size≤100→∀i (h:i<s.ps.length),i<k+1→s.ps[i].size≤100):=fun h i h1 h2=>by
           by_cases e:i=k
           · subst e;exact h
           · exact hIps.out i h1 (by omega)
          have hBd:Hid (¬s.ps[k].size≤100→DJ s=false):=fun h=>Uj hlt h;obtain⟨nm,hx⟩:∃x,x=s.ps[k]:=⟨_,rfl⟩;rw[←hx]at e4 z1 hIk hBd;have y4:=(World.cell?_alloc_lt w (.cells #[.slice (some ⟨b,o,none⟩) s.ps.length cp,.slice Ac s.cap.length cc,.slice Av s.vot.length cv] 25) (⟨b,o+k,none⟩:Addr) hbl).trans e4;have j0:(0:Int)≤(k:Int):=by omega
          have j1:(k:Int)<(s.ps.length:Int):=by omega
          clear hc hx e4
          by_cases n4:nm.size≤100
          · have m1:decide (100<(nm.size:Int))=false:=decide_eq_false (by omega);have hI2:=zh (hIk.out n4);go_wp2;go_round
            case rel=>exact⟨k+1,by omega,by go_num,hI2⟩
            case measure=>simp[intOf];omega
          · have m1:decide (100<(nm.size:Int))=true:=decide_eq_true (by omega);have hG:=zh (hBd.out n4);go_wp2;go_ret;exact⟨Ai hG.out.symm,hB.out⟩
        · obtain rfl:k=s.ps.length:=by omega
          go_wp2
          go_loop [4] (fun i=>∃k:Nat,k≤s.cap.length∧i=.int .i64 (k:Int)∧Hid (∀i (h:i<s.cap.length),i<k→Ep s.cap[i])) (fun i=>s.cap.length-(intOf i).toNat)
          case atStart=>exact⟨0,Nat.zero_le _,rfl,fun i _ h=>absurd h (Nat.not_lt_zero _)⟩
          case round =>
           obtain⟨k,hk,rfl,hIcap⟩:=hrel
           by_cases hlt:k<s.cap.length
           · obtain ⟨b,o,rfl,hbl,hc⟩:=hs.out.cap (by omega);obtain⟨_,_,_,e4,e5⟩:=hc k hlt;have hz:=hs.out.zc s.cap[k] (List.getElem_mem hlt)
             have hIk:Hid (Ep s.cap[k]→∀i (h:i<s.cap.length),i<k+1→Ep s.cap[i]):=fun h i h1 h2=>by
              by_cases e:i=k
              · subst e;exact h
              · exact hIcap.out i h1 (by omega)
             have hBd:Hid (¬Ep s.cap[k]→DJ s=false):=fun h=>Tj hlt h;obtain⟨x,hx⟩:∃x,x=s.cap[k]:=⟨_,rfl⟩;rw[←hx]at e4 e5 hz hIk hBd;obtain⟨co,ho,g,nn,dd⟩:=x;obtain⟨z1,z2⟩:=hz;replace z1:nn.size≤140737488355328:=z1;replace z2:dd.size≤140737488355328:=z2;replace hIk:Hid (nn.size≤400∧dd.size≤400→∀i (h:i<s.cap.length),i<k+1→Ep s.cap[i]):=hIk;replace hBd:Hid (¬(nn.size≤400∧dd.size≤400)→DJ s=false):=hBd;have y4:=(World.cell?_alloc_lt w (.cells #[.slice Ap s.ps.length cp,.slice (some ⟨b,o,none⟩) s.cap.length cc,.slice Av s.vot.length cv] 25) (⟨b,o+k*5+3,none⟩:Addr) hbl).trans e4;have y5:=(World.cell?_alloc_lt w (.cells #[.slice Ap s.ps.length cp,.slice (some ⟨b,o,none⟩) s.cap.length cc,.slice Av s.vot.length cv] 25) (⟨b,o+k*5+4,none⟩:Addr) hbl).trans e5;have j0:(0:Int)≤(k:Int):=by omega
             have j1:(k:Int)<(s.cap.length:Int):=by omega
             clear hc hx e4 e5
             by_cases n4:nn.size≤400
             · have m1:decide (400<(nn.size:Int))=false:=decide_eq_false (by omega)
               by_cases n5:dd.size≤400
               · have m2:decide (400<(dd.size:Int))=false:=decide_eq_false (by omega);have hI2:=zh (hIk.out ⟨n4,n5⟩);go_wp2;go_round
                 case rel=>exact⟨k+1,by omega,by go_num,hI2⟩
                 case measure=>simp[intOf];omega
               · have m2:decide (400<(dd.size:Int))=true:=decide_eq_true (by omega);have hG:=zh (hBd.out fun h=>n5 h.2);go_wp2;go_ret;exact⟨Ai hG.out.symm,hB.out⟩
             · have m1:decide (400<(nn.size:Int))=true:=decide_eq_true (by omega);have hG:=zh (hBd.out fun h=>n4 h.1);go_wp2;go_ret;exact⟨Ai hG.out.symm,hB.out⟩
           · obtain rfl:k=s.cap.length:=by omega
             go_wp2
             go_loop [5] (fun i=>∃k:Nat,k≤s.vot.length∧i=.int .i64 (k:Int)∧Hid (∀i (h:i<s.vot.length),i<k→Ep s.vot[i])) (fun i=>s.vot.length-(intOf i).toNat)
             case atStart=>exact⟨0,Nat.zero_le _,rfl,fun i _ h=>absurd h (Nat.not_lt_zero _)⟩
             case round =>
              obtain⟨k,hk,rfl,hIvot⟩:=hrel
              by_cases hlt:k<s.vot.length
              · obtain ⟨b,o,rfl,hbl,hc⟩:=hs.out.vot (by omega);obtain⟨_,_,_,e4,e5⟩:=hc k hlt;have hz:=hs.out.zv s.vot[k] (List.getElem_mem hlt)
                have hIk:Hid (Ep s.vot[k]→∀i (h:i<s.vot.length),i<k+1→Ep s.vot[i]):=fun h i h1 h2=>by
                 by_cases e:i=k
                 · subst e;exact h
                 · exact hIvot.out i h1 (by omega)
                have hBd:Hid (¬Ep s.vot[k]→DJ s=false):=fun h=>Tk hlt h;obtain⟨x,hx⟩:∃x,x=s.vot[k]:=⟨_,rfl⟩;rw[←hx]at e4 e5 hz hIk hBd;obtain⟨co,ho,g,nn,dd⟩:=x;obtain⟨z1,z2⟩:=hz;replace z1:nn.size≤140737488355328:=z1;replace z2:dd.size≤140737488355328:=z2;replace hIk:Hid (nn.size≤400∧dd.size≤400→∀i (h:i<s.vot.length),i<k+1→Ep s.vot[i]):=hIk;replace hBd:Hid (¬(nn.size≤400∧dd.size≤400)→DJ s=false):=hBd;have y4:=(World.cell?_alloc_lt w (.cells #[.slice Ap s.ps.length cp,.slice Ac s.cap.length cc,.slice (some ⟨b,o,none⟩) s.vot.length cv] 25) (⟨b,o+k*5+3,none⟩:Addr) hbl).trans e4;have y5:=(World.cell?_alloc_lt w (.cells #[.slice Ap s.ps.length cp,.slice Ac s.cap.length cc,.slice (some ⟨b,o,none⟩) s.vot.length cv] 25) (⟨b,o+k*5+4,none⟩:Addr) hbl).trans e5;have j0:(0:Int)≤(k:Int):=by omega
                have j1:(k:Int)<(s.vot.length:Int):=by omega
                clear hc hx e4 e5
                by_cases n4:nn.size≤400
                · have m1:decide (400<(nn.size:Int))=false:=decide_eq_false (by omega)
                  by_cases n5:dd.size≤400
                  · have m2:decide (400<(dd.size:Int))=false:=decide_eq_false (by omega);have hI2:=zh (hIk.out ⟨n4,n5⟩);go_wp2;go_round
                    case rel=>exact⟨k+1,by omega,by go_num,hI2⟩
                    case measure=>simp[intOf];omega
                  · have m2:decide (400<(dd.size:Int))=true:=decide_eq_true (by omega);have hG:=zh (hBd.out fun h=>n5 h.2);go_wp2;go_ret;exact⟨Ai hG.out.symm,hB.out⟩
                · have m1:decide (400<(nn.size:Int))=true:=decide_eq_true (by omega);have hG:=zh (hBd.out fun h=>n4 h.1);go_wp2;go_ret;exact⟨Ai hG.out.symm,hB.out⟩
              · obtain rfl:k=s.vot.length:=by omega
                have hG:=zh (Tl (s:=s) hsz.out.1 hsz.out.2.1 hsz.out.2.2 (fun i h=>hIps.out i h h) (fun i h=>hIcap.out i h h) (fun i h=>hIvot.out i h h));go_wp2;go_ret;exact⟨Ai hG.out.symm,hB.out⟩
     · have hG:=zh (GY (s:=s) fun h=>h3 h.2.2);go_enter Tryz.func34,Tryz.ntmps34;go_wp2;go_ret;exact⟨Ai hG.out.symm,hB.out⟩
   · have hG:=zh (GY (s:=s) fun h=>h2 h.2.1);go_enter Tryz.func34,Tryz.ntmps34;go_wp2;go_ret;exact⟨Ai hG.out.symm,hB.out⟩
 · have hG:=zh (GY (s:=s) fun h=>h1 h.1);go_enter Tryz.func34,Tryz.ntmps34;go_wp2;go_ret;exact⟨Ai hG.out.symm,hB.out⟩
end Ci
end
section
open Go.RowKit Go.Shelf
namespace Bd
open Nt Ci Sh
def BPost (p:Bool→Prop) (w:World) (e:Ending) (w':World):Prop:=(∃r,e=.returned (.bool r)∧p r)∧Below w.heap.size w w'
theorem BPost.mkB {p:Bool→Prop} {w:World} {e:Ending} {w':World} {r:Bool} (h1:e=.returned (.bool r)) (h2:p r) (h3:Below w.heap.size w w'):BPost p w e w':=⟨⟨r,h1,h2⟩,h3⟩
def Ii (V:List Raw) (R:List Int):Prop:=V.length≤70∧R.length≤70∧∀k (h:k<V.length),V[k].2.1.size≤400∧V[k].2.2.size≤400
theorem KY (ab:Bool) (Aw Ar:Option Addr) (cw cr:Nat) (V:List Raw) (R:List Int) (w:World) (hV:InRow w Aw V) (hVl:V.length≤140737488355328) (hRl:R.length≤140737488355328)
 (hVs:∀k (h:k<V.length),V[k].2.1.size≤140737488355328∧V[k].2.2.size≤140737488355328) :
 Calls Tryz.prog 23 #[.agg #[.bool ab,.slice Aw V.length cw,.slice Ar R.length cr]] w (BPost (fun r=>r=true→Ii V R) w):=by
 obtain⟨W,hW⟩:∃X,X=w.alloc (.cells #[.bool ab,.slice Aw V.length cw,.slice Ar R.length cr] 29):=⟨_,rfl⟩;have hb1:Below w.heap.size w W:=by rw[hW];exact(Below.refl _ w).alloc (Nat.le_refl _) _
 have hX:Bk W w.heap.size 29 [.bool ab,.slice Aw V.length cw,.slice Ar R.length cr]:=by rw[hW];exact Bk.new _ _ _
 have hB1:=zh hb1;have x1:=hX.c1;have x2:=hX.c2;have x9:=hX.lt;have hI:=zh (hV.below hb1 (Nat.le_refl _));replace hVs:=zh hVs;clear hb1 hX hV;go_enter Tryz.func23,Tryz.ntmps23
 by_cases h1:70<V.length
 · have m1:decide ((70:Int)<(V.length:Int))=true:=decide_eq_true (by omega);have m2:decide (70<V.length)=true:=decide_eq_true (by omega);replace h1:=zh h1;rw[hW]at x1 x2 x9;go_wp2;rw[←hW];go_ret;exact BPost.mkB (r:=false) rfl (fun h=>by cases h) hB1.out
 · have m1 : decide ((70:Int)<(V.length:Int))=false:=decide_eq_false (by omega);have m2:decide (70<V.length)=false:=decide_eq_false (by omega)
   by_cases h2:70<R.length
   · have m3:decide ((70:Int)<(R.length:Int))=true:=decide_eq_true (by omega);have m4:decide (70<R.length)=true:=decide_eq_true (by omega);replace h2:=zh h2;replace h1:=zh h1;rw[hW]at x1 x2 x9;go_wp2;rw[←hW];go_ret;exact BPost.mkB (r:=false) rfl (fun h=>by cases h) hB1.out
   · have m3:decide ((70:Int)<(R.length:Int))=false:=decide_eq_false (by omega);have m4:decide (70<R.length)=false:=decide_eq_false (by omega);replace h2:=zh h2;replace h1:=zh h1;rw[hW]at x1 x2 x9;go_wp2;rw[←hW]at x1 x2 x9;rw[←hW];replace hW:=zh hW;clear m1 m2 m3 m4
     go_loopw [3] (fun ix wr=>∃(k:Nat),k≤V.length∧ix=.int .i64 (k:Int)∧wr=W∧Hid (∀i (_:i<k) (h:i<V.length),V[i].2.1.size≤400∧V[i].2.2.size≤400)) (fun ix _=>V.length-(intOf ix).toNat)
     case atStart=>exact⟨0,Nat.zero_le _,rfl,rfl,fun i h=>absurd h (Nat.not_lt_zero _)⟩
     case round =>
      obtain⟨k,hk,rfl,rfl,hI2⟩:=hrel;have j0:(0:Int)≤(k:Int):=by omega
      by_cases hlt:k<V.length
      · have j1:(k:Int)<(V.length:Int):=by omega
        obtain⟨b,o,rfl,hbl,hc⟩:=hI.out (by omega);obtain⟨e0,e1,e2⟩:=hc k hlt;have hs:=hVs.out k hlt;obtain⟨x,hx⟩:∃x,x=V[k]:=⟨_,rfl⟩;rw[←hx]at e0 e1 e2 hs
        have hst:Hid (x.2.1.size≤400→x.2.2.size≤400→∀i (_:i<k+1) (h:i<V.length),V[i].2.1.size≤400∧V[i].2.2.size≤400):=fun a c i h1 h2=>by
         rcases Nat.lt_succ_iff_lt_or_eq.1 h1 with h | rfl
         · exact hI2.out i h h2
         · rw[←hx];exact⟨a,c⟩
        obtain⟨gg,nn,dd⟩:=x;dsimp only at e0 e1 e2 hs hst;replace hx:=zh hx;clear hc hI2
        by_cases h3:400<nn.size
        · have m1:decide ((400:Int)<(nn.size:Int))=true:=decide_eq_true (by omega);have m2:decide (400<nn.size)=true:=decide_eq_true h3;replace h3:=zh h3;go_wp2;go_ret;exact BPost.mkB (r:=false) rfl (fun h=>by cases h) hB1.out
        · have m1:decide ((400:Int)<(nn.size:Int))=false:=decide_eq_false (by omega);have m2:decide (400<nn.size)=false:=decide_eq_false h3
          by_cases h4:400<dd.size
          · have m3:decide ((400:Int)<(dd.size:Int))=true:=decide_eq_true (by omega);have m4:decide (400<dd.size)=true:=decide_eq_true h4;replace h4:=zh h4;replace h3:=zh h3;go_wp2;go_ret;exact BPost.mkB (r:=false) rfl (fun h=>by cases h) hB1.out
          · have m3:decide ((400:Int)<(dd.size:Int))=false:=decide_eq_false (by omega);have m4:decide (400<dd.size)=false:=decide_eq_false h4;have hst2:=zh (hst.out (by omega) (by omega));replace h4:=zh h4;replace h3:=zh h3;clear hst;go_wp2;exact⟨⟨k+1,by omega,by go_num,by first | rfl | trivial,hst2⟩,by simp only[intOf];omega⟩
      · obtain rfl:k=V.length:=by omega
        go_wp2;go_ret;exact BPost.mkB (r:=true) rfl (fun _=>⟨by have:=h1.out;omega,by have:=h2.out;omega,fun i h=>hI2.out i h h⟩) hB1.out
theorem OW (s:SR) (Ap Ac Av Aw Ar:Option Addr) (cp cc cv cf cw cr:Nat) (Af:Option Addr) (F:List Int) (ab:Bool) (V:List Raw) (R:List Int) (w:World) (hs:StIn w s Ap Ac Av) (hF:F.length≤140737488355328) (hV:InRow w Aw V) (hVl:V.length≤140737488355328) (hRl:R.length≤140737488355328)
 (hVs:∀k (h:k<V.length),V[k].2.1.size≤140737488355328∧V[k].2.2.size≤140737488355328) :
 Calls Tryz.prog 12 #[.agg #[.slice Ap s.ps.length cp,.slice Ac s.cap.length cc,.slice Av s.vot.length cv],.slice Af F.length cf,.agg #[.bool ab,.slice Aw V.length cw,.slice Ar R.length cr]] w (BPost (fun r=>r=true→DJ s=true∧F.length≤70∧Ii V R) w):=by
 have hX1:Hid (Bk ((w.alloc (.cells #[.slice Ap s.ps.length cp,.slice Ac s.cap.length cc,.slice Av s.vot.length cv] 25)).alloc (.cells #[.bool ab,.slice Aw V.length cw,.slice Ar R.length cr] 29)) w.heap.size 25 (SC s Ap Ac Av cp cc cv)):=(Bk.new w _ _).alloc _;have hY1:Hid (Bk ((w.alloc (.cells #[.slice Ap s.ps.length cp,.slice Ac s.cap.length cc,.slice Av s.vot.length cv] 25)).alloc (.cells #[.bool ab,.slice Aw V.length cw,.slice Ar R.length cr] 29)) (w.heap.size+1) 29 [.bool ab,.slice Aw V.length cw,.slice Ar R.length cr]):=by have h:=Bk.new (w.alloc (.cells #[.slice Ap s.ps.length cp,.slice Ac s.cap.length cc,.slice Av s.vot.length cv] 25)) 29 [.bool ab,.slice Aw V.length cw,.slice Ar R.length cr];rw[World.size_alloc]at h;exact h
 have hB1:Hid (Below w.heap.size w ((w.alloc (.cells #[.slice Ap s.ps.length cp,.slice Ac s.cap.length cc,.slice Av s.vot.length cv] 25)).alloc (.cells #[.bool ab,.slice Aw V.length cw,.slice Ar R.length cr] 29))):=((Below.refl _ w).alloc (Nat.le_refl _) _).alloc (by simp) _;have ks:=zh (RG s Ap Ac Av cp cc cv _ (hs.below hB1.out));have u0:=hX1.out.c0;have u1:=hX1.out.c1;have u2:=hX1.out.c2;have u9:=hX1.out.lt;go_enter Tryz.func12,Tryz.ntmps12
 go_wp2_with fail
 refine ks.out.mono ?_;rintro e w2 ⟨rfl,hb⟩;have hB2:=zh (hB1.out.trans (hb.mono hB1.out.size));have hY2:=zh (hY1.out.below hb);clear hb hB1 hY1 hX1 ks u0 u1 u2 u9;obtain⟨f,hf⟩:∃f,f=DJ s:=⟨_,rfl⟩;rw[←hf]
 cases f with
 | false =>
   replace hf:=zh hf;go_wp2;go_ret;exact BPost.mkB (r:=false) rfl (fun h=>by cases h) hB2.out
 | true =>
   by_cases h1:F.length≤70
   · have m1:decide ((F.length:Int)≤(70:Int))=true:=decide_eq_true (by omega);have m2:decide (F.length≤70)=true:=decide_eq_true (by omega);have kc:=zh (KY ab Aw Ar cw cr V R w2 (hV.below hB2.out (Nat.le_refl _)) hVl hRl hVs);have u0:=hY2.out.c0;have u1:=hY2.out.c1;have u2:=hY2.out.c2;have u9:=hY2.out.lt;replace h1:=zh h1;replace hf:=zh hf;replace hVs:=zh hVs;replace hV:=zh hV;replace hs:=zh hs
     go_wp2_with fail
     refine kc.out.mono ?_;rintro e w3 ⟨⟨r,rfl,hr⟩,hb⟩;have hB3:=zh (hB2.out.trans (hb.mono hB2.out.size));replace hr:=zh hr;clear hb kc u0 u1 u2 u9;go_wp2;go_ret;exact BPost.mkB rfl (fun h=>⟨hf.out.symm,h1.out,hr.out h⟩) hB3.out
   · have m1:decide ((F.length:Int)≤(70:Int))=false:=decide_eq_false (by omega);have m2:decide (F.length≤70)=false:=decide_eq_false (by omega);replace h1:=zh h1;replace hf:=zh hf;go_wp2;go_ret;exact BPost.mkB (r:=false) rfl (fun h=>by cases h) hB2.out
end Bd
end
section
open Go.RowKit Go.Shelf
namespace Bd
open Nt Ci Sh
structure CIn (W:World) (A B:Option Addr) (V:List Raw) (R:List Int):Prop where
 row:InRow W A V
 ints:InInt W B R
 lv:V.length≤140737488355328
 lr:R.length≤140737488355328
 sz:∀k (h:k<V.length),V[k].2.1.size≤140737488355328∧V[k].2.2.size≤140737488355328
theorem CIn.below {W W':World} {A B:Option Addr} {V:List Raw} {R:List Int} (h:CIn W A B V R) (hb:Below W.heap.size W W'):CIn W' A B V R:=⟨h.row.below hb (Nat.le_refl _),h.ints.below hb,h.lv,h.lr,h.sz⟩
theorem BO {s:SR} (h:DJ s=true):s.cap.length≤300:=by
 by_cases c:s.ps.length≤70∧s.cap.length≤300∧s.vot.length≤300
 · exact c.2.1
 · rw[GY c]at h;cases h
theorem CC (s:SR) (Ap Ac Av Af Aw Ar:Option Addr) (cp cc cv cf cw cr:Nat) (F:List Int) (ab:Bool) (V:List Raw) (R:List Int) (w:World) (hE:Env w) (hs:StIn w s Ap Ac Av) (hc3:s.cap.length≤300) (hF:InInt w Af F) (hFl:F.length≤140737488355328) (hC:CIn w Aw Ar V R) :
 Calls Tryz.prog 18 #[.agg #[.slice Ap s.ps.length cp,.slice Ac s.cap.length cc,.slice Av s.vot.length cv],.slice Af F.length cf,.agg #[.bool ab,.slice Aw V.length cw,.slice Ar R.length cr]] w (ChkPost s F ab V R w) :=
 IT s Ap Ac Av Af Aw Ar cp cc cv cf cw cr F ab V R w hE hs hc3 hF hFl hC.row hC.lv hC.sz hC.ints hC.lr
theorem Ij (s:SR) (Ap Ac Av Aw Ar:Option Addr) (cp cc cv cf cw cr:Nat) (Af:Option Addr) (F:List Int) (ab:Bool) (V:List Raw) (R:List Int) (w:World) (hs:StIn w s Ap Ac Av) (hF:F.length≤140737488355328) (hC:CIn w Aw Ar V R) :
 Calls Tryz.prog 12 #[.agg #[.slice Ap s.ps.length cp,.slice Ac s.cap.length cc,.slice Av s.vot.length cv],.slice Af F.length cf,.agg #[.bool ab,.slice Aw V.length cw,.slice Ar R.length cr]] w (BPost (fun r=>r=true→DJ s=true∧F.length≤70∧Ii V R) w) :=
 OW s Ap Ac Av Aw Ar cp cc cv cf cw cr Af F ab V R w hs hF hC.row hC.lv hC.lr hC.sz
theorem Tm (ab:Bool) (Aw Ar:Option Addr) (cw cr:Nat) (V:List Raw) (R:List Int) (w:World) (hC:CIn w Aw Ar V R) :
 Calls Tryz.prog 23 #[.agg #[.bool ab,.slice Aw V.length cw,.slice Ar R.length cr]] w (BPost (fun r=>r=true→Ii V R) w) :=
 KY ab Aw Ar cw cr V R w hC.row hC.lv hC.lr hC.sz
section
variable {s:SR} {F:List Int} {V:List Raw} {R:List Int} {ab:Bool}
theorem Chk.sound (h:Chk s F ab V R):soundB s=true:=h.1.1
theorem Chk.len (h:Chk s F ab V R):V.length=s.ps.length:=h.2.1
theorem Chk.fits (h:Chk s F ab V R):D1 V=true:=h.2.2.2.1
theorem Chk.nn (h:Chk s F ab V R) (p:Nat):0≤BT V p:=by
 obtain⟨_,D,hD⟩:=DW h.fits;exact hD.nn p
theorem Chk.abv (h:Chk s F true V R):Abv s.ps.length (Ad s.cap) (toN F) (BT V):=fun p hp=>⟨h.nn p,(h.2.2.2.2 p hp).1 rfl⟩
theorem Chk.blw (h:Chk s F false V R):Blw s.ps.length (Ad s.cap) (toN F) (BT V) (rnk R):=fun p hp=>⟨h.nn p,(h.2.2.2.2 p hp).2 rfl⟩
theorem Chk.short (h:Chk s F ab V R) (p:Nat):ShortQ (BT V p):=by
 obtain⟨_,D,hD⟩:=DW h.fits;exact hD.short p
theorem Chk.raw (h:Chk s F ab V R) {p:Nat} (hp:p<V.length):V[p]=rq (BT V p):=by
 have h1:=(DW h.fits).1;have h2:V[p]? = (AG V.length (BT V))[p]?:=by rw[←h1]
 rw[List.getElem?_eq_getElem hp,List.getElem?_eq_getElem (by rw[Ah];exact hp),B7]at h2;exact Option.some.inj h2
end
end Bd
end
section
open Go.ChangeShapes Go.WideShapes Go.ChangeAt Go.RowKit Go.Shelf Go.Joins Go.Deep
namespace Bd
open Nt Ci
section
variable {H:Type} {enc:TypeId×Value→H} {w:World} {base:Nat} {held:Bool}
def RH (k:Bool) (V:List Raw) (R:List Int) (d:DataW H):Prop:=∃dv dr,d=.agg [.lit (.bool k),dv,dr]∧Ma V dv∧Ir Sq R dr
theorem MF:Tryz.prog.cellsOf 29=3:=by kernel_rfl
theorem ES {r:Go.Reach} {b0:Nat} {v:Value} {d:DataW H} {p:List MemPlace} (hv:Value.okWide Tryz.prog w r b0 29 v) (h:DataW.Trod enc Tryz.prog w base (fun _=>true) held 29 v d p) :
 ∃(k:Bool) (A D:Option Addr) (m o:Nat) (V:List Raw) (R:List Int),v=.agg #[.bool k,.slice A V.length m,.slice D R.length o]∧RH k V R d∧InRow w A V∧InInt w D R:=by
 obtain⟨c0,c1,c2,y0,y1,y2,m,rfl,rfl,_,hy0,hy1,hy2⟩:=open_agg3 Tryz.underlying29 (by kernel_rfl) MF hv h;obtain⟨k,e0,rfl⟩:=DataW.trod_bool Tryz.underlying4 hy0;obtain⟨A,m,V,e1,i1,m1⟩:=SF hy1;obtain⟨D,o,R,e2,i2,m2,_⟩:=Hm hy2;simp only[List.cons.injEq,and_true]at e0 e1 e2;subst e0 e1 e2;exact⟨k,A,D,m,o,V,R,rfl,⟨_,_,rfl,i1,i2⟩,m1,m2⟩
theorem JN {k:Bool} {V:List Raw} {R:List Int} {d:DataW H} {A D:Option Addr} (h:RH k V R d) (hw:∀m∈d.weights Tryz.prog 29,m≤140737488351232) (m1:InRow w A V) (m2:InInt w D R):CIn w A D V R:=by
 obtain⟨dv,dr,rfl,i1,i2⟩:=h
 have e:(DataW.agg [.lit (.bool k),dv,dr]).weights Tryz.prog 29=dv.weights Tryz.prog 27++dr.weights Tryz.prog 26:=by
  simp[DataW.weights,DataW.weightsEach,Tryz.underlying29]
 rw[e]at hw;obtain⟨a1,a2⟩:=Q8 i1 fun m hm=>hw m (List.mem_append_left _ hm);obtain⟨b1,b2⟩:=Dz Tryz.underlying26 (Nat.lt_of_lt_of_eq (by decide:0<8) (by kernel_rfl)) i2 fun m hm=>hw m (List.mem_append_right _ hm);exact⟨m1,m2,a1,b1,fun i hi=>a2 _ (List.getElem_mem hi)⟩
end
end Bd
end
end Go.Proofs.YtilodknkildkbaaGreatDoor

/- Texts that the proof needs: ShaProp. -/
import Derived.Test.YtioidbebjgeahaaGreatDoorKtA
import Derived.Test.YtioidbebjgeahaaGreatDoorKtB
import Derived.Test.YtioidbebjgeahaaGreatDoorKtC
import Derived.Test.YtioidbebjgeahaaGreatDoorKtD
import Derived.Test.YtioidbebjgeahaaGreatDoorKtE
import Derived.Test.YtioidbebjgeahaaGreatDoorKtF
import Derived.Test.YtioidbebjgeahaaGreatDoorKtH
import Derived.Test.YtioidbebjgeahaaGreatDoorKtI
import Derived.Test.YtioidbebjgeahaaGreatDoorKtZK
import Derived.Test.YtioidbebjgeahaaGreatDoorKtZL
import Derived.Test.YtioidbebjgeahaaGreatDoorKtZM
set_option maxHeartbeats 4000000
set_option maxRecDepth 100000
namespace Go.Proofs.YtioidbebjgeahaaGreatDoor
open Go.RowKit Go.Shelf
namespace Sh
open Nt Ci
theorem Short_says (g:Bool) (n d:ByteArray) (b:Nat) (w:World) (hb:Bk w b 37 [.bool g,.string n,.string d]) :
 Calls Tryz.prog 69 #[.int .i64 30,.slice (some ⟨b,0,none⟩) 1 1] w (BoolPost (fun r=>r=true→n.size≤30∧d.size≤30) w):=by
 have c1:=hb.cell (j:=1) rfl;have c2:=hb.cell (j:=2) rfl;have c9:=hb.lt;replace hb:=Lib.hid hb;go_enter Tryz.func69,Tryz.ntmps69;go_wp2
 go_loopw [5] (fun ix wr=>∃(i:Nat),i≤1∧ix=.int .i64 (i:Int)∧Hid (i=1→n.size≤30∧d.size≤30)∧wr=w) (fun ix _=>1-(intOf ix).toNat)
 case atStart=>exact⟨0,by omega,rfl,Lib.hid (fun h=>by omega),rfl⟩
 case round =>
  obtain⟨i,hi,rfl,hq,rfl⟩:=hrel
  by_cases hlt:i<1
  · obtain rfl:i=0:=by omega
    by_cases h1:(30:Int)<(n.size:Int)
    · have m1:decide ((30:Int)<(n.size:Int))=true:=decide_eq_true h1;have m1n:decide (30<n.size)=true:=decide_eq_true (by omega);replace h1:=Lib.hid h1;go_wp2;go_ret;exact BoolPost.mkB (r:=false) rfl (fun h=>(by cases h)) (Below.refl _ _)
    · have m1:decide ((30:Int)<(n.size:Int))=false:=decide_eq_false h1;have m1n:decide (30<n.size)=false:=decide_eq_false (by omega);replace h1:=Lib.hid h1
      by_cases h2:(30:Int)<(d.size:Int)
      · have m2:decide ((30:Int)<(d.size:Int))=true:=decide_eq_true h2;have m2n:decide (30<d.size)=true:=decide_eq_true (by omega);replace h2:=Lib.hid h2;go_wp2;go_ret;exact BoolPost.mkB (r:=false) rfl (fun h=>(by cases h)) (Below.refl _ _)
      · have m2:decide ((30:Int)<(d.size:Int))=false:=decide_eq_false h2;have m2n:decide (30<d.size)=false:=decide_eq_false (by omega);have hq1:Hid ((0:Nat)+1=1→n.size≤30∧d.size≤30):=fun _=>⟨by have:=h1.out;omega,by omega⟩;replace h2:=Lib.hid h2;go_wp2;exact⟨⟨1,by omega,by go_num,hq1,by first | rfl | trivial⟩,by simp only[intOf];omega⟩
  · obtain rfl:i=1:=by omega
    go_wp2;go_ret;exact BoolPost.mkB (r:=true) rfl (fun _=>hq.out (by first | rfl | trivial)) (Below.refl _ _)
def PropL (l:List Raw):Prop:=l.length≤7∧∀k (h:k<l.length),(l[k].2.1.size≤30∧l[k].2.2.size≤30)∧vraw l[k]=true
theorem Proper20_any (A:Option Addr) (ca:Nat) (l:List Raw) (w:World) (hl:InRow w A l) (h63:l.length<9223372036854775807) :
 Calls Tryz.prog 26 #[.slice A l.length ca,.int .i64 7] w (BoolPost (fun r=>r=true→PropL l) w):=by
 have ksh:=Lib.hid (fun g n d b w h=>Short_says g n d b w h);have kv:=Lib.hid (fun g n d w hn hd=>RRValid_any g n d w hn hd);replace hl:=Lib.hid hl
 by_cases z0:(7:Int)<(l.length:Int)
 · have m0:decide ((7:Int)<(l.length:Int))=true:=decide_eq_true z0;have m0n:decide (7<l.length)=true:=decide_eq_true (by omega);replace z0:=Lib.hid z0;go_enter Tryz.func26,Tryz.ntmps26;go_wp2;go_ret;exact BoolPost.mkB (r:=false) rfl (fun h=>(by cases h)) (Below.refl _ _)
 · have m0:decide ((7:Int)<(l.length:Int))=false:=decide_eq_false z0;have m0n:decide (7<l.length)=false:=decide_eq_false (by omega);have h7:l.length≤7:=by omega
   replace z0:=Lib.hid z0;have hA0:Hid (∀k (h:k<l.length),k<0→(l[k].2.1.size≤30∧l[k].2.2.size≤30)∧vraw l[k]=true):=fun k h h0=>absurd h0 (Nat.not_lt_zero _);have hB0:Hid (Below w.heap.size w w):=Below.refl _ _;go_enter Tryz.func26,Tryz.ntmps26;go_wp2
   go_loopw [5] (fun ix wr=>∃(i:Nat),i≤l.length∧ix=.int .i64 (i:Int)∧Hid (Below w.heap.size w wr)∧Hid (∀k (h:k<l.length),k<i→(l[k].2.1.size≤30∧l[k].2.2.size≤30)∧vraw l[k]=true)) (fun ix _=>l.length-(intOf ix).toNat)
   case atStart=>exact⟨0,Nat.zero_le _,rfl,hB0,hA0⟩
   case round =>
    clear hA0 hB0;obtain⟨i,hi,rfl,hB,hA⟩:=hrel;obtain⟨wz,rfl⟩:∃z,z=wr:=⟨_,rfl⟩;have j0:(0:Int)≤(i:Int):=by omega
    by_cases hlt:i<l.length
    · have j1:(i:Int)<(l.length:Int):=by omega
      obtain⟨b,o,rfl,hbl,hc⟩:=(hl.out.below hB.out (Nat.le_refl _)) (by omega);obtain⟨e0,e1,e2⟩:=hc i hlt
      have hN:Hid (((l[i].2.1.size≤30∧l[i].2.2.size≤30)∧vraw l[i]=true)→∀k (h:k<l.length),k<i+1→(l[k].2.1.size≤30∧l[k].2.2.size≤30)∧vraw l[k]=true):=fun h k h1 h2=>by
       by_cases c:k=i
       · subst c;exact h
       · exact hA.out k h1 (by omega)
      have hvb:vraw l[i]=validB l[i].1 l[i].2.1 l[i].2.2:=rfl;rw[hvb]at hN;generalize l[i].1=gg at e0 hN;generalize l[i].2.1=nn at e1 hN;generalize l[i].2.2=dd at e2 hN;clear hvb hc hA;have hbk:Hid (Bk (wz.alloc (.cells #[.bool gg,.string nn,.string dd] 37)) wz.heap.size 37 [.bool gg,.string nn,.string dd]):=Bk.new _ _ _;have hB1:Hid (Below w.heap.size w (wz.alloc (.cells #[.bool gg,.string nn,.string dd] 37))):=hB.out.alloc hB.out.size _;have ks:=Lib.hid (ksh.out gg nn dd _ _ hbk.out)
      go_wp2_with fail
      refine ks.out.mono ?_;rintro e w2 ⟨⟨r,rfl,hr⟩,hb⟩;have hB2:=Lib.hid (hB1.out.trans (hb.mono hB1.out.size));have hb3:=Lib.hid (((Below.refl _ wz).alloc (Nat.le_refl _) (.cells #[.bool gg,.string nn,.string dd] 37)).trans (hb.mono (by simp)));replace hr:=Lib.hid hr
      cases r with
      | false =>
        clear hb ks;go_wp2;go_ret;exact BoolPost.mkB (r:=false) rfl (fun h=>(by cases h)) hB2.out
      | true =>
        have f0:=(hb3.out.cell (p:=⟨b,o+i*3,none⟩) hbl).trans e0;have f1:=(hb3.out.cell (p:=⟨b,o+i*3+1,none⟩) hbl).trans e1;have f2:=(hb3.out.cell (p:=⟨b,o+i*3+2,none⟩) hbl).trans e2;have f9:=Nat.lt_of_lt_of_le hbl hb3.out.size;have hsz:=Lib.hid (hr.out rfl);have k2:=Lib.hid (kv.out gg nn dd w2 (by have:=hsz.out.1;omega) (by have:=hsz.out.2;omega));clear hb ks hbk hB1 e0 e1 e2 hbl hr;generalize validB gg nn dd=vb at hN k2
        go_wp2_with fail
        refine k2.out.mono ?_;rintro e w3 ⟨rfl,hb⟩;have hB3:=Lib.hid (hB2.out.trans (hb.mono hB2.out.size));clear hb k2 hB2 hb3
        cases vb with
        | false =>
          go_wp2;go_ret;exact BoolPost.mkB (r:=false) rfl (fun h=>(by cases h)) hB3.out
        | true =>
          have hA1:=Lib.hid (hN.out ⟨hsz.out,rfl⟩);clear hN hsz;go_wp2;exact⟨⟨i+1,by omega,by go_num,hB3,hA1⟩,by simp only[intOf];omega⟩
    · obtain rfl:i=l.length:=by omega
      go_wp2;go_ret;exact BoolPost.mkB (r:=true) rfl (fun _=>⟨h7,fun k h=>hA.out k h h⟩) hB.out
end Sh
end Go.Proofs.YtioidbebjgeahaaGreatDoor

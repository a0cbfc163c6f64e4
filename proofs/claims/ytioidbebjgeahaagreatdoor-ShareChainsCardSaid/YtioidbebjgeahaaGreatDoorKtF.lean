/- Texts that the proof needs: ShaLaw1, ShaVal, ShaIdx, CirGraph, CirOwn, CirOf, CirVisit, CirReached, CirTurned, CirMem, LinD, ShaReg. -/
import Derived.BigQuiet
import Derived.Deep.Quiet
import Derived.Laws.AppendOwn
import Derived.Deep.OwnRows
import Derived.Deep.RegionHeld3
import Derived.Maps.AppendAt
import Derived.Laws.EntriesVeiled
import Derived.Deep.Slices
import Derived.Test.YtioidbebjgeahaaGreatDoorKtA
import Derived.Test.YtioidbebjgeahaaGreatDoorKtB
import Derived.Test.YtioidbebjgeahaaGreatDoorKtC
import Derived.Test.YtioidbebjgeahaaGreatDoorKtD
import Derived.Test.YtioidbebjgeahaaGreatDoorKtE
set_option maxHeartbeats 16000000
set_option maxRecDepth 1000000
namespace Go.Proofs.YtioidbebjgeahaaGreatDoor
section
open Go.RowKit Go.Shelf
namespace Sh
open Nt Ci
theorem same20_len (A B:Option Addr) (n m ca cb:Nat) (h:n≠m) (w:World) :
 Calls Tryz.prog 19 #[.slice A n ca,.slice B m cb] w fun e w'=>e=.returned (.bool false)∧Below w.heap.size w w':=by
 have h1:((n:Int)==(m:Int))=false:=by rw[beq_eq_false_iff_ne];omega
 have h2:¬((n:Int)=(m:Int)):=by omega
 replace h2:=Lib.hid h2;go_enter Tryz.func19,Tryz.ntmps19;go_wp2;go_ret;exact⟨rfl,Below.refl _ _⟩
theorem same20_any0 (A B:Option Addr) (ca cb:Nat) (l m:List Raw) (hlm:l.length=m.length) (w:World) (hl:InRow w A l) (hm:InRow w B m) (h63:l.length<9223372036854775807) :
 Calls Tryz.prog 19 #[.slice A l.length ca,.slice B m.length cb] w fun e w'=>e=.returned (.bool (decide (l=m)))∧Below w.heap.size w w':=by
 rw[←hlm];go_enter Tryz.func19,Tryz.ntmps19;go_wp2;replace hl:=Lib.hid hl;replace hm:=Lib.hid hm
 go_loopw [5] (fun i wr=>∃y q:Nat,y≤l.length∧i=.int .i64 (y:Int)∧wr=w.drewN q∧Hid (l.take y=m.take y)) (fun i _=>l.length-(intOf i).toNat)
 case atStart=>exact⟨0,0,Nat.zero_le _,rfl,rfl,rfl⟩
 case round =>
  obtain⟨y,q,hy,rfl,rfl,hI⟩:=hrel
  by_cases hlt:y<l.length
  · obtain ⟨b,o,rfl,hb,hc⟩:=hl.out (by omega);obtain⟨b2,o2,rfl,hb2,hc2⟩:=hm.out (by omega);obtain⟨e1,e2,e3⟩:=hc y hlt;obtain⟨f1,f2,f3⟩:=hc2 y (by omega);have hxe:∃x,x=l[y]:=⟨_,rfl⟩;have hze:∃z,z=m[y]'(by omega):=⟨_,rfl⟩;obtain⟨⟨g1,n1,d1⟩,hx⟩:=hxe;obtain⟨⟨g2,n2,d2⟩,hz⟩:=hze;rw[←hx]at e1 e2 e3;rw[←hz]at f1 f2 f3;replace e1:(w.drewN q).cell? ⟨b,o+y*3,none⟩=some (.bool g1):=e1;replace e2:(w.drewN q).cell? ⟨b,o+y*3+1,none⟩=some (.string n1):=e2;replace e3:(w.drewN q).cell? ⟨b,o+y*3+2,none⟩=some (.string d1):=e3;replace f1:(w.drewN q).cell? ⟨b2,o2+y*3,none⟩=some (.bool g2):=f1;replace f2:(w.drewN q).cell? ⟨b2,o2+y*3+1,none⟩=some (.string n2):=f2;replace f3:(w.drewN q).cell? ⟨b2,o2+y*3+2,none⟩=some (.string d2):=f3;have s1:(0:Int)≤(y:Int):=by omega
    have s2:(y:Int)<(l.length:Int):=by omega
    replace hx:=Lib.hid hx;replace hz:=Lib.hid hz;clear hc hc2;generalize hwq:w.drewN q=wq at *
    by_cases q1:g1=g2<;>by_cases q2:n1.toList=n2.toList<;>by_cases q3:d1.toList=d2.toList
    all_goals (
     go_wp2_with fail
     go_quiet (fail)
     go_wp2)
    · obtain rfl:=q1;obtain rfl:n1=n2:=ba_ext2 q2;obtain rfl:d1=d2:=ba_ext2 q3;refine⟨⟨y+1,q+nq,by omega,by go_num,by rw[←hwq,World.drewN_drewN],?_⟩,by simp only[intOf];omega⟩
      show l.take (y+1)=m.take (y+1)
      rw[List.take_succ_eq_append_getElem hlt,List.take_succ_eq_append_getElem (by omega),hI.out,←hx.out,←hz.out]
    all_goals (
     have hne:Hid (l≠m):=fun e=>by
      have e3:(g1,n1,d1)=(g2,n2,d2):=by rw[hx.out,hz.out];exact List.getElem_of_eq e _
      simp only[Prod.mk.injEq]at e3;obtain⟨rfl,rfl,rfl⟩:=e3;simp at q1 q2 q3
     go_ret;exact⟨by rw[decide_eq_false hne.out];rfl,by rw[←hwq];exact blw_drewN (blw_drewN (Below.refl _ w) q) nq⟩)
  · obtain rfl:y=l.length:=by omega
    have hd:Hid (l=m):=by
     have:=hI.out
     rwa [List.take_of_length_le (Nat.le_refl _),List.take_of_length_le (by omega)]at this
    go_wp2;go_ret;exact⟨by rw[decide_eq_true hd.out];rfl,blw_drewN (Below.refl _ w) q⟩
theorem same20_any (A B:Option Addr) (ca cb:Nat) (l m:List Raw) (w:World) (hl:InRow w A l) (hm:InRow w B m) (h63:l.length<9223372036854775807) :
 Calls Tryz.prog 19 #[.slice A l.length ca,.slice B m.length cb] w fun e w'=>e=.returned (.bool (decide (l=m)))∧Below w.heap.size w w':=by
 by_cases h:l.length=m.length
 · exact same20_any0 A B ca cb l m h w hl hm h63
 · rw[decide_eq_false (fun e=>h (by rw[e]))];exact same20_len A B _ _ ca cb h w
theorem of20_any (m n:Int) (w:World) (hE:Env w) (hm0:-9223372036854775808≤m) (hm1:m≤9223372036854775807) (hn0:-9223372036854775808≤n) (hn1:n≤9223372036854775807) (h0:n≠0) :
 Calls Tryz.prog 20 #[.int .i64 m,.int .i64 n] w fun e w'=>e=.returned (qv (ofQ m n))∧Below w.heap.size w w':=by
 obtain⟨g,x,d,q0⟩:=agg_q (ofQ m n);have hB1:Hid (Below w.heap.size w (w.alloc (.cells #[.bool false,.string ⟨#[]⟩,.string ⟨#[]⟩] 37))):=(Below.refl _ w).alloc (Nat.le_refl _) _;have hr1:Hid (Bk (w.alloc (.cells #[.bool false,.string ⟨#[]⟩,.string ⟨#[]⟩] 37)) w.heap.size 37 [.bool false,.string ⟨#[]⟩,.string ⟨#[]⟩]):=Bk.new w _ _
 have ko:Hid (Calls Tryz.prog 62 #[.int .i64 m,.int .i64 n] (w.alloc (.cells #[.bool false,.string ⟨#[]⟩,.string ⟨#[]⟩] 37)) fun e w'=>e=.returned (.tuple #[.agg #[.bool g,.string x,.string d],.int .i64 0])∧Below (w.alloc (.cells #[.bool false,.string ⟨#[]⟩,.string ⟨#[]⟩] 37)).heap.size (w.alloc (.cells #[.bool false,.string ⟨#[]⟩,.string ⟨#[]⟩] 37)) w'):=by
  have h:=RatOf_any m n hm0 hm1 hn0 hn1 h0 _ (hE.below hB1.out);rw[q0]at h;exact h
 rw[q0];clear hE;go_enter Tryz.func20,Tryz.ntmps20
 go_wp2_with fail
 refine ko.out.mono ?_;rintro e w2 ⟨rfl,hb⟩;have hB2:=Lib.hid (hB1.out.trans (hb.mono hB1.out.size));have hr2:=Lib.hid (hr1.out.below hb);clear hb hB1 hr1 ko;have r0:=hr2.out.cell (j:=0) rfl;have r1:=hr2.out.cell (j:=1) rfl;have r2:=hr2.out.cell (j:=2) rfl;have f0:=hr2.out.frozen 0;have f1:=hr2.out.frozen 1;have f2:=hr2.out.frozen 2;have r9:=hr2.out.lt
 have hB5:Hid (Below w.heap.size w ((((w2.setCell ⟨w.heap.size,0,none⟩ (.bool g)).setCell ⟨w.heap.size,1,none⟩ (.string x)).setCell ⟨w.heap.size,2,none⟩ (.string d)).alloc (.cells #[.bool g,.string x,.string d] 37))):=by
  have h:=((hB2.out.setCell (p:=⟨w.heap.size,0,none⟩) (Nat.le_refl _) (.bool g)).setCell (p:=⟨w.heap.size,1,none⟩) (Nat.le_refl _) (.string x)).setCell (p:=⟨w.heap.size,2,none⟩) (Nat.le_refl _) (.string d);exact h.alloc h.size _
 have hR5:Hid (Bk ((((w2.setCell ⟨w.heap.size,0,none⟩ (.bool g)).setCell ⟨w.heap.size,1,none⟩ (.string x)).setCell ⟨w.heap.size,2,none⟩ (.string d)).alloc (.cells #[.bool g,.string x,.string d] 37)) w.heap.size 37 [.bool g,.string x,.string d]):=(((hr2.out.set 0 (.bool g)).set 1 (.string x)).set 2 (.string d)).alloc _;go_wp2
 (try simp only[Exit.inBlock,Exit.then])
 have s0:=hR5.out.cell (j:=0) rfl;have s1:=hR5.out.cell (j:=1) rfl;have s2:=hR5.out.cell (j:=2) rfl;have s9:=hR5.out.lt;refine bodyPost_ret (v:=.agg #[.bool g,.string x,.string d]) (by simp[results,Tryz.results20,go_sem,s0,s1,s2]) rfl ⟨rfl,hB5.out⟩
theorem has20_any (A:Option Addr) (ca:Nat) (l:List Int) (x:Int) (w:World) (hA:InInt w A l) (hl:l.length≤140737488355328) :
 Calls Tryz.prog 25 #[.slice A l.length ca,.int .i64 x] w fun e w'=>e=.returned (.bool (decide (x∈l)))∧w'=w:=by
 replace hA:=Lib.hid hA;go_enter Tryz.func25,Tryz.ntmps25;go_wp2
 go_loopw [5] (fun ix wr=>∃(i:Nat),i≤l.length∧ix=.int .i64 (i:Int)∧wr=w∧Hid (x∉l.take i)) (fun ix _=>l.length-(intOf ix).toNat)
 case atStart=>exact⟨0,Nat.zero_le _,rfl,rfl,by simp[Hid]⟩
 case round =>
  obtain⟨i,hi,rfl,rfl,hI⟩:=hrel
  by_cases hlt:i<l.length
  · obtain ⟨b,o,rfl,hb,hc⟩:=hA.out (by omega);have e1:=hc i hlt;have s1:(0:Int)≤(i:Int):=by omega
    have s2:(i:Int)<(l.length:Int):=by omega
    have hm:Hid (x∈l.take (i+1)↔x∈l.take i∨x=l[i]):=by unfold Hid;rw[List.take_succ_eq_append_getElem hlt,List.mem_append,List.mem_singleton]
    have hmem:Hid (l[i]∈l):=List.getElem_mem hlt;obtain⟨y,hy⟩:∃y,y=l[i]:=⟨_,rfl⟩;rw[←hy]at e1 hm hmem;clear hy hc
    by_cases hyx:y=x
    · have m1:(y==x)=true:=by rw[beq_iff_eq];exact hyx
      have hin:Hid (x∈l):=by rw[←hyx];exact hmem.out
      replace hyx:=Lib.hid hyx;go_wp2;go_ret;exact⟨by rw[decide_eq_true hin.out];rfl,rfl⟩
    · have m1:(y==x)=false:=by rw[beq_eq_false_iff_ne];exact hyx
      have hno:Hid (x∉l.take (i+1)):=fun h=>(hm.out.1 h).elim hI.out (fun e=>hyx e.symm);replace hyx:=Lib.hid hyx;go_wp2;exact⟨⟨i+1,by omega,by go_num,(by first | rfl | trivial),hno⟩,by simp only[intOf];omega⟩
  · obtain rfl:i=l.length:=by omega
    have hno:Hid (x∉l):=by have:=hI.out;rwa [List.take_length]at this
    go_wp2;go_ret;exact⟨by rw[decide_eq_false hno.out];rfl,rfl⟩
theorem region_below {P:Program} {id:Nat} {Q:Exit→Act→World→Prop} {a:Act} {w:World} {l:List Oper} (hm:P.follows .mixedOrders=true) (hB:Region.lexB .any l.toArray=true)
 (h:wpQuiet P l.toArray (fun W=>Below w.heap.size w W) (fun a'=>∀w',Below w.heap.size w w'→Q .normal a' w') l a):(Code.region id l.toArray true).wp P Q a w :=
 wp_region_quiet (C:=fun W=>Below w.heap.size w W) hm hB ((Below.refl _ w).drew) (by simpa using h)
theorem quiet_below {P:Program} {f:FuncId} {args:Array Value} {w W:World} {v:Value} (hW:Below w.heap.size w W) (h:Calls P f args W fun e w'=>e=.returned v∧Below W.heap.size W w') :
 Calls P f args W fun e w'=>e=.returned v∧Below w.heap.size w w':=h.mono fun _ _ ⟨he,hb⟩=>⟨he,hW.trans (hb.mono hW.size)⟩
theorem quiet_same {P:Program} {f:FuncId} {args:Array Value} {w W:World} {v:Value} (hW:Below w.heap.size w W) (h:Calls P f args W fun e w'=>e=.returned v∧w'=W) :
 Calls P f args W fun e w'=>e=.returned v∧Below w.heap.size w w':=h.mono fun _ _ ⟨he,hb⟩=>⟨he,by rw[hb];exact hW⟩
theorem cmpQ_le (p q:Rat):decide (cmpQ p q≤0)=decide (p≤q):=by
 unfold cmpQ
 by_cases h:p<q
 · rw[if_pos h,decide_eq_true (Rat.le_of_lt h)];rfl
 · rw [if_neg h]
   by_cases e:p=q
   · have hle:p≤q:=by rw[e];exact Rat.le_refl
     rw[if_pos e,decide_eq_true hle];rfl
   · have hle:¬p≤q:=fun c=>h (Rat.lt_of_le_of_ne c e);rw[if_neg e,decide_eq_false hle];rfl
theorem least20_w (g1 g2:Bool) (n1 d1 n2 d2:ByteArray) (c f:Int) (w:World) (hE:Env w)
 (hk:∀W,Env W→Calls Tryz.prog 68 #[.agg #[.bool g1,.string n1,.string d1],.agg #[.bool g2,.string n2,.string d2]] W fun e w'=>e=.returned (.tuple #[.int .i64 c,.int .i64 f])∧Below W.heap.size W w') :
 Calls Tryz.prog 23 #[.agg #[.bool g1,.string n1,.string d1],.agg #[.bool g2,.string n2,.string d2]] w fun e w'=>e=.returned (.bool (decide (f=0)&&decide (c≤0)))∧Below w.heap.size w w':=by
 have hB2:Hid (Below w.heap.size w ((w.alloc (.cells #[.bool g1,.string n1,.string d1] 37)).alloc (.cells #[.bool g2,.string n2,.string d2] 37))):=(((Below.refl _ w).alloc (Nat.le_refl _) _).alloc (by simp) _);have ha2:Hid (Bk ((w.alloc (.cells #[.bool g1,.string n1,.string d1] 37)).alloc (.cells #[.bool g2,.string n2,.string d2] 37)) (w.heap.size) 37 [.bool g1,.string n1,.string d1]):=by have h:=Bk.new w 37 [.bool g1,.string n1,.string d1];have h:=h.alloc (.cells #[.bool g2,.string n2,.string d2] 37); exact h
 have hb2:Hid (Bk ((w.alloc (.cells #[.bool g1,.string n1,.string d1] 37)).alloc (.cells #[.bool g2,.string n2,.string d2] 37)) (w.heap.size+1) 37 [.bool g2,.string n2,.string d2]):=by have h:=Bk.new (w.alloc (.cells #[.bool g1,.string n1,.string d1] 37)) 37 [.bool g2,.string n2,.string d2];simp only[World.size_alloc]at h;exact h
 have k1:=Lib.hid (hk ((w.alloc (.cells #[.bool g1,.string n1,.string d1] 37)).alloc (.cells #[.bool g2,.string n2,.string d2] 37)) (hE.below hB2.out));clear hk;have x0:=ha2.out.cell (j:=0) rfl;have x1:=ha2.out.cell (j:=1) rfl;have x2:=ha2.out.cell (j:=2) rfl;have x9:=ha2.out.lt;have y0:=hb2.out.cell (j:=0) rfl;have y1:=hb2.out.cell (j:=1) rfl;have y2:=hb2.out.cell (j:=2) rfl;have y9:=hb2.out.lt
 by_cases hf:f=0
 · subst hf;rw[show (decide ((0:Int)=0)&&decide (c≤0))=decide (c≤0) by simp]
   cases hc:decide (c≤0) with
   | true =>
     go_enter Tryz.func23,Tryz.ntmps23
     go_wp2_with fail
     refine k1.out.mono ?_;rintro e w3 ⟨rfl,hb⟩;have hB3:=Lib.hid (hB2.out.trans (hb.mono hB2.out.size));have ha3:=Lib.hid (ha2.out.below hb);have hb3:=Lib.hid (hb2.out.below hb);clear hb hB2 ha2 hb2 k1 x0 x1 x2 x9 y0 y1 y2 y9;go_wp2;go_ret;exact⟨rfl,hB3.out⟩
   | false =>
     go_enter Tryz.func23,Tryz.ntmps23
     go_wp2_with fail
     refine k1.out.mono ?_;rintro e w3 ⟨rfl,hb⟩;have hB3:=Lib.hid (hB2.out.trans (hb.mono hB2.out.size));have ha3:=Lib.hid (ha2.out.below hb);have hb3:=Lib.hid (hb2.out.below hb);clear hb hB2 ha2 hb2 k1 x0 x1 x2 x9 y0 y1 y2 y9;go_wp2;go_ret;exact⟨rfl,hB3.out⟩
 · have m1:(f==0)=false:=by rw[beq_eq_false_iff_ne];exact hf
   rw[decide_eq_false hf];replace hf:=Lib.hid hf;go_enter Tryz.func23,Tryz.ntmps23
   go_wp2_with fail
   refine k1.out.mono ?_;rintro e w3 ⟨rfl,hb⟩;have hB3:=Lib.hid (hB2.out.trans (hb.mono hB2.out.size));have ha3:=Lib.hid (ha2.out.below hb);have hb3:=Lib.hid (hb2.out.below hb);clear hb hB2 ha2 hb2 k1 x0 x1 x2 x9 y0 y1 y2 y9;go_wp2;go_ret;exact⟨rfl,hB3.out⟩
theorem least20_any (p q:Rat) (hp:ShortQ p) (hq:ShortQ q) (w:World) (hE:Env w) :
 Calls Tryz.prog 23 #[.agg #[.bool (rq (p)).1,.string (rq (p)).2.1,.string (rq (p)).2.2],.agg #[.bool (rq (q)).1,.string (rq (q)).2.1,.string (rq (q)).2.2]] w fun e w'=>e=.returned (.bool (decide (p≤q)))∧Below w.heap.size w w':=by
 have h:=least20_w _ _ _ _ _ _ _ _ w hE (fun W hW=>Compare_short p q hp hq W hW);rw[cmpQ_le]at h;exact h
end Sh
end
section
open Go.RowKit Go.Shelf
namespace Sh
open Nt Ci
theorem zeroQ (w:World):(zeroValue 37).run Tryz.prog w=.ok (.agg #[.bool false,.string ⟨#[]⟩,.string ⟨#[]⟩]) w:=by kernel_rfl
def MapV (w:World) (mb n:Nat) (val:Nat→Rat):Prop :=
 ∃c f,MapK Tryz.prog 3 κi w mb c f∧c≤100000∧∀p:Nat,p<n→match f (p:Int) with | some v=>v=qv (val p) | none=>val p=0
theorem MapV.below {w w':World} {mb n:Nat} {val:Nat→Rat} (h:MapV w mb n val) (hb:Below w.heap.size w w'):MapV w' mb n val:=by
 obtain⟨c,f,h1,h2,h3⟩:=h;exact⟨c,f,h1.below hb,h2,h3⟩
theorem MapV.lt {w:World} {mb n:Nat} {val:Nat→Rat} (h:MapV w mb n val):mb<w.heap.size:=by
 obtain⟨c,f,h1,_⟩:=h;exact h1.lt
structure VM (w:World) (vb mb n:Nat) (val:Nat→Rat):Prop where
 x:Bk w vb 68 [.map (some mb)]
 m:MapV w mb n val
theorem VM.below {w w':World} {vb mb n:Nat} {val:Nat→Rat} (h:VM w vb mb n val) (hb:Below w.heap.size w w'):VM w' vb mb n val:=⟨h.x.below hb,h.m.below hb⟩
theorem shval_any (n:Nat) (val:Nat→Rat) (vb mb p:Nat) (hp:p<n) (hn:n≤1000) (w:World) (hE:Env w) (hV:VM w vb mb n val) :
 Calls Tryz.prog 47 #[.int .i64 (p:Int),.pointer (some ⟨vb,0,none⟩)] w fun e w'=>e=.returned (qv (val p))∧Below w.heap.size w w':=by
 have hB2:Hid (Below w.heap.size w (w.alloc (.cells #[.bool false,.string ⟨#[]⟩,.string ⟨#[]⟩] 37))):=((Below.refl _ w).alloc (Nat.le_refl _) _);have hr2:Hid (Bk (w.alloc (.cells #[.bool false,.string ⟨#[]⟩,.string ⟨#[]⟩] 37)) (w.heap.size) 37 [.bool false,.string ⟨#[]⟩,.string ⟨#[]⟩]):=by have h:=Bk.new w 37 [.bool false,.string ⟨#[]⟩,.string ⟨#[]⟩]; exact h
 have hv1:=Lib.hid (hV.below hB2.out);obtain⟨c,f,hM,_,hval⟩:=hv1.out.m;have hlook:=hM.look_ok keyI Tryz.underlying68 (zeroQ _) (key_i Tryz.underlying3 (a:=(p:Int)) (by omega) (by omega));have hx:=hv1.out.x;have x0:=hx.cell (j:=0) rfl;have x9:=hx.lt;have hvp:=hval p hp;replace hE:=Lib.hid hE;clear hval hM hv1 hV hx
 cases hfp:f (p:Int) with
 | some u =>
   rw[hfp]at hlook hvp;replace hvp:u=qv (val p):=hvp;obtain⟨g,n0,d,hq⟩:=agg_q (val p);rw[hq]at hvp;subst hvp;replace hlook:(Instr.lookup 68 (.map (some mb)) (.int .i64 (p:Int)) true).run Tryz.prog (w.alloc (.cells #[.bool false,.string ⟨#[]⟩,.string ⟨#[]⟩] 37))=.ok (.tuple #[.agg #[.bool g,.string n0,.string d],.bool true]) (w.alloc (.cells #[.bool false,.string ⟨#[]⟩,.string ⟨#[]⟩] 37)):=hlook;replace hfp:=Lib.hid hfp;have hB3:Hid (Below w.heap.size w ((w.alloc (.cells #[.bool false,.string ⟨#[]⟩,.string ⟨#[]⟩] 37)).alloc (.cells #[.bool g,.string n0,.string d] 37))):=hB2.out.alloc hB2.out.size _;have hr3:=Lib.hid (hr2.out.alloc (.cells #[.bool g,.string n0,.string d] 37));clear hB2 hr2;have hv3:Hid (Bk ((w.alloc (.cells #[.bool false,.string ⟨#[]⟩,.string ⟨#[]⟩] 37)).alloc (.cells #[.bool g,.string n0,.string d] 37)) (w.alloc (.cells #[.bool false,.string ⟨#[]⟩,.string ⟨#[]⟩] 37)).heap.size 37 [.bool g,.string n0,.string d]):=Bk.new _ _ _;have r0:=hr3.out.cell (j:=0) rfl;have r1:=hr3.out.cell (j:=1) rfl;have r2:=hr3.out.cell (j:=2) rfl;have r9:=hr3.out.lt;have rf0:=hr3.out.frozen 0;have rf1:=hr3.out.frozen 1;have rf2:=hr3.out.frozen 2;go_enter Tryz.func47,Tryz.ntmps47;have hBz:Hid (Below w.heap.size w ((w.alloc (.cells #[.bool g,.string n0,.string d] 37)).alloc (.cells #[.bool g,.string n0,.string d] 37))):=((Below.refl _ w).alloc (Nat.le_refl _) _).alloc (by simp) _;have hRz:Hid (Bk ((w.alloc (.cells #[.bool g,.string n0,.string d] 37)).alloc (.cells #[.bool g,.string n0,.string d] 37)) w.heap.size 37 [.bool g,.string n0,.string d]):=(Bk.new w _ _).alloc _;go_wp2
   (try simp only[Exit.inBlock,Exit.then])
   have s0:=hRz.out.cell (j:=0) rfl;have s1:=hRz.out.cell (j:=1) rfl;have s2:=hRz.out.cell (j:=2) rfl;have s9:=hRz.out.lt;refine bodyPost_ret (v:=.agg #[.bool g,.string n0,.string d]) (by simp[results,Tryz.results47,go_sem,s0,s1,s2]) rfl ⟨by rw[hq],hBz.out⟩
 | none =>
   rw[hfp]at hlook hvp;replace hvp:val p=0:=hvp;obtain⟨g,n0,d,hq⟩:=agg_q (0:Rat);rw[hvp];replace hlook:(Instr.lookup 68 (.map (some mb)) (.int .i64 (p:Int)) true).run Tryz.prog (w.alloc (.cells #[.bool false,.string ⟨#[]⟩,.string ⟨#[]⟩] 37))=.ok (.tuple #[.agg #[.bool false,.string ⟨#[]⟩,.string ⟨#[]⟩],.bool false]) (w.alloc (.cells #[.bool false,.string ⟨#[]⟩,.string ⟨#[]⟩] 37)):=hlook;replace hfp:=Lib.hid hfp;replace hvp:=Lib.hid hvp;have hB3:Hid (Below w.heap.size w ((w.alloc (.cells #[.bool false,.string ⟨#[]⟩,.string ⟨#[]⟩] 37)).alloc (.cells #[.bool false,.string ⟨#[]⟩,.string ⟨#[]⟩] 37))):=hB2.out.alloc hB2.out.size _;have hr3:=Lib.hid (hr2.out.alloc (.cells #[.bool false,.string ⟨#[]⟩,.string ⟨#[]⟩] 37));clear hB2 hr2;have hv3:Hid (Bk ((w.alloc (.cells #[.bool false,.string ⟨#[]⟩,.string ⟨#[]⟩] 37)).alloc (.cells #[.bool false,.string ⟨#[]⟩,.string ⟨#[]⟩] 37)) (w.alloc (.cells #[.bool false,.string ⟨#[]⟩,.string ⟨#[]⟩] 37)).heap.size 37 [.bool false,.string ⟨#[]⟩,.string ⟨#[]⟩]):=Bk.new _ _ _;have kn:Hid (Calls Tryz.prog 46 #[.int .i64 0] ((w.alloc (.cells #[.bool false,.string ⟨#[]⟩,.string ⟨#[]⟩] 37)).alloc (.cells #[.bool false,.string ⟨#[]⟩,.string ⟨#[]⟩] 37)) fun e w'=>e=.returned (.agg #[.bool g,.string n0,.string d])∧Below (((w.alloc (.cells #[.bool false,.string ⟨#[]⟩,.string ⟨#[]⟩] 37)).alloc (.cells #[.bool false,.string ⟨#[]⟩,.string ⟨#[]⟩] 37))).heap.size ((w.alloc (.cells #[.bool false,.string ⟨#[]⟩,.string ⟨#[]⟩] 37)).alloc (.cells #[.bool false,.string ⟨#[]⟩,.string ⟨#[]⟩] 37)) w'):=by have h:=shnum_any 0 (by omega) ((w.alloc (.cells #[.bool false,.string ⟨#[]⟩,.string ⟨#[]⟩] 37)).alloc (.cells #[.bool false,.string ⟨#[]⟩,.string ⟨#[]⟩] 37)) (hE.out.below hB3.out);rw[show ((0:Int):Rat)=0 from rfl,hq]at h;exact h
   go_enter Tryz.func47,Tryz.ntmps47
   go_wp2_with fail
   refine kn.out.mono ?_;rintro e w4 ⟨rfl,hb⟩;have hB4:=Lib.hid (hB3.out.trans (hb.mono hB3.out.size));have hr4:=Lib.hid (hr3.out.below hb);clear hb hB3 hr3 kn;have r0:=hr4.out.cell (j:=0) rfl;have r1:=hr4.out.cell (j:=1) rfl;have r2:=hr4.out.cell (j:=2) rfl;have r9:=hr4.out.lt;have rf0:=hr4.out.frozen 0;have rf1:=hr4.out.frozen 1;have rf2:=hr4.out.frozen 2;have hBz:Hid (Below w.heap.size w (((w4.setCell ⟨w.heap.size,0,none⟩ (.bool g)).setCell ⟨w.heap.size,1,none⟩ (.string n0)).setCell ⟨w.heap.size,2,none⟩ (.string d))):=(((hB4.out.setCell (p:=⟨w.heap.size,0,none⟩) (Nat.le_refl _) _).setCell (p:=⟨w.heap.size,1,none⟩) (Nat.le_refl _) _).setCell (p:=⟨w.heap.size,2,none⟩) (Nat.le_refl _) _);have hRz:Hid (Bk (((w4.setCell ⟨w.heap.size,0,none⟩ (.bool g)).setCell ⟨w.heap.size,1,none⟩ (.string n0)).setCell ⟨w.heap.size,2,none⟩ (.string d)) (w.heap.size) 37 [.bool g,.string n0,.string d]):=(Bk.set (Bk.set (Bk.set hr4.out 0 (.bool g)) 1 (.string n0)) 2 (.string d));go_wp2
   (try simp only[Exit.inBlock,Exit.then])
   have s0:=hRz.out.cell (j:=0) rfl;have s1:=hRz.out.cell (j:=1) rfl;have s2:=hRz.out.cell (j:=2) rfl;have s9:=hRz.out.lt;refine bodyPost_ret (v:=.agg #[.bool g,.string n0,.string d]) (by simp[results,Tryz.results47,go_sem,s0,s1,s2]) rfl ⟨by rw[hq],hBz.out⟩
end Sh
end
section
open Go.RowKit Go.Shelf
namespace Sh
open Nt Ci
theorem ret_int {a b:Int} (h:a=b):Ending.returned (.int .i64 a)=.returned (.int .i64 b):=by rw[h]
def ixOf (l:List Int) (x:Int):Int:=if x∈l then (l.idxOf x:Int) else -1
theorem ix_at {l:List Int} {x:Int} {k:Nat} (hk:k<l.length) (h:∀j (hj:j<l.length),j<k→l[j]≠x) (e:l[k]=x):ixOf l x=(k:Int):=by
 have hm:x∈l:=by rw[←e];exact List.getElem_mem hk
 unfold ixOf;rw[if_pos hm];have h1:l.idxOf x<l.length:=List.idxOf_lt_length_of_mem hm;have h2:l[l.idxOf x]=x:=List.getElem_idxOf h1
 by_cases c:l.idxOf x<k
 · exact absurd h2 (h _ h1 c)
 · by_cases c2:k<l.idxOf x
   · exact absurd e (by
      have:=List.not_of_lt_findIdx (p:=fun y=>y==x) (xs:=l) (i:=k) (by simpa [List.idxOf] using c2)
      simpa using this)
   · omega
theorem ix_no {l:List Int} {x:Int} (h:∀j (hj:j<l.length),l[j]≠x):ixOf l x=-1:=by
 unfold ixOf;rw[if_neg];intro hm;obtain⟨j,hj,e⟩:=List.getElem_of_mem hm;exact h j hj e
theorem shidx_any (A:Option Addr) (ca:Nat) (l:List Int) (x:Int) (w:World) (hA:InInt w A l) (hl:l.length≤140737488355328) :
 Calls Tryz.prog 96 #[.slice A l.length ca,.int .i64 x] w fun e w'=>e=.returned (.int .i64 (ixOf l x))∧w'=w:=by
 replace hA:=Lib.hid hA;have hYes:=Lib.hid (fun(k:Nat) (hk:k<l.length) h e=>ix_at (l:=l) (x:=x) hk h e);have hNo:=Lib.hid (fun h=>ix_no (l:=l) (x:=x) h);go_enter Tryz.func96,Tryz.ntmps96;go_wp2
 go_loopw [8] (fun ix wr=>∃(k:Nat),k≤l.length∧ix=.int .i64 (k:Int)∧wr=w∧Hid (∀j (hj:j<l.length),j<k→l[j]≠x)) (fun ix _=>l.length-(intOf ix).toNat)
 case atStart=>exact⟨0,Nat.zero_le _,rfl,rfl,fun j _ h=>absurd h (Nat.not_lt_zero _)⟩
 case round =>
  obtain⟨k,hk,rfl,rfl,hN⟩:=hrel
  by_cases hlt:k<l.length
  · obtain ⟨b,o,rfl,hbl,hc⟩:=hA.out (by omega);have e1:=hc k hlt;have hy:=Lib.hid (hYes.out k hlt hN.out)
    have hn:Hid (l[k]≠x→∀j (hj:j<l.length),j<k+1→l[j]≠x):=fun h j hj h2=>by
     by_cases c:j=k
     · subst c;exact h
     · exact hN.out j hj (by omega)
    obtain⟨y,hy2⟩:∃y,y=l[k]:=⟨_,rfl⟩;rw[←hy2]at e1 hy hn;replace hy2:=Lib.hid hy2;have j0:(0:Int)≤(k:Int):=by omega
    have j1:(k:Int)<(l.length:Int):=by omega
    clear hc hN
    by_cases hxy:x=y
    · have m1:(x==y)=true:=by rw[beq_iff_eq];exact hxy
      have hr:=Lib.hid (hy.out hxy.symm);replace hxy:=Lib.hid hxy;clear hn hy;go_wp2;go_ret;exact⟨ret_int hr.out.symm,rfl⟩
    · have m1:(x==y)=false:=by rw[beq_eq_false_iff_ne];exact hxy
      have hn2:=Lib.hid (hn.out fun c=>hxy c.symm);replace hxy:=Lib.hid hxy;clear hn hy;go_wp2;exact⟨⟨k+1,by omega,by go_num,by first | rfl | trivial,hn2⟩,by simp only[intOf];omega⟩
  · obtain rfl:k=l.length:=by omega
    have hr:Hid (ixOf l x=-1):=hNo.out fun j hj=>hN.out j hj hj;go_wp2;go_ret;exact⟨ret_int hr.out.symm,rfl⟩
end Sh
end
section
open Go.RowKit Go.Shelf
namespace Ci
def intsL (l:List Nat):List Value:=l.map fun(q:Nat)=>.int .i64 (q:Int)
theorem intsL_snoc (l:List Nat) (q:Nat):intsL (l++[q])=intsL l++[.int .i64 (q:Int)]:=by simp[intsL]
def OffB (u v:Value):Prop:=∀b,u.ownBlock=some b→v.ownBlock≠some b
structure Gr (W:World) (B R n:Nat) (v:Nat→Value) (adj:Nat→List Nat):Prop where
 lt:R<W.heap.size
 hd:∀i,i<n→W.cell? ⟨R,i,none⟩=some (v i)
 fr:∀i,W.frozen? ⟨R,i,none⟩=false
 rows:∀i,i<n→W.ownsRow B 3 1 (v i) (adj i).length (intsL (adj i))
 apart:∀i j,i<n→j<n→i≠j→OffB (v i) (v j)
 ne:∀i,i<n→(v i).ownBlock≠some R
 lowR:B≤R
section
variable {W W':World} {B R n i:Nat} {v:Nat→Value} {adj:Nat→List Nat}
theorem own_below' {base:Nat} {e:TypeId} {size m:Nat} {u:Value} {xs:List Value} (h:W.ownsRow base e size u m xs) (hb:Below W.heap.size W W'):W'.ownsRow base e size u m xs :=
 h.kept (row:=none) ⟨hb.os,hb.tape,hb.output,hb.size,fun k hk _=>hb.block k hk⟩ (by
  cases hu:u.ownBlock with
  | none=>exact .inl rfl
  | some b=>exact .inr (by simp))
theorem Gr.below (h:Gr W B R n v adj) (hb:Below W.heap.size W W'):Gr W' B R n v adj :=
 ⟨Nat.lt_of_lt_of_le h.lt hb.size,fun i hi=>(hb.cell (p:=⟨R,i,none⟩) h.lt).trans (h.hd i hi),fun i=>(hb.frozen (p:=⟨R,i,none⟩) h.lt).trans (h.fr i),fun i hi=>own_below' (h.rows i hi) hb,h.apart,h.ne,h.lowR⟩
theorem Gr.alloc (h:Gr W B R n v adj) (o:Obj):Gr (W.alloc o) B R n v adj:=h.below ((Below.refl _ W).alloc (Nat.le_refl _) o)
theorem Gr.drew (h:Gr W B R n v adj):Gr W.drew B R n v adj:=h.below (Below.refl _ W).drew
theorem Gr.mono {B':Nat} (h:Gr W B R n v adj) (hb:B'≤B):Gr W B' R n v adj :=
 ⟨h.lt,h.hd,h.fr,fun i hi=>by
   obtain⟨h1,h2⟩:=h.rows i hi;refine⟨h1,?_⟩
   rcases h2 with h2 | ⟨g,cap,cur,hv,hg,hh⟩
   · exact .inl h2
   · exact .inr ⟨g,cap,cur,hv,Nat.le_trans hb hg,hh⟩,h.apart,h.ne,Nat.le_trans hb h.lowR⟩
theorem own_ints {base:Nat} {e:TypeId} {u:Value} {l:List Nat} (h:W.ownsRow base e 1 u l.length (intsL l)) :
 (u=.slice none 0 0∧l=[])∨∃g cap,u=.slice (some ⟨g,0,none⟩) l.length cap∧base≤g∧g<W.heap.size∧(∀j,W.frozen? ⟨g,j,none⟩=false)∧∀j (hj:j<l.length),W.cell? ⟨g,j,none⟩=some (.int .i64 (l[j]:Int)):=by
 rcases h.2 with⟨rfl,h0⟩ | ⟨g,cap,cur,rfl,hb,hg,_⟩
 · exact .inl ⟨rfl,List.length_eq_zero_iff.1 h0⟩
 · refine .inr ⟨g,cap,rfl,hb,(Array.getElem?_eq_some_iff.1 hg).1,fun j=>by simp[World.frozen?,hg],fun j hj=>?_⟩;have hc:=h.cells (g:=g) (by simp[Value.ownBlock]) j (.int .i64 (l[j]:Int)) (by simp[intsL,hj]);have hadd:∀o,(⟨g,0,none⟩:Addr).add o=⟨g,o,none⟩:=fun o=>by unfold Addr.add;split<;>simp_all
   rwa [hadd]at hc
theorem Gr.start (w:World) {B:Nat} (hB:B≤w.heap.size) (n:Nat) (t:TypeId):Gr (w.alloc (.cells (madeCells #[.slice none 0 0] n) t)) B w.heap.size n (fun _=>.slice none 0 0) fun _=>[]:=by
 have h:=heap_alloc_new w (.cells (madeCells #[(.slice none 0 0:Value)] n) t);refine⟨by simp,fun x hx=>?_,fun x=>by simp only[World.frozen?,h];simp,fun _ _=>World.ownsRow_nil _ _ _ _,fun _ _ _ _ _ b hb=>(by cases hb),fun _ _ hb=>(by cases hb),hB⟩;simp only[World.cell?,h];simp[madeCells,hx];rw[Nat.mod_one];rfl
def setL (adj:Nat→List Nat) (x q:Nat):Nat→List Nat:=fun i=>if i=x then adj i++[q] else adj i
theorem Gr.step (h:Gr W B R n v adj) {x q:Nat} (hx:x<n) {u:Value} (hg:W.grownBy W' (v x).ownBlock) (ho:W'.ownsRow B 3 1 u ((adj x).length+1) (intsL (adj x)++[.int .i64 (q:Int)])) (hn:u.ownBlock=(v x).ownBlock∨u.ownBlock=some W.heap.size) :
 Gr (W'.setCell ⟨R,x,none⟩ u) B R n (fun i=>if i=x then u else v i) (setL adj x q):=by
 have hRx:some R≠(v x).ownBlock:=fun e=>h.ne x hx e.symm;have hbR:W'.heap[R]? = W.heap[R]?:=hg.block R h.lt hRx;have hcell:∀i,W'.cell? ⟨R,i,none⟩=W.cell? ⟨R,i,none⟩:=fun i=>World.cell?_of_block (a:=⟨R,i,none⟩) hbR;have hfr:∀i,W'.frozen? ⟨R,i,none⟩=W.frozen? ⟨R,i,none⟩:=fun i=>World.frozen?_of_block (a:=⟨R,i,none⟩) hbR
 have huR:u.ownBlock≠some R:=fun e=>by
  rcases hn with hn | hn
  · exact h.ne x hx (by rw[←hn,e])
  · rw[e]at hn;have:=h.lt;simp only[Option.some.injEq]at hn;omega
 have hne:∀a b:Nat,a≠b→(⟨R,a,none⟩:Addr)≠⟨R,b,none⟩:=fun a b e1 e2=>by injection e2 with _ e3;exact e1 e3
 have far:∀{m:Nat} {z:Value} {xs:List Value},W'.ownsRow B 3 1 z m xs→z.ownBlock≠some R→(W'.setCell ⟨R,x,none⟩ u).ownsRow B 3 1 z m xs:=fun h hz =>
  h.kept (row:=some R) ⟨rfl,rfl,rfl,by simp,fun k _ hk=>Below.heap_setCell _ _ _ _ (fun e=>hk (by rw[e]))⟩ (.inr hz)
 have hoff:∀i,i<n→i≠x→OffB (v i) u:=fun i hi hix b hb e=>by
  rcases hn with hn | hn
  · exact h.apart i x hi hx hix b hb (by rw[←hn,e])
  · have:=((h.rows i hi).lt b hb).2;rw[e]at hn;simp only[Option.some.injEq]at hn;omega
 refine⟨by have:=hg.size;have:=h.lt;simp;omega,fun i hi=>?_,fun i=>by simpa [hfr] using h.fr i,fun i hi=>?_,fun i j hi hj e=>?_,fun i hi=>?_,h.lowR⟩
 · by_cases e:i=x
   · subst e;rw[if_pos rfl];exact World.cell?_setCell_same _ _ _ ((hcell i).trans (h.hd i hi))
   · rw[if_neg e,World.cell?_setCell_other _ _ _ _ (by first | exact hne _ _ e | exact hne _ _ fun c=>e c.symm),hcell];exact h.hd i hi
 · by_cases e:i=x
   · subst e;rw[if_pos rfl];have:setL adj i q i=adj i++[q]:=if_pos rfl;rw[this,List.length_append,intsL_snoc];exact far ho huR
   · rw[if_neg e];have:setL adj x q i=adj i:=if_neg e;rw[this];refine far ((h.rows i hi).kept hg ?_) (h.ne i hi)
     cases hv:(v i).ownBlock with
     | none=>exact .inl rfl
     | some b=>exact .inr fun c=>h.apart i x hi hx e b hv c.symm
 · by_cases e1:i=x
   · have e2:j≠x:=fun c=>e (by rw[e1,c]);rw[if_pos e1,if_neg e2];exact fun b hb hc=>hoff j hj e2 b hc hb
   · rw [if_neg e1]
     by_cases e2:j=x
     · rw[if_pos e2];exact hoff i hi e1
     · rw[if_neg e2];exact h.apart i j hi hj e
 · by_cases e:i=x
   · rw[if_pos e];exact huR
   · rw[if_neg e];exact h.ne i hi
theorem Gr.congr {a':Nat→List Nat} (h:Gr W B R n v adj) (e:∀i,i<n→adj i=a' i):Gr W B R n v a' :=
 ⟨h.lt,h.hd,h.fr,fun i hi=>by rw[←e i hi];exact h.rows i hi,h.apart,h.ne,h.lowR⟩
end
end Ci
end
section
open Go.RowKit Go.Shelf
namespace Ci
section
variable {w w':World} {base:Nat} {e:TypeId} {size:Nat} {u v v':Value} {n:Nat} {xs:List Value}
theorem run_append_at {P:Program} (t ty e:TypeId) (i:TypeInfo) (z:Value) (size bytes:Nat) (ht:P.underlying t=some (.slice e)) (hi:P.info? e=some i) (hz:i.zero=some z)
 (hsize:i.size=size) (hby:i.bytes=bytes) (v:Value) (n:Nat) (xs:List Value) (hown:w.ownsRow base e size v n xs)
 (a:Addr) (m c:Nat) (news:List Value) (hl:news.length=m*size) (hnews:∀j u,news[j]? = some u→w.cell? (a.add j)=some u) (h1:∀u∈news,u.oneCell'=true) (hm:0<m)
 (h63:n+m≤maxLen) (hbytes:(n+m)*bytes≤140737488355328) {v':Value} {w':World} (hr:(Builtin.append_ #[t,t] ty #[v,.slice (some a) m c]).run P w=.ok v' w') :
 v'.ownBlock=v.ownBlock∨v'.ownBlock=some w.heap.size:=by
 subst hsize;subst hby;have hsmall:n+m≤9223372036854775807:=by simp only[maxLen]at h63;omega
 rcases hown.2 with⟨rfl,rfl⟩ | ⟨g,cap,cur,rfl,_,hg,_,hcm,hcs,_⟩
 · have hr2:=run_append_nil (P:=P) w t ty e i z ht hi hz a m c news hl hnews (by omega) (by omega) (by have hb:=hbytes;simp only[Nat.zero_add]at hb;omega);rw[hr2]at hr;simp only[Result.ok.injEq]at hr;rw[←hr.1];exact .inr rfl
 · by_cases hroom:n+m≤cap
   · have hfit:n*i.size+news.length≤cur.size:=by rw[hl,hcs,←Nat.add_mul];exact Nat.mul_le_mul_right _ hroom
     have hr2:=run_append_room (P:=P) w t ty e i ht hi g n cap cur hg a m c news hl hnews h1 hroom hfit;rw[hr2]at hr;simp only[Result.ok.injEq]at hr;rw[←hr.1];exact .inl rfl
   · have holds:∀j u,xs[j]? = some u→w.cell? ((⟨g,0,none⟩:Addr).add j)=some u:=hown.cells (g:=g) rfl;have hr2:=run_append_grow (P:=P) w t ty e i z ht hi hz ⟨g,0,none⟩ n cap xs hown.1 holds a m c news hl hnews (by omega) (by omega) (growslice_fits (by omega) hbytes);rw[hr2]at hr;simp only[Result.ok.injEq]at hr;rw[←hr.1];exact .inr rfl
end
theorem wpList_append_new {P:Program} (w:World) {ops:Array Oper} {rest:List Oper} {o:Oper} {a:Act} {Q:Exit→Act→World→Prop} (hgd:o.guard=none) (s x:Operand) (t:TypeId)
 (ho:o.op=.call { callee:=.builtin .append,args:=#[s,x],argTypes:=#[t,t] })
 (base:Nat) (e:TypeId) (i:TypeInfo) (z:Value) (size bytes:Nat) (ht:P.underlying t=some (.slice e)) (hi:P.info? e=some i) (hz:i.zero=some z)
 (hsize:i.size=size) (hby:i.bytes=bytes) (hzs:z.cells.size=size) (hsz:0<size)
 (v:Value) (n:Nat) (xs:List Value) (hs:a.eval s=v) (hown:w.ownsRow base e size v n xs)
 (ad:Addr) (m c:Nat) (news:List Value) (hx:a.eval x=.slice (some ad) m c) (hl:news.length=m*size) (hnews:∀j u,news[j]? = some u→w.cell? (ad.add j)=some u) (h1:∀u∈news,u.oneCell'=true) (hm:0<m)
 (h63:n+m≤maxLen) (hbytes:(n+m)*bytes≤140737488355328) (hbase:base≤w.heap.size)
 (h:∀v' w',w'.ownsRow base e size v' (n+m) (xs++news)→w.grownBy w' v.ownBlock→(v'.ownBlock=v.ownBlock∨v'.ownBlock=some w.heap.size)→wpList P ops Q rest (a.put o.dst v') w'):wpList P ops Q (o::rest) a w :=
 wpList_plain hgd fun _ hK=>by
  obtain⟨v',w',hr,h2,h3,_⟩:=run_append_own (P:=P) w base t o.type e i z size bytes ht hi hz hsize hby hzs hsz v n xs hown ad m c news hl hnews h1 h63 hbytes hbase;have h5:=run_append_at (P:=P) t o.type e i z size bytes ht hi hz hsize hby v n xs hown ad m c news hl hnews h1 hm h63 hbytes hr;unfold Oper.wp execOp;simp only[ho,resolve,invoke,builtin,Sem.run_bind,Sem.run_pure,Result.andThen_ok,List.map_toArray,List.map_cons,List.map_nil,hs,hx,hr];exact hK _ _ (h v' w' h2 h3 h5)
theorem one_cell1 (v:Value) (h:v.oneCell'=true):∀u∈[v],u.oneCell'=true:=fun u hu=>by rw[List.mem_singleton.1 hu];exact h
theorem head_new (w:World) (v:Value) (t:TypeId):∀j u,[v][j]? = some u→(w.alloc (.cells #[v] t)).cell? (Addr.add ⟨w.heap.size,0,none⟩ j)=some u:=by
 intro j u hj
 match j,hj with
 | 0,hj=>simp at hj;subst hj;simp[Addr.add]
 | j+1,hj=>simp at hj
theorem wp_append_new {P:Program} (w:World) {o:Oper} {a:Act} {K:Act→World→Prop} {Q:Exit→Act→World→Prop} (s x:Operand) (t:TypeId)
 (ho:o.op=.call { callee:=.builtin .append,args:=#[s,x],argTypes:=#[t,t] })
 (base:Nat) (e:TypeId) (i:TypeInfo) (z:Value) (size bytes:Nat) (ht:P.underlying t=some (.slice e)) (hi:P.info? e=some i) (hz:i.zero=some z)
 (hsize:i.size=size) (hby:i.bytes=bytes) (hzs:z.cells.size=size) (hsz:0<size)
 (v:Value) (n:Nat) (xs:List Value) (hs:a.eval s=v) (hown:w.ownsRow base e size v n xs)
 (ad:Addr) (m c:Nat) (news:List Value) (hx:a.eval x=.slice (some ad) m c) (hl:news.length=m*size) (hnews:∀j u,news[j]? = some u→w.cell? (ad.add j)=some u) (h1:∀u∈news,u.oneCell'=true) (hm:0<m)
 (h63:n+m≤maxLen) (hbytes:(n+m)*bytes≤140737488355328) (hbase:base≤w.heap.size)
 (h:∀v' w',w'.ownsRow base e size v' (n+m) (xs++news)→w.grownBy w' v.ownBlock→(v'.ownBlock=v.ownBlock∨v'.ownBlock=some w.heap.size)→K (a.put o.dst v') w'):o.wp P a w K Q:=by
 obtain⟨v',w',hr,h2,h3,_⟩:=run_append_own (P:=P) w base t o.type e i z size bytes ht hi hz hsize hby hzs hsz v n xs hown ad m c news hl hnews h1 h63 hbytes hbase;have h5:=run_append_at (P:=P) t o.type e i z size bytes ht hi hz hsize hby v n xs hown ad m c news hl hnews h1 hm h63 hbytes hr;unfold Oper.wp execOp;simp only[ho,resolve,invoke,builtin,Sem.run_bind,Sem.run_pure,Result.andThen_ok,List.map_toArray,List.map_cons,List.map_nil,hs,hx,hr];exact h v' w' h2 h3 h5
end Ci
end
section
open Go.RowKit Go.Shelf
namespace Ci
open Nt
theorem infoG:(Tryz.prog.info? 26).map (fun i=>(i.zero,i.size,i.bytes))=some (some (.slice none 0 0),1,24):=by kernel_rfl
theorem infoI:(Tryz.prog.info? 3).map (fun i=>(i.zero,i.size,i.bytes))=some (some (.int .i64 0),1,8):=by kernel_rfl
def adjO (E:List (Nat×Nat)) (k p:Nat):List Nat:=((E.take k).filter fun x=>decide (x.1=p)).map (·.2)
theorem adjO_succ {E:List (Nat×Nat)} {k:Nat} (h:k<E.length) (p:Nat):adjO E (k+1) p=setL (adjO E k) E[k].1 E[k].2 p:=by
 unfold adjO setL;rw[List.take_succ_eq_append_getElem h,List.filter_append,List.map_append]
 by_cases e:E[k].1=p
 · rw[if_pos e.symm,List.filter_cons,if_pos (by simpa using e)];rfl
 · rw[if_neg (fun c=>e c.symm),List.filter_cons,if_neg (by simpa using e)];simp
theorem mem_adjO {E:List (Nat×Nat)} {p q:Nat}:q∈adjO E E.length p↔(p,q)∈E:=by
 unfold adjO;rw[List.take_length];simp only[List.mem_map,List.mem_filter,decide_eq_true_eq];constructor
 · rintro⟨x,⟨h1,rfl⟩,rfl⟩;exact h1
 · exact fun h=>⟨(p,q),⟨h,rfl⟩,rfl⟩
theorem of_any (s:SR) (Ap Ac Av:Option Addr) (cp cc cv:Nat) (w:World) (hs:StIn w s Ap Ac Av) (hn:s.ps.length≤100) (hc3:s.cap.length≤300) (hin:∀x,x∈s.cap→(0≤x.1∧x.1<s.ps.length)∧(0≤x.2.1∧x.2.1<s.ps.length)) :
 Calls Tryz.prog 66 #[.agg #[.slice Ap s.ps.length cp,.slice Ac s.cap.length cc,.slice Av s.vot.length cv]] w fun e w'=>(∃R v,e=.returned (.slice (some ⟨R,0,none⟩) s.ps.length s.ps.length)∧Gr w' w.heap.size R s.ps.length v (adjO (edges s) (edges s).length))∧Below w.heap.size w w':=by
 have hmk:=run_make_row' (P:=Tryz.prog) 84 26 (.slice none 0 0) 24 Tryz.underlying84 infoG rfl .i64 .i64 s.ps.length (by omega) (by omega);have hX0:Hid (Bk (w.alloc (.cells #[.slice Ap s.ps.length cp,.slice Ac s.cap.length cc,.slice Av s.vot.length cv] 25)) w.heap.size 25 (SC s Ap Ac Av cp cc cv)):=Bk.new w _ _;have hB0:Hid (Below w.heap.size w (w.alloc (.cells #[.slice Ap s.ps.length cp,.slice Ac s.cap.length cc,.slice Av s.vot.length cv] 25))):=(Below.refl _ w).alloc (Nat.le_refl _) _;have u0:=hX0.out.cell (j:=0) rfl;have u1:=hX0.out.cell (j:=1) rfl;have u9:=hX0.out.lt
 have hG0:Hid (Gr ((w.alloc (.cells #[.slice Ap s.ps.length cp,.slice Ac s.cap.length cc,.slice Av s.vot.length cv] 25)).alloc (.cells (madeCells #[(.slice none 0 0:Value)] s.ps.length) 26)) w.heap.size (w.heap.size+1) s.ps.length (fun _=>.slice none 0 0) (adjO (edges s) 0)):=by
  have h:=Gr.start (w.alloc (.cells #[.slice Ap s.ps.length cp,.slice Ac s.cap.length cc,.slice Av s.vot.length cv] 25)) (B:=w.heap.size) (by simp) s.ps.length 26;rw[World.size_alloc]at h;exact h.congr fun i _=>rfl
 have hB1:Hid (Below w.heap.size w ((w.alloc (.cells #[.slice Ap s.ps.length cp,.slice Ac s.cap.length cc,.slice Av s.vot.length cv] 25)).alloc (.cells (madeCells #[(.slice none 0 0:Value)] s.ps.length) 26))):=hB0.out.alloc hB0.out.size _;have hX1:=Lib.hid (hX0.out.alloc (.cells (madeCells #[(.slice none 0 0:Value)] s.ps.length) 26));have v1:=hX1.out.cell (j:=1) rfl;have v9:=hX1.out.lt;obtain⟨i0,hi0,hzz⟩:=Option.map_eq_some_iff.1 infoI;simp only[Prod.mk.injEq]at hzz;obtain⟨hz0,hz1,hz2⟩:=hzz;replace hi0:=Lib.hid hi0;replace hz0:=Lib.hid hz0;replace hz1:=Lib.hid hz1;replace hz2:=Lib.hid hz2;have hel:Hid ((edges s).length=s.cap.length):=by unfold Hid edges;simp
 have hap:Hid (∀k p,(adjO (edges s) k p).length≤300):=fun k p=>by
  unfold adjO;rw[List.length_map];have h1:=List.length_filter_le (fun x:Nat×Nat=>decide (x.1=p)) ((edges s).take k);have h2:((edges s).take k).length≤(edges s).length:=List.length_take_le' _ _;have:=hel.out;omega
 replace hs:=Lib.hid hs;replace hin:=Lib.hid hin;go_enter Tryz.func66,Tryz.ntmps66;go_wp2;clear hmk u0 u1 u9 v1 v9
 go_loopw [13] (fun i wr=>∃(k:Nat) (v:Nat→Value),k≤s.cap.length∧i=.int .i64 (k:Int)∧Hid (Below w.heap.size w wr)∧Hid (Gr wr w.heap.size (w.heap.size+1) s.ps.length v (adjO (edges s) k))) (fun i _=>s.cap.length-(intOf i).toNat)
 case atStart=>exact⟨0,_,Nat.zero_le _,rfl,hB1,hG0⟩
 case round =>
  obtain⟨k,v,hk,rfl,hB,hG⟩:=hrel;clear hX0 hB0 hG0 hB1 hX1
  by_cases hlt:k<s.cap.length
  · obtain ⟨b,o,rfl,hbl,hcc⟩:=(hs.out.below hB.out).cap (by omega);obtain⟨e1,e2,e3,e4,e5⟩:=hcc k hlt;have hix:=hin.out s.cap[k] (List.getElem_mem hlt)
    have hek:Hid (∀p,adjO (edges s) (k+1) p=setL (adjO (edges s) k) s.cap[k].2.1.toNat s.cap[k].1.toNat p):=fun p=>by
     have h:=adjO_succ (E:=edges s) (k:=k) (by rw[hel.out];exact hlt) p;have h2:(edges s)[k]'(by rw[hel.out];exact hlt)=(s.cap[k].2.1.toNat,s.cap[k].1.toNat):=by unfold edges;simp
     rw[h2]at h;exact h
    obtain⟨x,hx⟩:∃x,x=s.cap[k]:=⟨_,rfl⟩;rw[←hx]at e1 e2 e3 e4 e5 hix hek;obtain⟨coI,hoI,g,nn,dd⟩:=x;obtain⟨⟨i1,i2⟩,i3,i4⟩:=hix;replace i1:0≤coI:=i1;replace i2:coI<s.ps.length:=i2;replace i3:0≤hoI:=i3;replace i4:hoI<s.ps.length:=i4;obtain⟨co,rfl⟩:∃c:Nat,coI=(c:Int):=⟨coI.toNat,by omega⟩;obtain⟨ho,rfl⟩:∃c:Nat,hoI=(c:Int):=⟨hoI.toNat,by omega⟩;replace e1:wr.cell? ⟨b,o+k*5,none⟩=some (.int .i64 (co:Int)):=e1;replace e2:wr.cell? ⟨b,o+k*5+1,none⟩=some (.int .i64 (ho:Int)):=e2;replace e3:wr.cell? ⟨b,o+k*5+2,none⟩=some (.bool g):=e3;replace e4:wr.cell? ⟨b,o+k*5+3,none⟩=some (.string nn):=e4;replace e5:wr.cell? ⟨b,o+k*5+4,none⟩=some (.string dd):=e5;replace hek:Hid (∀p,adjO (edges s) (k+1) p=setL (adjO (edges s) k) ho co p):=fun p=>by have h:=hek.out p;simpa using h
    replace hx:=Lib.hid hx;have j0:(0:Int)≤(k:Int):=by omega
    have j1:(k:Int)<(s.cap.length:Int):=by omega
    have hho:ho<s.ps.length:=by omega
    have hx1:Hid (Bk (wr.alloc (.cells #[.int .i64 (co:Int),.int .i64 (ho:Int),.bool g,.string nn,.string dd] 42)) wr.heap.size 42 [.int .i64 (co:Int),.int .i64 (ho:Int),.bool g,.string nn,.string dd]):=Bk.new wr _ _;have hBw:=Lib.hid (hB.out.alloc hB.out.size (.cells #[.int .i64 (co:Int),.int .i64 (ho:Int),.bool g,.string nn,.string dd] 42));have hGw:=Lib.hid (hG.out.alloc (.cells #[.int .i64 (co:Int),.int .i64 (ho:Int),.bool g,.string nn,.string dd] 42));have hxw:w.heap.size+1<wr.heap.size:=hG.out.lt;clear hcc
    go_wp2_with fail
    obtain⟨W1,hW1⟩:∃W,W=wr.alloc (.cells #[.int .i64 (co:Int),.int .i64 (ho:Int),.bool g,.string nn,.string dd] 42):=⟨_,rfl⟩;rw[←hW1]at hx1 hBw hGw ⊢;obtain⟨xb,hxb⟩:∃b,b=wr.heap.size:=⟨_,rfl⟩;rw[←hxb]at hx1 hxw ⊢;obtain⟨vh,hvh⟩:∃x,x=v ho:=⟨_,rfl⟩;have hhd:=hGw.out.hd ho hho;have hrow:=Lib.hid (hGw.out.rows ho hho);rw[←hvh]at hhd hrow
    have hnx:Hid (vh.ownBlock≠some xb):=fun e=>by
     have h1:=(hG.out.rows ho hho).lt xb (by rw[←hvh];exact e);omega
    have hnR:Hid (vh.ownBlock≠some (w.heap.size+1)):=by rw[hvh];exact hG.out.ne ho hho
    replace hvh:=Lib.hid hvh;clear hxb;clear hW1 hB hG e1 e2 e3 e4 e5 hbl;have hlR:=hGw.out.lt;have hlx:=hx1.out.lt
    have HO:Hid (∀W,Below W1.heap.size W1 W→W.cell? ⟨xb,0,none⟩=some (.int .i64 (co:Int))∧W.cell? ⟨xb,1,none⟩=some (.int .i64 (ho:Int))):=fun W h =>
     ⟨(hx1.out.below h).cell (j:=0) rfl,(hx1.out.below h).cell (j:=1) rfl⟩
    have hal:=hap.out k ho;have q0:(0:Int)≤(ho:Int):=by omega
    have q1:(ho:Int)<(s.ps.length:Int):=by omega
    refine wp_region_noPanic ?_;refine wp_region_held_drew (S:=fun W=>W.cell? ⟨xb,0,none⟩=some (.int .i64 (co:Int))∧W.cell? ⟨xb,1,none⟩=some (.int .i64 (ho:Int))) (by kernel_rfl) (HO.out _ (Below.refl _ _).drew) (fun hS0=>?_);replace hS0:=Lib.hid hS0;refine wpAnyH_take (i:=0) (oi:=_) (v:=?_) rfl (by kernel_rfl) (by kernel_rfl) (by kernel_rfl) (fun _ _ _ h=>h) (Or.inl ⟨by rfl,?_⟩) (hS0.out) ?_;rotate_left
    · (intro w hSw;obtain⟨q1,q2⟩:=hSw;go_simp<;>with_reducible rfl)
    try simp only[Act.put,List.setIfInBounds_toArray]
    refine wpAnyH_take (i:=1) (oi:=_) (v:=?_) rfl (by kernel_rfl) (by kernel_rfl) (by kernel_rfl) (fun _ _ _ h=>h) (Or.inl ⟨by rfl,?_⟩) (hS0.out) ?_;rotate_left
    · (intro w hSw;obtain⟨q1,q2⟩:=hSw;go_simp<;>with_reducible rfl)
    try simp only[Act.put]
    refine wpAnyH_take (i:=2) (oi:=_) (v:=?_) rfl (by kernel_rfl) (by kernel_rfl) (by kernel_rfl) (fun _ _ _ h=>h) (Or.inl ⟨by rfl,?_⟩) (hS0.out) ?_;rotate_left
    · (intro w hSw;obtain⟨q1,q2⟩:=hSw;go_simp<;>with_reducible rfl)
    try simp only[Act.put]
    refine wpAnyH_take (i:=3) (oi:=_) (v:=?_) rfl (by kernel_rfl) (by kernel_rfl) (by kernel_rfl) (fun _ _ _ h=>h) (Or.inl ⟨by rfl,?_⟩) (hS0.out) ?_;rotate_left
    · (intro w hSw;obtain⟨q1,q2⟩:=hSw;go_simp<;>with_reducible rfl)
    try simp only[Act.put]
    refine wpAnyH_take (i:=4) (oi:=_) (v:=?_) rfl (by kernel_rfl) (by kernel_rfl) (by kernel_rfl) (fun _ _ _ h=>h) (Or.inl ⟨by rfl,?_⟩) (hS0.out) ?_;rotate_left
    · (intro w hSw;obtain⟨q1,q2⟩:=hSw;go_simp<;>with_reducible rfl)
    try simp only[Act.put]
    refine wpAnyH_take (i:=5) (oi:=_) (v:=?_) rfl (by kernel_rfl) (by kernel_rfl) (by kernel_rfl) (fun _ _ _ h=>h) (Or.inl ⟨by rfl,?_⟩) (hS0.out) ?_;rotate_left
    · (intro w hSw;obtain⟨q1,q2⟩:=hSw;go_simp<;>with_reducible rfl)
    try simp only[Act.put]
    refine wpAnyH_take (i:=6) (oi:=_) (v:=?_) rfl (by kernel_rfl) (by kernel_rfl) (by kernel_rfl) (fun _ _ _ h=>h) (Or.inl ⟨by rfl,?_⟩) (hS0.out) ?_;rotate_left
    · (intro w hSw;obtain⟨q1,q2⟩:=hSw;go_simp<;>with_reducible rfl)
    try simp only[Act.put]
    refine wpAnyH_take (i:=8) (oi:=_) (v:=?_) rfl (by kernel_rfl) (by kernel_rfl) (by kernel_rfl) (fun _ _ _ h=>h) (Or.inl ⟨by rfl,?_⟩) (hS0.out) ?_;rotate_left
    · (intro w hSw;obtain⟨q1,q2⟩:=hSw;go_simp<;>with_reducible rfl)
    try simp only[Act.put]
    refine wpAnyH_take (i:=9) (oi:=_) (v:=?_) rfl (by kernel_rfl) (by kernel_rfl) (by kernel_rfl) (fun _ _ _ h=>h) (Or.inl ⟨by rfl,?_⟩) (hS0.out) ?_;rotate_left
    · (intro w hSw;obtain⟨q1,q2⟩:=hSw;go_simp<;>with_reducible rfl)
    try simp only[Act.put]
    have hBe:Hid (Below W1.heap.size W1 W1.drew):=(Below.refl _ W1).drew;have hB3:Hid (Below W1.heap.size W1 (W1.alloc (.cells #[.int .i64 (co:Int)] 3)).drew):=((Below.refl _ W1).alloc (Nat.le_refl _) _).drew;refine wpAnyH_ready (rs:=[7,10]) (by kernel_rfl) (by simp) ?_;refine AllReadyH.cons (o:=_) rfl (fun K hK=>?_) ?_
    · have hh:=(hBe.out.cell (p:=⟨w.heap.size+1,ho,none⟩) hlR).trans hhd;go_simp;clear hh;refine hK.out _ _ (HO.out _ hBe.out) (fun _=>?_);clear hK K
      try simp only[Act.put,List.setIfInBounds_toArray,List.set_cons_zero,List.set_cons_succ]
      refine wpAnyH_ready (rs:=[10]) (by kernel_rfl) (by simp) ?_;refine AllReadyH.cons (o:=_) rfl (fun K hK=>?_) ?_
      · go_simp;refine hK.out _ _ (HO.out _ hB3.out) (fun _=>?_);clear hK K
        try simp only[Act.put,List.setIfInBounds_toArray,List.set_cons_zero,List.set_cons_succ]
        refine wpAnyH_ready (rs:=[11]) (by kernel_rfl) (by simp) ?_;refine AllReadyH.cons (o:=_) rfl (fun K hK=>?_) ?_
        · rw [if_pos (by rfl)];refine wp_append_new _ _ _ 26 rfl w.heap.size 3 i0 (.int .i64 0) 1 8 Tryz.underlying26 hi0.out hz0.out hz1.out hz2.out rfl (by decide) vh (adjO (edges s) k ho).length (intsL (adjO (edges s) k ho)) rfl (own_below' hrow.out hB3.out) ⟨W1.heap.size,0,none⟩ 1 1 [.int .i64 (co:Int)] rfl rfl (head_new W1 _ _) (one_cell1 _ rfl) (by omega) (by unfold maxLen;omega) (by omega) (hBw.out.trans (hB3.out.mono hBw.out.size)).size ?_;intro vb wb hob hgb hnb;have hx4:Hid (Bk wb xb 42 [.int .i64 (co:Int),.int .i64 (ho:Int),.bool g,.string nn,.string dd]):=(hx1.out.below hB3.out).grown hgb (fun e=>hnx.out e.symm);have hB2:=Lib.hid (hBw.out.trans (hB3.out.mono hBw.out.size));have hB4:Hid (Below w.heap.size w wb):=hB2.out.grown hgb hB2.out.size (fun b e=>(hrow.out.lt b e).1)
          have hG9:Hid (Gr (wb.setCell ⟨w.heap.size+1,ho,none⟩ vb) w.heap.size (w.heap.size+1) s.ps.length (fun i=>if i=ho then vb else v i) (adjO (edges s) (k+1))):=by
           have h:=((hGw.out.alloc (.cells #[.int .i64 (co:Int)] 3)).drew).step (q:=co) hho (u:=vb) (W':=wb) (by rw[←hvh.out];exact hgb) hob (by rw[←hvh.out];exact hnb);exact h.congr fun i _=>(hek.out i).symm
          have hB9:Hid (Below w.heap.size w (wb.setCell ⟨w.heap.size+1,ho,none⟩ vb)):=hB4.out.setCell (p:=⟨w.heap.size+1,ho,none⟩) (Nat.le_succ _) _;have hbk:=hgb.block (w.heap.size+1) (Nat.lt_of_lt_of_le hlR hB3.out.size) (fun e=>hnR.out e.symm);have y1:=(World.cell?_of_block (a:=⟨w.heap.size+1,ho,none⟩) hbk).trans ((hB3.out.cell (p:=⟨w.heap.size+1,ho,none⟩) hlR).trans hhd);have y2:=(World.frozen?_of_block (a:=⟨w.heap.size+1,ho,none⟩) hbk).trans ((hB3.out.frozen (p:=⟨w.heap.size+1,ho,none⟩) hlR).trans (hGw.out.fr ho));have y3:w.heap.size+1<wb.heap.size:=Nat.lt_of_lt_of_le (Nat.lt_of_lt_of_le hlR hB3.out.size) hgb.size
          rcases hob.2 with⟨_,hnil⟩ | ⟨g9,cap9,cur9,rfl,_⟩
          · exact absurd hnil (by omega)
          clear hob hgb hnb hek hB3 hbk hB2;refine hK.out _ _ ⟨hx4.out.cell (j:=0) rfl,hx4.out.cell (j:=1) rfl⟩ (fun _=>?_);clear hK K
          try simp only[Act.put,List.setIfInBounds_toArray]
          refine wpAnyH_take (i:=12) (oi:=_) (v:=?_) rfl (by kernel_rfl) (by kernel_rfl) (by kernel_rfl) (fun _ _ _ h=>h) (Or.inl ⟨by rfl,?_⟩) (⟨hx4.out.cell (j:=0) rfl,hx4.out.cell (j:=1) rfl⟩) ?_;rotate_left
          · (intro w hSw;obtain⟨q1,q2⟩:=hSw;go_simp<;>with_reducible rfl)
          try simp only[Act.put]
          refine wpAnyH_ready (rs:=[13]) (by kernel_rfl) (by simp) ?_;refine AllReadyH.cons (o:=_) rfl (fun K hK=>?_) ?_
          · go_simp;refine hK.out _ _ ⟨(hx4.out.far (p:=⟨w.heap.size+1,ho,none⟩) (Nat.ne_of_gt hxw) _).cell (j:=0) rfl,(hx4.out.far (p:=⟨w.heap.size+1,ho,none⟩) (Nat.ne_of_gt hxw) _).cell (j:=1) rfl⟩ (fun _=>?_);clear hK K
            try simp only[Act.put,List.setIfInBounds_toArray,List.set_cons_zero,List.set_cons_succ]
            refine wpAnyH_done (by kernel_rfl) ?_ _;refine NoPanic.normal ?_;clear y1 y2 y3 HO hal;go_wp2
            go_roundw
            case rel=>exact⟨k+1,_,by omega,by go_num,hB9,hG9⟩
            case measure=>simp[intOf];omega
          exact AllReadyH.nil
        exact AllReadyH.nil
      exact AllReadyH.nil
    refine AllReadyH.cons (o:=_) rfl (fun K hK=>?_) ?_
    · go_simp;refine hK.out _ _ (HO.out _ hB3.out) (fun _=>?_);clear hK K
      try simp only[Act.put,List.setIfInBounds_toArray,List.set_cons_zero,List.set_cons_succ]
      refine wpAnyH_ready (rs:=[7]) (by kernel_rfl) (by simp) ?_;refine AllReadyH.cons (o:=_) rfl (fun K hK=>?_) ?_
      · have hh:=(hB3.out.cell (p:=⟨w.heap.size+1,ho,none⟩) hlR).trans hhd;go_simp;clear hh;refine hK.out _ _ (HO.out _ hB3.out) (fun _=>?_);clear hK K
        try simp only[Act.put,List.setIfInBounds_toArray,List.set_cons_zero,List.set_cons_succ]
        refine wpAnyH_ready (rs:=[11]) (by kernel_rfl) (by simp) ?_;refine AllReadyH.cons (o:=_) rfl (fun K hK=>?_) ?_
        · rw [if_pos (by rfl)];refine wp_append_new _ _ _ 26 rfl w.heap.size 3 i0 (.int .i64 0) 1 8 Tryz.underlying26 hi0.out hz0.out hz1.out hz2.out rfl (by decide) vh (adjO (edges s) k ho).length (intsL (adjO (edges s) k ho)) rfl (own_below' hrow.out hB3.out) ⟨W1.heap.size,0,none⟩ 1 1 [.int .i64 (co:Int)] rfl rfl (head_new W1 _ _) (one_cell1 _ rfl) (by omega) (by unfold maxLen;omega) (by omega) (hBw.out.trans (hB3.out.mono hBw.out.size)).size ?_;intro vb wb hob hgb hnb;have hx4:Hid (Bk wb xb 42 [.int .i64 (co:Int),.int .i64 (ho:Int),.bool g,.string nn,.string dd]):=(hx1.out.below hB3.out).grown hgb (fun e=>hnx.out e.symm);have hB2:=Lib.hid (hBw.out.trans (hB3.out.mono hBw.out.size));have hB4:Hid (Below w.heap.size w wb):=hB2.out.grown hgb hB2.out.size (fun b e=>(hrow.out.lt b e).1)
          have hG9:Hid (Gr (wb.setCell ⟨w.heap.size+1,ho,none⟩ vb) w.heap.size (w.heap.size+1) s.ps.length (fun i=>if i=ho then vb else v i) (adjO (edges s) (k+1))):=by
           have h:=((hGw.out.alloc (.cells #[.int .i64 (co:Int)] 3)).drew).step (q:=co) hho (u:=vb) (W':=wb) (by rw[←hvh.out];exact hgb) hob (by rw[←hvh.out];exact hnb);exact h.congr fun i _=>(hek.out i).symm
          have hB9:Hid (Below w.heap.size w (wb.setCell ⟨w.heap.size+1,ho,none⟩ vb)):=hB4.out.setCell (p:=⟨w.heap.size+1,ho,none⟩) (Nat.le_succ _) _;have hbk:=hgb.block (w.heap.size+1) (Nat.lt_of_lt_of_le hlR hB3.out.size) (fun e=>hnR.out e.symm);have y1:=(World.cell?_of_block (a:=⟨w.heap.size+1,ho,none⟩) hbk).trans ((hB3.out.cell (p:=⟨w.heap.size+1,ho,none⟩) hlR).trans hhd);have y2:=(World.frozen?_of_block (a:=⟨w.heap.size+1,ho,none⟩) hbk).trans ((hB3.out.frozen (p:=⟨w.heap.size+1,ho,none⟩) hlR).trans (hGw.out.fr ho));have y3:w.heap.size+1<wb.heap.size:=Nat.lt_of_lt_of_le (Nat.lt_of_lt_of_le hlR hB3.out.size) hgb.size
          rcases hob.2 with⟨_,hnil⟩ | ⟨g9,cap9,cur9,rfl,_⟩
          · exact absurd hnil (by omega)
          clear hob hgb hnb hek hB3 hbk hB2;refine hK.out _ _ ⟨hx4.out.cell (j:=0) rfl,hx4.out.cell (j:=1) rfl⟩ (fun _=>?_);clear hK K
          try simp only[Act.put,List.setIfInBounds_toArray]
          refine wpAnyH_take (i:=12) (oi:=_) (v:=?_) rfl (by kernel_rfl) (by kernel_rfl) (by kernel_rfl) (fun _ _ _ h=>h) (Or.inl ⟨by rfl,?_⟩) (⟨hx4.out.cell (j:=0) rfl,hx4.out.cell (j:=1) rfl⟩) ?_;rotate_left
          · (intro w hSw;obtain⟨q1,q2⟩:=hSw;go_simp<;>with_reducible rfl)
          try simp only[Act.put]
          refine wpAnyH_ready (rs:=[13]) (by kernel_rfl) (by simp) ?_;refine AllReadyH.cons (o:=_) rfl (fun K hK=>?_) ?_
          · go_simp;refine hK.out _ _ ⟨(hx4.out.far (p:=⟨w.heap.size+1,ho,none⟩) (Nat.ne_of_gt hxw) _).cell (j:=0) rfl,(hx4.out.far (p:=⟨w.heap.size+1,ho,none⟩) (Nat.ne_of_gt hxw) _).cell (j:=1) rfl⟩ (fun _=>?_);clear hK K
            try simp only[Act.put,List.setIfInBounds_toArray,List.set_cons_zero,List.set_cons_succ]
            refine wpAnyH_done (by kernel_rfl) ?_ _;refine NoPanic.normal ?_;clear y1 y2 y3 HO hal;go_wp2
            go_roundw
            case rel=>exact⟨k+1,_,by omega,by go_num,hB9,hG9⟩
            case measure=>simp[intOf];omega
          exact AllReadyH.nil
        exact AllReadyH.nil
      exact AllReadyH.nil
    exact AllReadyH.nil
  · obtain rfl:k=s.cap.length:=by omega
    have hG2:Hid (Gr wr w.heap.size (w.heap.size+1) s.ps.length v (adjO (edges s) (edges s).length)):=by rw[hel.out];exact hG.out
    go_wp2;go_ret;exact⟨⟨_,v,rfl,hG2.out⟩,hB.out⟩
end Ci
end
section
open Go.RowKit Go.Shelf
namespace Ci
open Nt
open Classical
theorem Gr.grown {W W':World} {B R n mb:Nat} {v:Nat→Value} {adj:Nat→List Nat} (h:Gr W B R n v adj) (hg:W.grownBy W' (some mb)) (hR:R≠mb) (hv:∀i,i<n→(v i).ownBlock≠some mb):Gr W' B R n v adj:=by
 have hb:W'.heap[R]? = W.heap[R]?:=hg.block R h.lt fun e=>hR (Option.some.inj e)
 exact ⟨Nat.lt_of_lt_of_le h.lt hg.size,fun i hi=>(World.cell?_of_block (a:=⟨R,i,none⟩) hb).trans (h.hd i hi),fun i=>(World.frozen?_of_block (a:=⟨R,i,none⟩) hb).trans (h.fr i),fun i hi=>(h.rows i hi).kept hg (by
  cases hu:(v i).ownBlock with
  | none=>exact .inl rfl
  | some b=>exact .inr fun e=>hv i hi (hu.trans e)),h.apart,h.ne,h.lowR⟩
noncomputable def bV (P:Prop):Bool:=@decide P (propDecidable P)
theorem bV_true {P:Prop} (h:P):bV P=true:=@decide_eq_true P (propDecidable P) h
theorem bV_false {P:Prop} (h:¬P):bV P=false:=@decide_eq_false P (propDecidable P) h
theorem of_bV {P:Prop} (h:bV P=true):P:=@of_decide_eq_true P (propDecidable P) h
noncomputable def unv (n:Nat) (V:Nat→Prop):Nat:=((List.range n).filter fun x=>bV (¬V x)).length
theorem unv_less {n p:Nat} {V:Nat→Prop} (hp:p<n) (h:¬V p):unv n (fun x=>V x∨x=p)+1≤unv n V :=
 filter_lt (fun _ _ hx=>bV_true fun c=>(of_bV hx) (.inl c)) ⟨p,List.mem_range.2 hp,bV_false fun c=>c (.inr rfl),bV_true h⟩
theorem unv_mono {n:Nat} {V V':Nat→Prop} (h:∀x,V x→V' x):unv n V'≤unv n V:=by
 unfold unv
 have : ∀l:List Nat,(l.filter fun x=>bV (¬V' x)).length≤(l.filter fun x=>bV (¬V x)).length:=by
  intro l
  induction l with
  | nil=>exact Nat.le_refl _
  | cons a l ih =>
    rw[List.filter_cons,List.filter_cons]
    by_cases h1:V a
    · rw[bV_false (fun c=>c (h a h1)),bV_false (fun c=>c h1)];exact ih
    · rw [bV_true h1]
      cases bV (¬V' a)
      · simp only[Bool.false_eq_true,if_false,if_true,List.length_cons];omega
      · simp only[if_true,List.length_cons];omega
 exact this _
def VisM (w:World) (n mb:Nat) (V:Nat→Prop):Prop:=∃c f,MapK Tryz.prog 3 κi w mb c f∧c+unv n V≤n∧∀x:Nat,x<n→f (x:Int)=if V x then some (.bool true) else none
structure VEnv (w:World) (ob gb vb R n mb B:Nat) (v:Nat→Value) (adj:Nat→List Nat):Prop where
 o:Bk w ob 112 [.map (some mb)]
 g:Bk w gb 84 [.slice (some ⟨R,0,none⟩) n n]
 f:Bk w vb 143 [.func (.func 143) #[] #[.pointer (some ⟨ob,0,none⟩),.pointer (some ⟨gb,0,none⟩),.pointer (some ⟨vb,0,none⟩)]]
 gr:Gr w B R n v adj
 n1:ob≠mb
 n2:gb≠mb
 n3:vb≠mb
 n4:R≠mb
 n5:∀i,i<n→(v i).ownBlock≠some mb
theorem VEnv.grown {w w':World} {ob gb vb R n mb B:Nat} {v:Nat→Value} {adj:Nat→List Nat} (h:VEnv w ob gb vb R n mb B v adj) (hg:w.grownBy w' (some mb)):VEnv w' ob gb vb R n mb B v adj :=
 ⟨h.o.grown hg fun e=>h.n1 (Option.some.inj e),h.g.grown hg fun e=>h.n2 (Option.some.inj e),h.f.grown hg fun e=>h.n3 (Option.some.inj e),h.gr.grown hg h.n4 h.n5,h.n1,h.n2,h.n3,h.n4,h.n5⟩
theorem zeroB (w:World):(zeroValue 4).run Tryz.prog w=.ok (.bool false) w:=by kernel_rfl
def VPost (E:List (Nat×Nat)) (n mb p:Nat) (V:Nat→Prop) (w:World) (e:Ending) (w':World):Prop:=e=.returned (.tuple #[])∧w.grownBy w' (some mb)∧∃V',VisM w' n mb V'∧Vis E p V V'
theorem visit_had (E:List (Nat×Nat)) (ob gb vb R n mb B:Nat) (v:Nat→Value) (adj:Nat→List Nat) (hn:n≤1000) (p:Nat) (V:Nat→Prop) (w:World) (hp:p<n) (hv:VEnv w ob gb vb R n mb B v adj) (hm:VisM w n mb V) (hV:V p) :
 Calls Tryz.prog 143 #[.int .i64 (p:Int),.pointer (some ⟨ob,0,none⟩),.pointer (some ⟨gb,0,none⟩),.pointer (some ⟨vb,0,none⟩)] w (VPost E n mb p V w):=by
 have hP:Hid (∀e,e=.returned (.tuple #[])→VPost E n mb p V w e w):=fun e he=>⟨he,World.grownBy.refl _ _,V,hm,Vis.had hV⟩;obtain⟨c,f,hM,_,hf⟩:=hm;have hlook:=hM.look keyI Tryz.underlying112 (zeroB w) (key_i Tryz.underlying3 (a:=(p:Int)) (by omega) (by omega));rw[hf p hp,if_pos hV]at hlook;replace hlook:(Instr.lookup 112 (.map (some mb)) (.int .i64 (p:Int)) false).run Tryz.prog w=.ok (.bool true) w:=hlook;have c1:=hv.o.cell (j:=0) rfl;have c2:=hv.o.lt;clear hM hf hv hV;go_enter Tryz.func143,Tryz.ntmps143;go_wp2;go_end0;exact hP.out _ rfl
theorem visit_any (E:List (Nat×Nat)) (ob gb vb R n mb B:Nat) (v:Nat→Value) (adj:Nat→List Nat) (hn:n≤1000) (hE:∀p q,p<n→(q∈adj p↔(p,q)∈E)) (hIn:InN n E) (hlen:∀p,p<n→(adj p).length≤10000000) :
 ∀ (N p:Nat) (V:Nat→Prop) (w:World),p<n→VEnv w ob gb vb R n mb B v adj→VisM w n mb V→unv n V≤N →
  Calls Tryz.prog 143 #[.int .i64 (p:Int),.pointer (some ⟨ob,0,none⟩),.pointer (some ⟨gb,0,none⟩),.pointer (some ⟨vb,0,none⟩)] w (VPost E n mb p V w):=by
 intro N
 induction N with
 | zero =>
   intro p V w hp hv hm hN;exact visit_had E ob gb vb R n mb B v adj hn p V w hp hv hm (Classical.byContradiction fun c=>by have:=unv_less hp c;omega)
 | succ N ih =>
   intro p V w hp hv hm hN
   by_cases hV:V p
   · exact visit_had E ob gb vb R n mb B v adj hn p V w hp hv hm hV
   · have hu1:=unv_less hp hV;have hVL:Hid (VisL E p [] V fun x=>V x∨x=p):=VisL.start E p V;obtain⟨c,f,hM,hcn,hf⟩:=hm;have hk1:=key_i Tryz.underlying3 (a:=(p:Int)) (by omega) (by omega);have hlook:=hM.look keyI Tryz.underlying112 (zeroB w) hk1;rw[hf p hp,if_neg hV]at hlook;replace hlook:(Instr.lookup 112 (.map (some mb)) (.int .i64 (p:Int)) false).run Tryz.prog w=.ok (.bool false) w:=hlook;obtain⟨w1,hrun,hM1,hg1⟩:=hM.put κi_inj keyI Tryz.underlying112 (by unfold maxLen;omega) hk1 (.bool true)
     have hV1:Hid (VisM w1 n mb fun x=>V x∨x=p):=by
      refine⟨_,_,hM1,?_,fun x hx=>?_⟩
      · rw[hf p hp,if_neg hV]
        show c+1+_≤n
        omega
      · by_cases e:x=p
        · subst e;rw[putF_same,if_pos (.inr rfl)]
        · rw[putF_other (fun h=>e (by omega)),hf x hx]
          by_cases h2:V x
          · rw[if_pos h2,if_pos (.inl h2)]
          · rw[if_neg h2,if_neg fun h=>h.elim h2 e]
     have hv1:=Lib.hid (hv.grown hg1);have hg1':=Lib.hid hg1;have hN1:unv n (fun x=>V x∨x=p)≤N:=by omega
     have c1:=hv.o.cell (j:=0) rfl;have c2:=hv.o.lt;have d1:=hv1.out.o.cell (j:=0) rfl;have d2:=hv1.out.g.cell (j:=0) rfl;have d3:=hv1.out.gr.hd p hp;have d4:=hv1.out.gr.lt;have hrow:=hv.gr.rows p hp;have hvE:=Lib.hid hv;have hgm:Hid ((v p).ownBlock≠some mb):=hv.n5 p hp;have hlp:=hlen p hp;have p0:(0:Int)≤(p:Int):=by omega
     have p1:(p:Int)<(n:Int):=by omega
     have ihH:=Lib.hid ih;have hall:Hid (∀q,(p,q)∈E→q∈adj p):=fun q h=>(hE p q hp).2 h;have hmem:Hid (∀q,q∈adj p→(p,q)∈E∧q<n):=fun q h=>⟨(hE p q hp).1 h,(hIn _ ((hE p q hp).1 h)).2⟩;clear hM hM1 hf hg1 hk1 ih hlen
     rcases own_ints hrow with⟨hnil,hadj⟩ | ⟨g,cap,hsl,_,hgl,_,hcells⟩
     · rw [hnil]at d3;have hP:Hid (∀e,e=.returned (.tuple #[])→VPost E n mb p V w e w1):=fun e he=>⟨he,hg1'.out,_,hV1.out,hVL.out.end fun q h=>by have:=hall.out q h;rw[hadj]at this;exact this⟩;clear hrow hnil hadj;go_enter Tryz.func143,Tryz.ntmps143;go_wp2
       go_loopw [17] (fun i wr=>i=.int .i64 0∧wr=w1) (fun _ _=>0)
       case atStart=>exact⟨rfl,rfl⟩
       case round =>
        obtain⟨rfl,rfl⟩:=hrel;go_wp2;go_end0;exact hP.out _ rfl
     · rw [hsl]at d3;rw[hsl]at hgm;have hgne:g≠mb:=fun e=>hgm.out (by rw[e];rfl);replace hcells:=Lib.hid hcells;have hP:Hid (∀e wz V',e=.returned (.tuple #[])→w.grownBy wz (some mb)→VisM wz n mb V'→VisL E p (adj p) V V'→VPost E n mb p V w e wz):=fun e wz V' h1 h2 h3 h4=>⟨h1,h2,V',h3,h4.end fun q h=>hall.out q h⟩;clear hrow hsl;go_enter Tryz.func143,Tryz.ntmps143;go_wp2
       go_loopw [17] (fun i wr=>∃(j:Nat) (V':Nat→Prop),j≤(adj p).length∧i=.int .i64 (j:Int)∧Hid (w.grownBy wr (some mb))∧Hid (VisM wr n mb V')∧Hid (VisL E p ((adj p).take j) V V')) (fun i _=>(adj p).length-(intOf i).toNat)
       case atStart=>exact⟨0,_,Nat.zero_le _,rfl,hg1',hV1,hVL⟩
       case round =>
        obtain⟨j,V',hj,rfl,hg,hm2,hvl⟩:=hrel;clear hlook hrun c1 c2 d1 d2 d3 d4
        by_cases hlt:j<(adj p).length
        · obtain ⟨hq1,hq2⟩:=hmem.out (adj p)[j] (List.getElem_mem hlt);have e1:=(World.cell?_of_block (a:=⟨g,j,none⟩) (hg.out.block g hgl fun e=>hgne (Option.some.inj e))).trans (hcells.out j hlt);have hvr:=Lib.hid (hvE.out.grown hg.out)
          have hun:unv n V'≤N:=Nat.le_trans (unv_mono fun x hx=>by
           rcases hx with hx | rfl
           · exact hvl.out.1 x hx
           · exact hvl.out.2.1) hN1
          have htk:Hid ((adj p).take (j+1)=(adj p).take j++[(adj p)[j]]):=List.take_succ_eq_append_getElem hlt;obtain⟨q,hq⟩:∃x,x=(adj p)[j]:=⟨_,rfl⟩;rw[←hq]at hq1 hq2 e1 htk;replace hq:=Lib.hid hq;have ihq:=Lib.hid (ihH.out q V' wr hq2 hvr.out hm2.out hun);have hedge:=Lib.hid hq1;have d1:=hvr.out.f.cell (j:=0) rfl;have d2:=hvr.out.f.lt;have j0:(0:Int)≤(j:Int):=by omega
          have j1:(j:Int)<((adj p).length:Int):=by omega
          clear hq1 hun
          go_wp2_with fail
          refine ihq.out.mono ?_;rintro e w2 ⟨rfl,hg2,V2,hm3,hvis⟩;have hg3:=Lib.hid (hg.out.trans hg2);have hm4:=Lib.hid hm3;have hvl2:Hid (VisL E p ((adj p).take (j+1)) V V2):=by rw[htk.out];exact hvl.out.step hedge.out hvis
          clear hg2 hm3 hvis e1 d1 d2;go_wp2
          go_roundw
          case rel=>exact⟨j+1,V2,by omega,by go_num,hg3,hm4,hvl2⟩
          case measure=>simp[intOf];omega
        · obtain rfl:j=(adj p).length:=by omega
          have hvl3:Hid (VisL E p (adj p) V V'):=by have h:=hvl.out;rwa [List.take_length]at h
          go_wp2;go_end0;exact hP.out _ _ V' rfl hg.out hm2.out hvl3.out
end Ci
end
section
open Go.RowKit Go.Shelf
namespace Ci
open Nt
open Classical
def ReachM (w:World) (n mb:Nat) (E:List (Nat×Nat)) (p:Nat):Prop:=∃c f,MapK Tryz.prog 3 κi w mb c f∧∀x:Nat,x<n→f (x:Int)=if Reach E p x then some (.bool true) else none
def RPost (E:List (Nat×Nat)) (n p:Nat) (w:World) (e:Ending) (w':World):Prop:=(∃mb,e=.returned (.map (some mb))∧w.heap.size≤mb∧ReachM w' n mb E p)∧Below w.heap.size w w'
theorem reached_any (E:List (Nat×Nat)) (R n B p:Nat) (v:Nat→Value) (adj:Nat→List Nat) (w:World) (hn:n≤1000) (hE:∀p q,p<n→(q∈adj p↔(p,q)∈E)) (hIn:InN n E) (hlen:∀p,p<n→(adj p).length≤10000000) (hp:p<n) (hG:Gr w B R n v adj) :
 Calls Tryz.prog 95 #[.slice (some ⟨R,0,none⟩) n n,.int .i64 (p:Int)] w (RPost E n p w):=by
 have hmm:=@run_makeMap Tryz.prog
 have kv:=Lib.hid (fun ob gb vb mb W hv hm=>visit_any E ob gb vb R n mb B v adj hn hE hIn hlen n p (fun _=>False) W hp hv hm (by
  have:=List.length_filter_le (fun x:Nat=>bV (¬False)) (List.range n);rw[List.length_range]at this;exact this))
 have s1:(w.alloc (.cells #[.slice (some ⟨R,0,none⟩) n n] 84)).heap.size=w.heap.size+1:=by simp
 have s2:((w.alloc (.cells #[.slice (some ⟨R,0,none⟩) n n] 84)).alloc (.map #[] 0)).heap.size=w.heap.size+1+1:=by simp
 have s3:(((w.alloc (.cells #[.slice (some ⟨R,0,none⟩) n n] 84)).alloc (.map #[] 0)).alloc (.cells #[.map (some (w.heap.size+1))] 112)).heap.size=w.heap.size+1+1+1:=by simp
 have g1:Bk (w.alloc (.cells #[.slice (some ⟨R,0,none⟩) n n] 84)) w.heap.size 84 [.slice (some ⟨R,0,none⟩) n n]:=Bk.new w _ _;have m2:MapK Tryz.prog 3 κi ((w.alloc (.cells #[.slice (some ⟨R,0,none⟩) n n] 84)).alloc (.map #[] 0)) (w.heap.size+1) 0 (fun _=>none):=by have h:=MapK.made (w.alloc (.cells #[.slice (some ⟨R,0,none⟩) n n] 84)) Tryz.prog 3 κi;rwa [s1]at h
 have o3:Bk (((w.alloc (.cells #[.slice (some ⟨R,0,none⟩) n n] 84)).alloc (.map #[] 0)).alloc (.cells #[.map (some (w.heap.size+1))] 112)) (w.heap.size+1+1) 112 [.map (some (w.heap.size+1))]:=by have h:=Bk.new ((w.alloc (.cells #[.slice (some ⟨R,0,none⟩) n n] 84)).alloc (.map #[] 0)) 112 [.map (some (w.heap.size+1))];rwa [s2]at h
 have f4:Bk ((((w.alloc (.cells #[.slice (some ⟨R,0,none⟩) n n] 84)).alloc (.map #[] 0)).alloc (.cells #[.map (some (w.heap.size+1))] 112)).alloc (.cells #[.nilFunc] 143)) (w.heap.size+1+1+1) 143 [.nilFunc]:=by have h:=Bk.new (((w.alloc (.cells #[.slice (some ⟨R,0,none⟩) n n] 84)).alloc (.map #[] 0)).alloc (.cells #[.map (some (w.heap.size+1))] 112)) 143 [.nilFunc];rwa [s3]at h
 have hB4:Hid (Below w.heap.size w ((((w.alloc (.cells #[.slice (some ⟨R,0,none⟩) n n] 84)).alloc (.map #[] 0)).alloc (.cells #[.map (some (w.heap.size+1))] 112)).alloc (.cells #[.nilFunc] 143))):=((((Below.refl _ w).alloc (Nat.le_refl _) _).alloc (by simp) _).alloc (by simp<;>omega) _).alloc (by simp<;>omega) _;have hB5:Hid (Below w.heap.size w ((((w.alloc (.cells #[.slice (some ⟨R,0,none⟩) n n] 84)).alloc (.map #[] 0)).alloc (.cells #[.map (some (w.heap.size+1))] 112)).alloc (.cells #[.func (.func 143) #[] #[.pointer (some ⟨w.heap.size+1+1,0,none⟩),.pointer (some ⟨w.heap.size,0,none⟩),.pointer (some ⟨w.heap.size+1+1+1,0,none⟩)]] 143))):=((((Below.refl _ w).alloc (Nat.le_refl _) _).alloc (by simp) _).alloc (by simp<;>omega) _).alloc (by simp<;>omega) _;have f5:Bk ((((w.alloc (.cells #[.slice (some ⟨R,0,none⟩) n n] 84)).alloc (.map #[] 0)).alloc (.cells #[.map (some (w.heap.size+1))] 112)).alloc (.cells #[.func (.func 143) #[] #[.pointer (some ⟨w.heap.size+1+1,0,none⟩),.pointer (some ⟨w.heap.size,0,none⟩),.pointer (some ⟨w.heap.size+1+1+1,0,none⟩)]] 143)) (w.heap.size+1+1+1) 143 [.func (.func 143) #[] #[.pointer (some ⟨w.heap.size+1+1,0,none⟩),.pointer (some ⟨w.heap.size,0,none⟩),.pointer (some ⟨w.heap.size+1+1+1,0,none⟩)]]:=by have h:=Bk.new (((w.alloc (.cells #[.slice (some ⟨R,0,none⟩) n n] 84)).alloc (.map #[] 0)).alloc (.cells #[.map (some (w.heap.size+1))] 112)) 143 [.func (.func 143) #[] #[.pointer (some ⟨w.heap.size+1+1,0,none⟩),.pointer (some ⟨w.heap.size,0,none⟩),.pointer (some ⟨w.heap.size+1+1+1,0,none⟩)]];rwa [s3]at h
 have c1:=f4.cell (j:=0) rfl;have c2:=f4.frozen 0;have c3:=f4.lt
 have hV5:Hid (VEnv ((((w.alloc (.cells #[.slice (some ⟨R,0,none⟩) n n] 84)).alloc (.map #[] 0)).alloc (.cells #[.map (some (w.heap.size+1))] 112)).alloc (.cells #[.func (.func 143) #[] #[.pointer (some ⟨w.heap.size+1+1,0,none⟩),.pointer (some ⟨w.heap.size,0,none⟩),.pointer (some ⟨w.heap.size+1+1+1,0,none⟩)]] 143)) (w.heap.size+1+1) w.heap.size (w.heap.size+1+1+1) R n (w.heap.size+1) B v adj):=by
  have hRl:=hG.lt;refine⟨o3.alloc _,((g1.alloc _).alloc _).alloc _,f5,hG.below (hB5.out),by omega,by omega,by omega,by omega,fun i hi e=>?_⟩;have:=((hG.rows i hi).lt _ e).2;omega
 have hM5:Hid (VisM ((((w.alloc (.cells #[.slice (some ⟨R,0,none⟩) n n] 84)).alloc (.map #[] 0)).alloc (.cells #[.map (some (w.heap.size+1))] 112)).alloc (.cells #[.func (.func 143) #[] #[.pointer (some ⟨w.heap.size+1+1,0,none⟩),.pointer (some ⟨w.heap.size,0,none⟩),.pointer (some ⟨w.heap.size+1+1+1,0,none⟩)]] 143)) n (w.heap.size+1) fun _=>False):=by
  refine⟨0,_,(m2.alloc _).alloc _,?_,fun x _=>(if_neg fun h=>h).symm⟩;have:=List.length_filter_le (fun x:Nat=>bV (¬False)) (List.range n);rw[List.length_range]at this
  show 0+((List.range n).filter fun x=>bV (¬False)).length≤n
  omega
 have o5:=hV5.out.o.cell (j:=0) rfl;clear s1 s2 s3 g1 m2 o3 f4 f5 hB4;replace hG:=Lib.hid hG;clear hE hIn hlen;go_enter Tryz.func95,Tryz.ntmps95
 go_wp2_with fail
 refine(kv.out _ _ _ _ _ hV5.out hM5.out).mono ?_;rintro e w6 ⟨rfl,hg6,V',hm6,hvis⟩;have o6:=(hV5.out.grown hg6).o.cell (j:=0) rfl;have o7:=(hV5.out.grown hg6).o.lt;have hB6:Hid (Below w.heap.size w w6):=hB5.out.grown hg6 hB5.out.size (fun b e=>by cases e;exact Nat.le_succ _)
 have hR6:Hid (ReachM w6 n (w.heap.size+1) E p):=by
  obtain⟨c,f,h1,_,h2⟩:=hm6;refine⟨c,f,h1,fun x hx=>?_⟩;rw[h2 x hx]
  by_cases hr:Reach E p x
  · rw[if_pos hr,if_pos ((hvis.reach x).2 hr)]
  · rw[if_neg hr,if_neg fun h=>hr ((hvis.reach x).1 h)]
 clear hg6 hm6 hvis o5 c1 c2 c3;go_wp2;go_ret;exact⟨⟨_,rfl,Nat.le_succ _,hR6.out⟩,hB6.out⟩
end Ci
end
section
open Go.RowKit Go.Shelf
namespace Ci
open Nt
theorem own_slice {w:World} {base m:Nat} {e:TypeId} {v:Value} {xs:List Value} (h:w.ownsRow base e 1 v (m+1) xs):∃g cap,v=.slice (some ⟨g,0,none⟩) (m+1) cap:=by
 rcases h.2 with⟨_,h0⟩ | ⟨g,cap,_,rfl,_⟩
 · omega
 · exact⟨g,cap,rfl⟩
def TurnI (n i j:Nat) (adj T:Nat→List Nat):Prop:=(∀q x,q<n→(x∈T q↔(x<i∧q∈adj x)∨(x=i∧q∈(adj i).take j)))∧∀q,(T q).length≤1000*i+j
theorem TurnI.next {n i:Nat} {adj T:Nat→List Nat} (h:TurnI n i (adj i).length adj T) (hl:(adj i).length≤1000):TurnI n (i+1) 0 adj T:=by
 refine⟨fun q x hq=>?_,fun q=>by have:=h.2 q;omega⟩;rw[h.1 q x hq,List.take_length];constructor
 · rintro(⟨a,b⟩ | ⟨rfl,b⟩)
   · exact .inl ⟨by omega,b⟩
   · exact .inl ⟨by omega,b⟩
 · rintro (⟨a,b⟩ | ⟨_,b⟩)
   · by_cases e:x=i
     · subst e;exact .inr ⟨rfl,b⟩
     · exact .inl ⟨by omega,b⟩
   · simp at b
theorem TurnI.step {n i j:Nat} {adj T:Nat→List Nat} (h:TurnI n i j adj T) (hj:j<(adj i).length):TurnI n i (j+1) adj (setL T (adj i)[j] i):=by
 refine⟨fun q x hq=>?_,fun q=>?_⟩
 · unfold setL;rw[List.take_succ_eq_append_getElem hj]
   by_cases e:q=(adj i)[j]
   · rw [if_pos e,List.mem_append,h.1 q x hq,List.mem_append,List.mem_singleton,List.mem_singleton];constructor
     · rintro((a | ⟨a,b⟩) | a)
       · exact .inl a
       · exact .inr ⟨a,.inl b⟩
       · exact .inr ⟨a,.inr e⟩
     · rintro(a | ⟨a,b | _⟩)
       · exact .inl (.inl a)
       · exact .inl (.inr ⟨a,b⟩)
       · exact .inr a
   · rw [if_neg e,h.1 q x hq,List.mem_append,List.mem_singleton];constructor
     · rintro(a | ⟨a,b⟩)
       · exact .inl a
       · exact .inr ⟨a,.inl b⟩
     · rintro(a | ⟨a,b | b⟩)
       · exact .inl a
       · exact .inr ⟨a,b⟩
       · exact absurd b e
 · unfold setL;have:=h.2 q
   split
   · rw[List.length_append,List.length_singleton];omega
   · omega
theorem turned_any (R n B:Nat) (v:Nat→Value) (adj:Nat→List Nat) (w:World) (hn:n≤100) (hlen:∀p,p<n→(adj p).length≤1000) (hlt:∀p q,p<n→q∈adj p→q<n) (hG:Gr w B R n v adj) :
 Calls Tryz.prog 94 #[.slice (some ⟨R,0,none⟩) n n] w fun e w'=>(∃R' v' T,e=.returned (.slice (some ⟨R',0,none⟩) n n)∧Gr w' w.heap.size R' n v' T∧TurnI n n 0 adj T)∧Below w.heap.size w w':=by
 -- for 45
 have hmk:=run_make_row' (P:=Tryz.prog) 84 26 (.slice none 0 0) 24 Tryz.underlying84 infoG rfl .i64 .i64 n (by omega) (by omega);have hG0:Hid (Gr (w.alloc (.cells (madeCells #[(.slice none 0 0:Value)] n) 26)) w.heap.size w.heap.size n (fun _=>.slice none 0 0) fun _=>[]):=Gr.start w (Nat.le_refl _) n 26;have hB0:Hid (Below w.heap.size w (w.alloc (.cells (madeCells #[(.slice none 0 0:Value)] n) 26))):=(Below.refl _ w).alloc (Nat.le_refl _) _;have hT0:Hid (TurnI n 0 0 adj fun _=>[]):=⟨fun q x _=>⟨fun h=>(by cases h),fun h=>(by rcases h with⟨h,_⟩ | ⟨_,h⟩<;>simp at h)⟩,fun _=>Nat.zero_le _⟩;obtain⟨i0,hi0,hzz⟩:=Option.map_eq_some_iff.1 infoI;simp only[Prod.mk.injEq]at hzz;obtain⟨hz0,hz1,hz2⟩:=hzz;replace hi0:=Lib.hid hi0;replace hz0:=Lib.hid hz0;replace hz1:=Lib.hid hz1;replace hz2:=Lib.hid hz2;replace hG:=Lib.hid hG;replace hlen:=Lib.hid hlen;replace hlt:=Lib.hid hlt;go_enter Tryz.func94,Tryz.ntmps94;go_wp2;clear hmk
 go_loopw [13] (fun ix wr=>∃(i:Nat) (v':Nat→Value) (T:Nat→List Nat),i≤n∧ix=.int .i64 (i:Int)∧Hid (Below w.heap.size w wr)∧Hid (Gr wr w.heap.size w.heap.size n v' T)∧Hid (TurnI n i 0 adj T)) (fun ix _=>n-(intOf ix).toNat)
 case atStart=>exact⟨0,_,_,Nat.zero_le _,rfl,hB0,hG0,hT0⟩
 case round =>
  obtain⟨i,v',T,hi,rfl,hB,hGt,hT⟩:=hrel;clear hB0 hG0 hT0
  by_cases hin:i<n
  · have hli:=hlen.out i hin;have hd:=(hB.out.cell (p:=⟨R,i,none⟩) hG.out.lt).trans (hG.out.hd i hin);have j0:(0:Int)≤(i:Int):=by omega
    have j1:(i:Int)<(n:Int):=by omega
    rcases own_ints (hG.out.rows i hin) with⟨hnil,hadj⟩ | ⟨g,cap,hsl,_,hgl,_,hcells⟩
    · rw [hnil]at hd
      have hT2:Hid (TurnI n (i+1) 0 adj T):=by
       have h:=hT.out;refine TurnI.next ?_ hli;rw[hadj];exact h
      clear hnil hadj;go_wp2
      go_loopw [20] (fun ix wz=>ix=.int .i64 0∧wz=wr) (fun _ _=>0)
      case atStart=>exact⟨rfl,rfl⟩
      case round =>
       obtain⟨rfl,rfl⟩:=hrel;go_wp2;exact⟨⟨i+1,v',T,by omega,by go_num,hB,hGt,hT2⟩,by simp only[intOf];omega⟩
    · rw [hsl]at hd;replace hcells:=Lib.hid hcells;clear hsl;go_wp2
      go_loopw [20] (fun ix wz=>∃(j:Nat) (v2:Nat→Value) (T2:Nat→List Nat),j≤(adj i).length∧ix=.int .i64 (j:Int)∧Hid (Below w.heap.size w wz)∧Hid (Gr wz w.heap.size w.heap.size n v2 T2)∧Hid (TurnI n i j adj T2)) (fun ix _=>(adj i).length-(intOf ix).toNat)
      case atStart=>exact⟨0,v',T,Nat.zero_le _,rfl,hB,hGt,hT⟩
      case round =>
       obtain⟨j,v2,T2,hj,rfl,hB2,hG2,hT2⟩:=hrel
       by_cases hjl:j<(adj i).length
       · have hq:=hlt.out i (adj i)[j] hin (List.getElem_mem hjl);have e1:=(hB2.out.cell (p:=⟨g,j,none⟩) hgl).trans (hcells.out j hjl);have hT3:=Lib.hid (hT2.out.step hjl);obtain⟨q,hqe⟩:∃x,x=(adj i)[j]:=⟨_,rfl⟩;rw[←hqe]at hq e1 hT3;replace hqe:=Lib.hid hqe;obtain⟨vh,hvh⟩:∃x,x=v2 q:=⟨_,rfl⟩;have hhd:=hG2.out.hd q hq;have hfr:=hG2.out.fr q;have hlR:=hG2.out.lt;have hrow:=hG2.out.rows q hq;rw[←hvh]at hhd hrow;have hnR:Hid (vh.ownBlock≠some w.heap.size):=by rw[hvh];exact hG2.out.ne q hq
         replace hvh:=Lib.hid hvh;replace hrow:=Lib.hid hrow;have hlT:=hT2.out.2 q;have hsz:=hB2.out.size;have hBa:Hid (Below w.heap.size w (wr.alloc (.cells #[.int .i64 (i:Int)] 3))):=hB2.out.alloc hB2.out.size _;have hGa:=Lib.hid (hG2.out.alloc (.cells #[.int .i64 (i:Int)] 3));have hca:Hid (World.cell? (wr.alloc (.cells #[.int .i64 (i:Int)] 3)) ⟨w.heap.size,q,none⟩=some vh):=by rw[hvh.out];exact hGa.out.hd q hq
         have q0:(0:Int)≤(q:Int):=by omega
         have q1:(q:Int)<(n:Int):=by omega
         have q2:(0:Int)≤(j:Int):=by omega
         have q3:(j:Int)<((adj i).length:Int):=by omega
         go_wp2_with (at_builtin;refine wpList_append_new _ rfl _ _ 26 rfl w.heap.size 3 i0 (.int .i64 0) 1 8 Tryz.underlying26 hi0.out hz0.out hz1.out hz2.out rfl (by decide) vh (T2 q).length (intsL (T2 q)) rfl (hrow.out.alloc _) ⟨wr.heap.size,0,none⟩ 1 1 [.int .i64 (i:Int)] rfl rfl (head_new _ _ _) (one_cell1 _ rfl) (by omega) (by unfold maxLen;omega) (by omega) (by simp;omega) ?_;intro vb wb hob hgb hnb;have hG9:Hid (Gr (wb.setCell ⟨w.heap.size,q,none⟩ vb) w.heap.size w.heap.size n (fun x=>if x=q then vb else v2 x) (setL T2 q i)):=(hGa.out.step hq (by rw[←hvh.out];exact hgb) hob (by rw[←hvh.out];exact hnb));have hB9:Hid (Below w.heap.size w (wb.setCell ⟨w.heap.size,q,none⟩ vb)):=((hBa.out.grown hgb hBa.out.size (fun b e=>(hrow.out.lt b e).1)).setCell (p:=⟨w.heap.size,q,none⟩) (Nat.le_refl _) _);have hbk:=hgb.block w.heap.size hGa.out.lt (fun e=>hnR.out e.symm);have y1:=(World.cell?_of_block (a:=⟨w.heap.size,q,none⟩) hbk).trans hca.out;have y2:=(World.frozen?_of_block (a:=⟨w.heap.size,q,none⟩) hbk).trans (hGa.out.fr q);have y3:w.heap.size<wb.heap.size:=Nat.lt_of_lt_of_le hGa.out.lt hgb.size;obtain⟨g9,cap9,rfl⟩:=own_slice hob;clear hob hgb hnb hbk hhd hfr)
         exact⟨⟨j+1,_,_,by omega,by go_num,hB9,hG9,hT3⟩,by simp only[intOf];omega⟩
       · obtain rfl:j=(adj i).length:=by omega
         have hT4:=Lib.hid (hT2.out.next hli);go_wp2;exact⟨⟨i+1,v2,T2,by omega,by go_num,hB2,hG2,hT4⟩,by simp only[intOf];omega⟩
  · obtain rfl:i=n:=by omega
    go_wp2;go_ret;exact⟨⟨_,v',T,rfl,hGt.out,hT.out⟩,hB.out⟩
end Ci
end
section
open Go.RowKit Go.Shelf
namespace Ci
open Nt
structure Kp (xs:List Nat) (w w':World):Prop where
 os:w'.os=w.os
 tape:w'.tape=w.tape
 output:w'.output=w.output
 size:w.heap.size≤w'.heap.size
 block:∀k,k<w.heap.size→k∉xs→w'.heap[k]? = w.heap[k]?
section
variable {xs:List Nat} {w w' w'':World} {B R n i b c mb:Nat} {v:Nat→Value} {adj ls:Nat→List Nat} {α:Type} {P:Program} {k:TypeId} {κ:α→Lit} {f:α→Option Value} {t:TypeId} {cs:List Value}
theorem Kp.refl (xs:List Nat) (w:World):Kp xs w w:=⟨rfl,rfl,rfl,Nat.le_refl _,fun _ _ _=>rfl⟩
theorem Kp.below (h:Kp xs w w') (hb:Below w'.heap.size w' w''):Kp xs w w'' :=
 ⟨hb.os.trans h.os,hb.tape.trans h.tape,hb.output.trans h.output,Nat.le_trans h.size hb.size,fun k hk hx=>(hb.block k (Nat.lt_of_lt_of_le hk h.size)).trans (h.block k hk hx)⟩
theorem Kp.alloc (h:Kp xs w w') (o:Obj):Kp xs w (w'.alloc o):=h.below ((Below.refl _ w').alloc (Nat.le_refl _) o)
theorem Kp.drew (h:Kp xs w w'):Kp xs w w'.drew:=h.below (Below.refl _ w').drew
theorem Kp.grown {row:Option Nat} (h:Kp xs w w') (hg:w'.grownBy w'' row) (hr:∀b,row=some b→b∈xs∨w.heap.size≤b):Kp xs w w'' :=
 ⟨hg.os.trans h.os,hg.tape.trans h.tape,hg.output.trans h.output,Nat.le_trans h.size hg.size,fun k hk hx=>(hg.block k (Nat.lt_of_lt_of_le hk h.size) (fun e=>by
   rcases hr k e.symm with h1 | h1
   · exact hx h1
   · omega)).trans (h.block k hk hx)⟩
theorem grown_set (w:World) (a:Addr) (u:Value):w.grownBy (w.setCell a u) (some a.block):=⟨rfl,rfl,rfl,by simp,fun k _ hk=>Below.heap_setCell _ _ _ _ (fun e=>hk (by rw[e]))⟩
theorem grown_alloc (w:World) (o:Obj) (row:Option Nat):w.grownBy (w.alloc o) row:=⟨rfl,rfl,rfl,by simp,fun k hk _=>heap_alloc_old w o hk⟩
theorem Kp.set (h:Kp xs w w') {a:Addr} (u:Value) (ha:a.block∈xs∨w.heap.size≤a.block):Kp xs w (w'.setCell a u):=h.grown (grown_set w' a u) fun b e=>by cases e;exact ha
theorem Kp.to_below (h:Kp xs w w') {w0:World} (h0:Below w0.heap.size w0 w) (hx:∀x,x∈xs→w0.heap.size≤x):Below w0.heap.size w0 w' :=
 h0.trans ⟨h.os,h.tape,h.output,h.size,fun k hk=>h.block k (Nat.lt_of_lt_of_le hk h0.size) fun e=>by have:=hx k e;omega⟩
theorem Kp.heap (h:Kp xs w w') (hb:b<w.heap.size) (hx:b∉xs):w'.heap[b]? = w.heap[b]?:=h.block b hb hx
theorem Gr.of_block (h:Gr w B R n v adj) (hs:w.heap.size≤w'.heap.size) (hR:w'.heap[R]? = w.heap[R]?) (hv:∀i b,i<n→(v i).ownBlock=some b→w'.heap[b]? = w.heap[b]?):Gr w' B R n v adj :=
 ⟨Nat.lt_of_lt_of_le h.lt hs,fun i hi=>(World.cell?_of_block (a:=⟨R,i,none⟩) hR).trans (h.hd i hi),fun i=>(World.frozen?_of_block (a:=⟨R,i,none⟩) hR).trans (h.fr i),fun i hi=>by
   obtain⟨h1,h2⟩:=h.rows i hi;refine⟨h1,?_⟩
   rcases h2 with h2 | ⟨g,cap,cur,hv2,hg,hh,rest⟩
   · exact .inl h2
   · exact .inr ⟨g,cap,cur,hv2,hg,(hv i g hi (by rw[hv2];rfl)).trans hh,rest⟩,h.apart,h.ne,h.lowR⟩
theorem Gr.kp (h:Gr w B R n v adj) (hk:Kp xs w w') (hR:R∉xs) (hv:∀i b,i<n→(v i).ownBlock=some b→b∉xs):Gr w' B R n v adj :=
 h.of_block hk.size (hk.block R h.lt hR) fun i b hi e=>hk.block b ((h.rows i hi).lt b e).2 (hv i b hi e)
theorem MapK.kp (h:MapK P k κ w b c f) (hk:Kp xs w w') (hb:b∉xs):MapK P k κ w' b c f:=h.block (hk.block b h.lt hb)
theorem Bk.kp (h:Bk w b t cs) (hk:Kp xs w w') (hb:b∉xs):Bk w' b t cs:=by
 have e:=hk.block b h.lt hb;exact(show w'.heap[b]? = _ from e.trans h)
structure LM (w:World) (B mb n c:Nat) (v:Nat→Value) (ls:Nat→List Nat):Prop where
 map:∃f:Int→Option Value,MapK Tryz.prog 3 κi w mb c f∧∀x:Nat,x<n→f (x:Int)=if ls x=[] then none else some (v x)
 nil:∀x,x<n→ls x=[]→v x=.slice none 0 0
 rows:∀x,x<n→w.ownsRow B 3 1 (v x) (ls x).length (intsL (ls x))
 apart:∀i j,i<n→j<n→i≠j→OffB (v i) (v j)
 ne:∀x,x<n→(v x).ownBlock≠some mb
theorem LM.lt (h:LM w B mb n c v ls):mb<w.heap.size:=by obtain⟨f,h,_⟩:=h.map;exact h.lt
theorem LM.grown {row:Option Nat} (h:LM w B mb n c v ls) (hg:w.grownBy w' row) (hm:row≠some mb) (hv:∀x b,x<n→(v x).ownBlock=some b→row≠some b):LM w' B mb n c v ls:=by
 obtain⟨f,h1,h2⟩:=h.map;refine⟨⟨f,h1.kept hg fun e=>hm e.symm,h2⟩,h.nil,fun x hx=>(h.rows x hx).kept hg ?_,h.apart,h.ne⟩
 cases hu:(v x).ownBlock with
 | none=>exact .inl rfl
 | some b=>exact .inr fun e=>hv x b hx hu e.symm
theorem LM.set (h:LM w B mb n c v ls) {a:Addr} (u:Value) (hm:a.block≠mb) (hv:∀x,x<n→(v x).ownBlock≠some a.block):LM (w.setCell a u) B mb n c v ls :=
 h.grown (grown_set w a u) (fun e=>hm (Option.some.inj e)) fun x b hx e e2=>hv x hx (by rw[e,e2])
theorem LM.alloc (h:LM w B mb n c v ls) (o:Obj):LM (w.alloc o) B mb n c v ls:=h.grown (grown_alloc w o none) (by simp) fun _ _ _ _=>by simp
theorem LM.drew (h:LM w B mb n c v ls):LM w.drew B mb n c v ls:=⟨h.map,h.nil,h.rows,h.apart,h.ne⟩
theorem LM.below (h:LM w B mb n c v ls) (hb:Below w.heap.size w w'):LM w' B mb n c v ls :=
 h.grown (row:=none) ⟨hb.os,hb.tape,hb.output,hb.size,fun k hk _=>hb.block k hk⟩ (by simp) fun _ _ _ _=>by simp
theorem LM.made (w:World) (B n:Nat):LM (w.alloc (.map #[] 0)) B w.heap.size n 0 (fun _=>.slice none 0 0) fun _=>[] :=
 ⟨⟨_,MapK.made w _ _ _,fun _ _=>(if_pos rfl).symm⟩,fun _ _ _=>rfl,fun _ _=>World.ownsRow_nil _ _ _ _,fun _ _ _ _ _ _ hb=>(by cases hb),fun _ _ h=>(by cases h)⟩
theorem zeroSl (w:World):(zeroValue 26).run Tryz.prog w=.ok (.slice none 0 0) w:=by kernel_rfl
theorem LM.look (h:LM w B mb n c v ls) {x:Nat} (hx:x<n) (hn:n≤1000):(Instr.lookup 111 (.map (some mb)) (.int .i64 (x:Int)) false).run Tryz.prog w=.ok (v x) w:=by
 obtain⟨f,h1,h2⟩:=h.map;have:=h1.look keyI Tryz.underlying111 (zeroSl w) (key_i Tryz.underlying3 (a:=(x:Int)) (by omega) (by omega));rw[this,h2 x hx]
 by_cases e:ls x=[]
 · rw[if_pos e,h.nil x hx e];rfl
 · rw[if_neg e];rfl
theorem LM.step (h:LM w B mb n c v ls) {x q:Nat} (hx:x<n) (hn:n≤1000) (hc:c<maxLen) {u:Value} (hg:w.grownBy w' (v x).ownBlock) (ho:w'.ownsRow B 3 1 u ((ls x).length+1) (intsL (ls x)++[.int .i64 (q:Int)])) (hu:u.ownBlock=(v x).ownBlock∨u.ownBlock=some w.heap.size) :
 ∃w'',(Instr.mapUpdate 111 (.map (some mb)) (.int .i64 (x:Int)) u).run Tryz.prog w'=.ok () w''∧LM w'' B mb n (if ls x=[] then c+1 else c) (fun i=>if i=x then u else v i) (setL ls x q)∧w'.grownBy w'' (some mb):=by
 obtain⟨f,h1,h2⟩:=h.map;have hmx:some mb≠(v x).ownBlock:=fun e=>h.ne x hx e.symm;have hlt:=h.lt
 have hum:u.ownBlock≠some mb:=fun e=>by
  rcases hu with hu | hu
  · exact hmx (by rw[←hu,e])
  · rw[e]at hu;simp only[Option.some.injEq]at hu;omega
 obtain⟨w'',hrun,hM,hg2⟩:=(h1.kept hg hmx).put κi_inj keyI Tryz.underlying111 hc (key_i Tryz.underlying3 (a:=(x:Int)) (by omega) (by omega)) u
 have hoff:∀i,i<n→i≠x→OffB (v i) u:=fun i hi hix b hb e=>by
  rcases hu with hu | hu
  · exact h.apart i x hi hx hix b hb (by rw[←hu,e])
  · have:=((h.rows i hi).lt b hb).2;rw[e]at hu;simp only[Option.some.injEq]at hu;omega
 have hne:setL ls x q x≠[]:=by simp[setL]
 refine⟨w'',hrun,⟨⟨putF f (x:Int) (some u),?_,fun y hy=>?_⟩,fun y hy he=>?_,fun y hy=>?_,fun i j hi hj hij=>?_,fun y hy=>?_⟩,hg2⟩
 · have e:(if (f (x:Int)).isSome then c else c+1)=if ls x=[] then c+1 else c:=by
    rw[h2 x hx]
    by_cases e:ls x=[]
    · rw[if_pos e,if_pos e];rfl
    · rw[if_neg e,if_neg e];rfl
   rw[e]at hM;exact hM
 · by_cases e:y=x
   · subst e;rw[putF_same,if_neg hne,if_pos rfl]
   · rw[putF_other (fun c=>e (by omega)),h2 y hy,if_neg e];have:setL ls x q y=ls y:=if_neg e;rw[this]
 · by_cases e:y=x
   · subst e;exact absurd he hne
   · rw[if_neg e];have:setL ls x q y=ls y:=if_neg e;rw[this]at he;exact h.nil y hy he
 · by_cases e:y=x
   · subst e;rw[if_pos rfl];have:setL ls y q y=ls y++[q]:=if_pos rfl;rw[this,List.length_append,intsL_snoc];refine ho.kept hg2 ?_
     cases hv:u.ownBlock with
     | none=>exact .inl rfl
     | some b=>exact .inr fun c=>hum (by rw[hv,c])
   · rw [if_neg e];have:setL ls x q y=ls y:=if_neg e;rw[this];refine((h.rows y hy).kept hg ?_).kept hg2 ?_
     · cases hv:(v y).ownBlock with
       | none=>exact .inl rfl
       | some b=>exact .inr fun c=>h.apart y x hy hx e b hv c.symm
     · cases hv:(v y).ownBlock with
       | none=>exact .inl rfl
       | some b=>exact .inr fun c=>h.ne y hy (by rw[hv,c])
 · by_cases e1:i=x
   · have e2:j≠x:=fun c=>hij (by rw[e1,c]);rw[if_pos e1,if_neg e2];exact fun b hb hc=>hoff j hj e2 b hc hb
   · rw[if_neg e1]
     by_cases e2:j=x
     · rw[if_pos e2];exact hoff i hi e1
     · rw[if_neg e2];exact h.apart i j hi hj hij
 · by_cases e:y=x
   · rw[if_pos e];exact hum
   · rw[if_neg e];exact h.ne y hy
theorem own_form {W:World} {base n:Nat} {e:TypeId} {u:Value} {xs:List Value} (h:W.ownsRow base e 1 u n xs):∃A cap,u=.slice A n cap:=by
 rcases h.2 with⟨rfl,rfl⟩ | ⟨g,cap,_,rfl,_⟩
 · exact⟨none,0,rfl⟩
 · exact⟨_,cap,rfl⟩
theorem own_kp {xs:List Nat} {base m:Nat} {e:TypeId} {u:Value} {l:List Value} {w:World} (h:w.ownsRow base e 1 u m l) (hk:Kp xs w w') (hb:∀b,u.ownBlock=some b→b∉xs):w'.ownsRow base e 1 u m l:=by
 obtain⟨h1,h2⟩:=h;refine⟨h1,?_⟩
 rcases h2 with h2 | ⟨g,cap,cur,hv,hg,hh,rest⟩
 · exact .inl h2
 · exact .inr ⟨g,cap,cur,hv,hg,(hk.block g (Array.getElem?_eq_some_iff.1 hh).1 (hb g (by rw[hv];rfl))).trans hh,rest⟩
structure RoI (w:World) (b n:Nat) (o:Nat→Int):Prop where
 lt:b<w.heap.size
 cell:∀x,x<n→w.cell? ⟨b,x,none⟩=some (.int .i64 (o x))
 fr:∀x,w.frozen? ⟨b,x,none⟩=false
theorem RoI.of_block {o:Nat→Int} (h:RoI w b n o) (hs:w.heap.size≤w'.heap.size) (hb:w'.heap[b]? = w.heap[b]?):RoI w' b n o :=
 ⟨Nat.lt_of_lt_of_le h.lt hs,fun x hx=>(World.cell?_of_block (a:=⟨b,x,none⟩) hb).trans (h.cell x hx),fun x=>(World.frozen?_of_block (a:=⟨b,x,none⟩) hb).trans (h.fr x)⟩
theorem RoI.below {o:Nat→Int} (h:RoI w b n o) (hb:Below w.heap.size w w'):RoI w' b n o:=h.of_block hb.size (hb.block b h.lt)
theorem RoI.grown {o:Nat→Int} {row:Option Nat} (h:RoI w b n o) (hg:w.grownBy w' row) (hr:row≠some b):RoI w' b n o:=h.of_block hg.size (hg.block b h.lt fun e=>hr e.symm)
theorem RoI.alloc {o:Nat→Int} (h:RoI w b n o) (x:Obj):RoI (w.alloc x) b n o:=h.below ((Below.refl _ w).alloc (Nat.le_refl _) x)
theorem RoI.set {o:Nat→Int} (h:RoI w b n o) {x:Nat} (hx:x<n) (r:Int):RoI (w.setCell ⟨b,x,none⟩ (.int .i64 r)) b n (setI o x r):=by
 refine⟨by simpa using h.lt,fun y hy=>?_,fun y=>by simpa using h.fr y⟩
 by_cases e:y=x
 · subst e;rw[setI_same];exact World.cell?_setCell_same _ _ _ (h.cell y hy)
 · rw[setI_other e,World.cell?_setCell_other _ _ _ _ (fun c=>by injection c with _ c2;first | exact e c2 | exact e c2.symm)];exact h.cell y hy
theorem RoI.made (w:World) (n:Nat) (t:TypeId):RoI (w.alloc (.cells (madeCells #[.int .i64 0] n) t)) w.heap.size n fun _=>0:=by
 have h:=heap_alloc_new w (.cells (madeCells #[(.int .i64 0:Value)] n) t);refine⟨by simp,fun x hx=>?_,fun x=>by simp only[World.frozen?,h];simp⟩;simp only[World.cell?,h];simp[madeCells,hx];rw[Nat.mod_one];rfl
theorem RoI.of_row {r:Int} {t:TypeId} (h:w.heap[b]? = some (.cells (List.replicate n (.int .i64 r)).toArray t (0,0))):RoI w b n fun _=>r:=by
 refine⟨(Array.getElem?_eq_some_iff.1 h).1,fun x hx=>?_,fun x=>by simp[World.frozen?,h]⟩;simp[World.cell?,h,hx]
theorem RoI.congr {o o':Nat→Int} (h:RoI w b n o) (e:∀x,x<n→o x=o' x):RoI w b n o':=⟨h.lt,fun x hx=>by rw[←e x hx];exact h.cell x hx,h.fr⟩
end
end Ci
end
section
open Go.RowKit Go.Shelf
namespace Nt
theorem okQ_add {p q:Rat} (hp:ShortQ p) (hq:ShortQ q):OkQ (p+q):=okQ_dg (Dg.add (k:=mx1) (m:=mx1) hp hq) (by rw[mx1_eq];omega)
theorem rawSz_rq {q:Rat} (h:OkQ q):rawSz (rq q):=by
 have:=size_of_valid (valid_qv h);unfold rawSz rq;exact⟨by have:=this.1;dsimp only;omega,by have:=this.2;dsimp only;omega⟩
theorem own_below {w w':World} {B:Nat} {t:TypeId} {size:Nat} {v:Value} {n:Nat} {xs:List Value} (h:w.ownsRow B t size v n xs) (hb:Below w.heap.size w w'):w'.ownsRow B t size v n xs :=
 h.kept (row:=none) ⟨hb.os,hb.tape,hb.output,hb.size,fun k hk _=>hb.block k hk⟩ (by cases hv:v.ownBlock<;>simp)
end Nt
end
section
open Go.RowKit Go.Shelf
namespace Nt
theorem elimRow_ok {n k i:Nat} {M M':Mx} (hO:∀a b,a<n→b≤n→OkQ (M a b)) (h:elimRow SQ n k i M=some M'):∀a b,a<n→b≤n→OkQ (M' a b):=by
 unfold elimRow at h
 split at h
 · simp only[Option.some.injEq]at h;rw[←h];exact hO
 · split at h
   · rename_i hs;simp only[Option.some.injEq]at h;rw[←h];have hk:=(okSub_iff SQ).1 hs;intro a b ha hb;unfold subR
     split
     · rename_i hc;obtain⟨h1,h2,h3,h4⟩:=hk b hc.2 hb;exact okQ_sub (of_decide_eq_true h3) (of_decide_eq_true h4)
     · exact hO a b ha hb
   · cases h
theorem elimTo_ok {n k:Nat} {M:Mx} (hO:∀a b,a<n→b≤n→OkQ (M a b)):∀{i:Nat} {M':Mx},i≤n→elimTo SQ n k i M=some M'→∀a b,a<n→b≤n→OkQ (M' a b):=by
 intro i
 induction i with
 | zero=>intro M' _ h;simp only[elimTo,Option.some.injEq]at h;rw[←h];exact hO
 | succ i ih =>
   intro M' hi h;simp only[elimTo,Option.bind_eq_some_iff]at h;obtain⟨M1,h1,h2⟩:=h;exact elimRow_ok (ih (by omega) h1) h2
theorem stepK_ok {n k:Nat} {M M':Mx} (hk:k<n) (hO:∀a b,a<n→b≤n→OkQ (M a b)) (h:stepK SQ n k M=.ok M'):∀a b,a<n→b≤n→OkQ (M' a b):=by
 unfold stepK at h
 split at h
 · cases h
 · rename_i p hp;obtain⟨p1,p2,p3,_⟩:=pivot_some (by omega) hp
   have hsw:∀a b,a<n→b≤n→OkQ (swapR k p M a b):=fun a b ha hb=>by
    unfold swapR
    split
    · exact hO p b p2 hb
    · split
      · exact hO k b hk hb
      · exact hO a b ha hb
   split at h
   · rename_i hd;have hd2:=(okDiv_iff SQ).1 hd;have hne:swapR k p M k k≠0:=by unfold swapR;rw[if_pos rfl];exact p3
     have hdv:∀a b,a<n→b≤n→OkQ (divMx k (swapR k p M) a b):=fun a b ha hb=>by
      unfold divMx
      split
      · rename_i hc;obtain⟨h1,h2⟩:=hd2 b hc.2 hb;exact okQ_div (of_decide_eq_true h1) (of_decide_eq_true h2) hne
      · exact hsw a b ha hb
     split at h
     · rename_i M2 h2;simp only[Except.ok.injEq]at h;rw[←h];exact elimTo_ok hdv (Nat.le_refl n) h2
     · cases h
   · cases h
end Nt
end
section
open Go.RowKit Go.Shelf
namespace Nt
def Apart (u v:Value):Prop:=∀b,u.ownBlock=some b→v.ownBlock≠some b
theorem Apart.symm {u v:Value} (h:Apart u v):Apart v u:=fun b h1 h2=>h b h2 h1
section
variable {w w':World} {base:Nat} {e:TypeId} {size:Nat} {u v v':Value} {n:Nat} {xs:List Value}
theorem run_append_at {P:Program} (t ty e:TypeId) (i:TypeInfo) (z:Value) (size bytes:Nat) (ht:P.underlying t=some (.slice e)) (hi:P.info? e=some i) (hz:i.zero=some z)
 (hsize:i.size=size) (hby:i.bytes=bytes) (v:Value) (n:Nat) (xs:List Value) (hown:w.ownsRow base e size v n xs)
 (a:Addr) (m c:Nat) (news:List Value) (hl:news.length=m*size) (hnews:∀j u,news[j]? = some u→w.cell? (a.add j)=some u) (h1:∀u∈news,u.oneCell'=true) (hm:0<m)
 (h63:n+m≤maxLen) (hbytes:(n+m)*bytes≤140737488355328) {v':Value} {w':World} (hr:(Builtin.append_ #[t,t] ty #[v,.slice (some a) m c]).run P w=.ok v' w') :
 v'.ownBlock=v.ownBlock∨v'.ownBlock=some w.heap.size:=by
 subst hsize;subst hby;have hsmall:n+m≤9223372036854775807:=by simp only[maxLen]at h63;omega
 rcases hown.2 with⟨rfl,rfl⟩ | ⟨g,cap,cur,rfl,_,hg,_,hcm,hcs,_⟩
 · have hr2:=run_append_nil (P:=P) w t ty e i z ht hi hz a m c news hl hnews (by omega) (by omega) (by have hb:=hbytes;simp only[Nat.zero_add]at hb;omega);rw[hr2]at hr;simp only[Result.ok.injEq]at hr;rw[←hr.1];exact .inr rfl
 · by_cases hroom:n+m≤cap
   · have hfit:n*i.size+news.length≤cur.size:=by rw[hl,hcs,←Nat.add_mul];exact Nat.mul_le_mul_right _ hroom
     have hr2:=run_append_room (P:=P) w t ty e i ht hi g n cap cur hg a m c news hl hnews h1 hroom hfit;rw[hr2]at hr;simp only[Result.ok.injEq]at hr;rw[←hr.1];exact .inl rfl
   · have holds:∀j u,xs[j]? = some u→w.cell? ((⟨g,0,none⟩:Addr).add j)=some u:=hown.cells (g:=g) rfl;have hr2:=run_append_grow (P:=P) w t ty e i z ht hi hz ⟨g,0,none⟩ n cap xs hown.1 holds a m c news hl hnews (by omega) (by omega) (growslice_fits (by omega) hbytes);rw[hr2]at hr;simp only[Result.ok.injEq]at hr;rw[←hr.1];exact .inr rfl
end
theorem wpList_append_new {P:Program} (w:World) {ops:Array Oper} {rest:List Oper} {o:Oper} {a:Act} {Q:Exit→Act→World→Prop} (hgd:o.guard=none) (s x:Operand) (t:TypeId)
 (ho:o.op=.call { callee:=.builtin .append,args:=#[s,x],argTypes:=#[t,t] })
 (base:Nat) (e:TypeId) (i:TypeInfo) (z:Value) (size bytes:Nat) (ht:P.underlying t=some (.slice e)) (hi:P.info? e=some i) (hz:i.zero=some z)
 (hsize:i.size=size) (hby:i.bytes=bytes) (hzs:z.cells.size=size) (hsz:0<size)
 (v:Value) (n:Nat) (xs:List Value) (hs:a.eval s=v) (hown:w.ownsRow base e size v n xs)
 (ad:Addr) (m c:Nat) (news:List Value) (hx:a.eval x=.slice (some ad) m c) (hl:news.length=m*size) (hnews:∀j u,news[j]? = some u→w.cell? (ad.add j)=some u) (h1:∀u∈news,u.oneCell'=true) (hm:0<m)
 (h63:n+m≤maxLen) (hbytes:(n+m)*bytes≤140737488355328) (hbase:base≤w.heap.size)
 (h:∀v' w',w'.ownsRow base e size v' (n+m) (xs++news)→w.grownBy w' v.ownBlock→(v'.ownBlock=v.ownBlock∨v'.ownBlock=some w.heap.size)→wpList P ops Q rest (a.put o.dst v') w'):wpList P ops Q (o::rest) a w :=
 wpList_plain hgd fun _ hK=>by
  obtain⟨v',w',hr,h2,h3,_⟩:=run_append_own (P:=P) w base t o.type e i z size bytes ht hi hz hsize hby hzs hsz v n xs hown ad m c news hl hnews h1 h63 hbytes hbase;have h5:=run_append_at (P:=P) t o.type e i z size bytes ht hi hz hsize hby v n xs hown ad m c news hl hnews h1 hm h63 hbytes hr;unfold Oper.wp execOp;simp only[ho,resolve,invoke,builtin,Sem.run_bind,Sem.run_pure,Result.andThen_ok,List.map_toArray,List.map_cons,List.map_nil,hs,hx,hr];exact hK _ _ (h v' w' h2 h3 h5)
theorem one_cell1 (v:Value) (h:v.oneCell'=true):∀u∈[v],u.oneCell'=true:=fun u hu=>by rw[List.mem_singleton.1 hu];exact h
theorem head_new (w:World) (v:Value) (t:TypeId):∀j u,[v][j]? = some u→(w.alloc (.cells #[v] t)).cell? (Addr.add ⟨w.heap.size,0,none⟩ j)=some u:=by
 intro j u hj
 match j,hj with
 | 0,hj=>simp at hj;subst hj;simp[Addr.add]
 | j+1,hj=>simp at hj
end Nt
end
section
open Go.RowKit Go.Shelf
namespace Nt
def hdr (x:RowH):Value:=.slice x.1 x.2.2.length x.2.1
def rowD0:RowH:=(none,0,[])
structure Qd (W:World) (B n:Nat) (la:List RowH) (lb:List Raw) (y7 y9 y8 z:Nat) (v7 v8 v9 v11:Value) (R:Nat→Value):Prop where
 o7:W.ownsRow B 29 1 v7 y7 ((List.range y7).map fun i=>hdr (la.getD (n-1-i) rowD0))
 o9:W.ownsRow B 37 3 v9 y9 (rowL y9 fun i=>lb.getD (n-1-i) zraw)
 o8:W.ownsRow B 29 1 v8 y8 ((List.range y8).map R)
 oR:∀i,i<y8→W.ownsRow B 37 3 (R i) n (rowL n fun j=>(la.getD i rowD0).2.2.getD (n-1-j) zraw)
 o11:W.ownsRow B 37 3 v11 z (rowL z fun j=>(la.getD y8 rowD0).2.2.getD (n-1-j) zraw)
 a78:Apart v7 v8
 a79:Apart v7 v9
 a89:Apart v8 v9
 a17:Apart v11 v7
 a18:Apart v11 v8
 a19:Apart v11 v9
 r7:∀i,i<y8→Apart (R i) v7
 r8:∀i,i<y8→Apart (R i) v8
 r9:∀i,i<y8→Apart (R i) v9
 r1:∀i,i<y8→Apart (R i) v11
section
variable {W W':World} {B n:Nat} {la:List RowH} {lb:List Raw} {y7 y9 y8 z:Nat} {v7 v8 v9 v11 v':Value} {R:Nat→Value}
theorem Qd.below (h:Qd W B n la lb y7 y9 y8 z v7 v8 v9 v11 R) (hb:Below W.heap.size W W'):Qd W' B n la lb y7 y9 y8 z v7 v8 v9 v11 R :=
 ⟨own_below h.o7 hb,own_below h.o9 hb,own_below h.o8 hb,fun i hi=>own_below (h.oR i hi) hb,own_below h.o11 hb,h.a78,h.a79,h.a89,h.a17,h.a18,h.a19,h.r7,h.r8,h.r9,h.r1⟩
theorem Qd.alloc (h:Qd W B n la lb y7 y9 y8 z v7 v8 v9 v11 R) (o:Obj):Qd (W.alloc o) B n la lb y7 y9 y8 z v7 v8 v9 v11 R:=h.below ((Below.refl _ W).alloc (Nat.le_refl _) o)
end
theorem inMat_of_own {w:World} {base:Nat} {v:Value} {L:List RowH} (h:w.ownsRow base 29 1 v L.length (L.map hdr)) (hr:∀x∈L,InRow w x.1 x.2.2) :
 ∃A c,v=.slice A L.length c∧InMat w A L:=by
 rcases h.2 with⟨rfl,h0⟩ | ⟨g,cap,cur,rfl,hb,hg,h4,h5,h6,h7⟩
 · exact⟨none,0,by rw[h0],fun h=>absurd h (by omega)⟩
 · refine⟨some ⟨g,0,none⟩,cap,rfl,fun h0=>⟨g,0,rfl,(Array.getElem?_eq_some_iff.1 hg).1,fun j hj=>?_⟩⟩;have hc:=h.cells (g:=g) (by simp[Value.ownBlock]) j (hdr L[j]) (by simp[hj]);have hadd:∀o,(⟨g,0,none⟩:Addr).add o=⟨g,o,none⟩:=fun o=>by unfold Addr.add;split<;>simp_all
   rw[hadd]at hc;rw[Nat.zero_add];exact⟨hc,hr _ (List.getElem_mem hj)⟩
theorem Solve_r (Aa Ab:Option Addr) (ca cb:Nat) (la:List RowH) (lb:List Raw) (w:World) (hE:Env w) (hs:SysIn w Aa Ab la lb) :
 Calls Tryz.prog 49 #[.slice Aa la.length ca,.slice Ab lb.length cb] w fun e w'=>(∃p c,e=.returned (.tuple #[.slice p (xsOf (solveB (rowsOf la) lb)).length c,.int .i64 (erOf (solveB (rowsOf la) lb))])∧InRow w' p (xsOf (solveB (rowsOf la) lb)))∧Below w.heap.size w w':=by
 cases h:solveB (rowsOf la) lb with
 | ok xs=>exact Solve_ok Aa Ab ca cb la lb xs w hE hs h
 | error er=>exact(Solve_er Aa Ab ca cb la lb er w hE hs h).mono fun e w' h=>⟨⟨none,0,h.1,fun h=>absurd h (by simp[xsOf])⟩,h.2⟩
end Nt
end
section
open Go.RowKit Go.Shelf
namespace Nt
theorem own_form {W:World} {base:Nat} {e:TypeId} {size:Nat} {v:Value} {n:Nat} {xs:List Value} (h:W.ownsRow base e size v n xs) (hn:0<n) :
 ∃g cap,v=.slice (some ⟨g,0,none⟩) n cap∧base≤g∧g<W.heap.size∧(∀j,W.frozen? ⟨g,j,none⟩=false)∧∀j u,xs[j]? = some u→W.cell? ⟨g,j,none⟩=some u:=by
 rcases h.2 with⟨rfl,h0⟩ | ⟨g,cap,cur,rfl,hb,hg,_⟩
 · omega
 · refine⟨g,cap,rfl,hb,(Array.getElem?_eq_some_iff.1 hg).1,fun j=>by simp[World.frozen?,hg],fun j u hj=>?_⟩;have hc:=h.cells (g:=g) (by simp[Value.ownBlock]) j u hj;have hadd:∀o,(⟨g,0,none⟩:Addr).add o=⟨g,o,none⟩:=fun o=>by unfold Addr.add;split<;>simp_all
   rwa [hadd]at hc
theorem own_at {W:World} {base:Nat} {e:TypeId} {size g n cap:Nat} {xs:List Value} (h:W.ownsRow base e size (.slice (some ⟨g,0,none⟩) n cap) n xs) (hn:0<n) :
 base≤g∧g<W.heap.size∧(∀j,W.frozen? ⟨g,j,none⟩=false)∧∀j u,xs[j]? = some u→W.cell? ⟨g,j,none⟩=some u:=by
 obtain⟨g',cap',e,h1,h2,h3,h4⟩:=own_form h hn;simp only[Value.slice.injEq,Option.some.injEq,Addr.mk.injEq,and_true,true_and]at e;obtain⟨rfl,rfl⟩:=e;exact⟨h1,h2,h3,h4⟩
theorem own_set {W:World} {base:Nat} {e:TypeId} {size g n cap i:Nat} {xs:List Value} {v:Value} (h:W.ownsRow base e size (.slice (some ⟨g,0,none⟩) n cap) n xs) :
 (W.setCell ⟨g,i,none⟩ v).ownsRow base e size (.slice (some ⟨g,0,none⟩) n cap) n (xs.set i v):=by
 refine⟨by rw[List.length_set];exact h.1,?_⟩
 rcases h.2 with⟨h0,_⟩ | ⟨g',cap',cur,h1,hb,hg,h4,h5,h6,h7⟩
 · cases h0
 · simp only[Value.slice.injEq,Option.some.injEq,Addr.mk.injEq,and_true,true_and]at h1;obtain⟨rfl,rfl⟩:=h1;refine .inr ⟨g,cap,cur.setIfInBounds i v,rfl,hb,?_,h4,h5,by simpa using h6,?_⟩
   · simp[World.setCell,Array.getElem?_modify,hg]
   · rw[Array.toList_setIfInBounds,List.take_set,h7]
theorem own_far {W:World} {base:Nat} {e:TypeId} {size n:Nat} {xs:List Value} {u v:Value} {g i:Nat} (h:W.ownsRow base e size u n xs) (ha:u.ownBlock≠some g) :
 (W.setCell ⟨g,i,none⟩ v).ownsRow base e size u n xs :=
 h.kept (row:=some g) ⟨rfl,rfl,rfl,by simp,fun k _ hk=>Below.heap_setCell _ _ _ _ (fun e=>hk (by rw[e]))⟩ (.inr ha)
theorem wp_append_new {P:Program} (w:World) {o:Oper} {a:Act} {K:Act→World→Prop} {Q:Exit→Act→World→Prop} (s x:Operand) (t:TypeId)
 (ho:o.op=.call { callee:=.builtin .append,args:=#[s,x],argTypes:=#[t,t] })
 (base:Nat) (e:TypeId) (i:TypeInfo) (z:Value) (size bytes:Nat) (ht:P.underlying t=some (.slice e)) (hi:P.info? e=some i) (hz:i.zero=some z)
 (hsize:i.size=size) (hby:i.bytes=bytes) (hzs:z.cells.size=size) (hsz:0<size)
 (v:Value) (n:Nat) (xs:List Value) (hs:a.eval s=v) (hown:w.ownsRow base e size v n xs)
 (ad:Addr) (m c:Nat) (news:List Value) (hx:a.eval x=.slice (some ad) m c) (hl:news.length=m*size) (hnews:∀j u,news[j]? = some u→w.cell? (ad.add j)=some u) (h1:∀u∈news,u.oneCell'=true) (hm:0<m)
 (h63:n+m≤maxLen) (hbytes:(n+m)*bytes≤140737488355328) (hbase:base≤w.heap.size)
 (h:∀v' w',w'.ownsRow base e size v' (n+m) (xs++news)→w.grownBy w' v.ownBlock→(v'.ownBlock=v.ownBlock∨v'.ownBlock=some w.heap.size)→K (a.put o.dst v') w'):o.wp P a w K Q:=by
 obtain⟨v',w',hr,h2,h3,_⟩:=run_append_own (P:=P) w base t o.type e i z size bytes ht hi hz hsize hby hzs hsz v n xs hown ad m c news hl hnews h1 h63 hbytes hbase;have h5:=run_append_at (P:=P) t o.type e i z size bytes ht hi hz hsize hby v n xs hown ad m c news hl hnews h1 hm h63 hbytes hr;unfold Oper.wp execOp;simp only[ho,resolve,invoke,builtin,Sem.run_bind,Sem.run_pure,Result.andThen_ok,List.map_toArray,List.map_cons,List.map_nil,hs,hx,hr];exact h v' w' h2 h3 h5
end Nt
end
section
open Go.RowKit Go.Shelf
namespace Sh
open Nt Ci
def isRegS (k:Nat):Code→Bool
 | .region a _ _=>a==k
 | _=>false
theorem plus_rq (s x y:Rat) (hs:ShortQ s) (hx:ShortQ x) (hy:ShortQ y) (hxy:ShortQ (x*y)) (w:World) (hE:Env w) :
 Calls Tryz.prog 97 #[.agg #[.bool (rq s).1,.string (rq s).2.1,.string (rq s).2.2],.agg #[.bool (rq x).1,.string (rq x).2.1,.string (rq x).2.2],.agg #[.bool (rq y).1,.string (rq y).2.1,.string (rq y).2.2]] w fun e w'=>e=.returned (.agg #[.bool (rq (s+x*y)).1,.string (rq (s+x*y)).2.1,.string (rq (s+x*y)).2.2])∧Below w.heap.size w w' :=
 shplus_any s x y hs hx hy hxy w hE
noncomputable def bdR (j:Nat):Code:=((Tryz.f48.body.map Ci.regsOf).bind fun l=>l.find? (isRegS j)).getD .skip
theorem bd19 {c0 c1 c2 c3 c4 c5 c7 c8 c10 c11 c12 c15 c16 c17 c18 c19 c20 c21 c22 c23 c24 c25 c26 c27 c28 c29 c30 c31 c32 c33 c34 c35 c36 c37 c38 c39 c40 c41 c42 c43 c44 c45 c46 c47 c48 c49 c50 c51 c52 c53 c54 c55 c56 c57 c58 c59 c60 c61 c62 c63 c64 c65 c66 c78 c79 c80 c81 c82 c83 c84 c85 c86 c87 c88 c89 c90 c91 c92 c93 c94 c95 c96 c97 c98 c99 c100 c101 c102 c103 c104 c105 c106 c107 a67 a68 a69 a70 a71 a72 a73 a74 a75 a76 a77:Value} {Q:Exit→Act→World→Prop} (mnb rb lb m k:Nat) (r:Nat→Raw) (q part:Rat) (c0v c1v:Value) (w:World) (hE:Env w) (hk:k<m) (_hm:m≤1000) (hr:RowB w rb m r) (hrk:r k=rq q) (hmn:Bk w mnb 37 [.bool (rq (-1)).1,.string (rq (-1)).2.1,.string (rq (-1)).2.2]) (hl:Bk w lb 42 [c0v,c1v,.bool (rq part).1,.string (rq part).2.1,.string (rq part).2.2]) (n1:rb≠mnb) (n2:rb≠lb) (h1:ShortQ q) (h2:ShortQ part) (h3:ShortQ (-1*part))
 (h:∀(u67 u68 u69 u70 u71 u72 u73 u74 u75 u76 u77:Value) (W:World) (_:Hid (RowB W rb m fun j=>if j=k then rq (q+-1*part) else r j)) (_:Hid (Kp [rb] w W)),Q .normal ⟨#[c0,c1,c2,c3,c4,c5,.pointer (some ⟨mnb,0,none⟩),c7,c8,.slice (some ⟨rb,0,none⟩) m m,c10,c11,c12,.pointer (some ⟨lb,0,none⟩),.int .i64 (k:Int),c15,c16,c17,c18,c19,c20,c21,c22,c23,c24,c25,c26,c27,c28,c29,c30,c31,c32,c33,c34,c35,c36,c37,c38,c39,c40,c41,c42,c43,c44,c45,c46,c47,c48,c49,c50,c51,c52,c53,c54,c55,c56,c57,c58,c59,c60,c61,c62,c63,c64,c65,c66,u67,u68,u69,u70,u71,u72,u73,u74,u75,u76,u77,c78,c79,c80,c81,c82,c83,c84,c85,c86,c87,c88,c89,c90,c91,c92,c93,c94,c95,c96,c97,c98,c99,c100,c101,c102,c103,c104,c105,c106,c107],[]⟩ W) :
 Code.wp Tryz.prog (bdR 19) Q ⟨#[c0,c1,c2,c3,c4,c5,.pointer (some ⟨mnb,0,none⟩),c7,c8,.slice (some ⟨rb,0,none⟩) m m,c10,c11,c12,.pointer (some ⟨lb,0,none⟩),.int .i64 (k:Int),c15,c16,c17,c18,c19,c20,c21,c22,c23,c24,c25,c26,c27,c28,c29,c30,c31,c32,c33,c34,c35,c36,c37,c38,c39,c40,c41,c42,c43,c44,c45,c46,c47,c48,c49,c50,c51,c52,c53,c54,c55,c56,c57,c58,c59,c60,c61,c62,c63,c64,c65,c66,a67,a68,a69,a70,a71,a72,a73,a74,a75,a76,a77,c78,c79,c80,c81,c82,c83,c84,c85,c86,c87,c88,c89,c90,c91,c92,c93,c94,c95,c96,c97,c98,c99,c100,c101,c102,c103,c104,c105,c106,c107],[]⟩ w:=by
 conv=>arg 2;whnf
 conv=>arg 4;zeta
 replace h:=Lib.hid h;have hB1:Hid (Below w.heap.size w w.drew):=(Below.refl _ w).drew;have kp:=Lib.hid (fun W hW=>plus_rq q (-1) part h1 (by decide +kernel) h2 h3 W hW);have hr1:Hid (RowB w.drew rb m r):=hr;have rl:=hr.lt;have hSf:Hid (∀W,Below w.heap.size w W→W.cell? ⟨mnb,0,none⟩=some (.bool (rq (-1)).1)∧W.cell? ⟨mnb,1,none⟩=some (.string (rq (-1)).2.1)∧W.cell? ⟨mnb,2,none⟩=some (.string (rq (-1)).2.2)∧W.cell? ⟨lb,2,none⟩=some (.bool (rq part).1)∧W.cell? ⟨lb,3,none⟩=some (.string (rq part).2.1)∧W.cell? ⟨lb,4,none⟩=some (.string (rq part).2.2)):=fun W h=>⟨(hmn.below h).cell (j:=0) rfl,(hmn.below h).cell (j:=1) rfl,(hmn.below h).cell (j:=2) rfl,(hl.below h).cell (j:=2) rfl,(hl.below h).cell (j:=3) rfl,(hl.below h).cell (j:=4) rfl⟩;have j0:(0:Int)≤(k:Int):=by omega
 have j1:(k:Int)<(m:Int):=by omega
 replace hE:=Lib.hid hE;replace hr:=Lib.hid hr;replace hmn:=Lib.hid hmn;replace hl:=Lib.hid hl;clear h1 h2 h3;refine wp_region_noPanic ?_;refine wp_region_held_drew (S:=fun W=>W.cell? ⟨mnb,0,none⟩=some (.bool (rq (-1)).1)∧W.cell? ⟨mnb,1,none⟩=some (.string (rq (-1)).2.1)∧W.cell? ⟨mnb,2,none⟩=some (.string (rq (-1)).2.2)∧W.cell? ⟨lb,2,none⟩=some (.bool (rq part).1)∧W.cell? ⟨lb,3,none⟩=some (.string (rq part).2.1)∧W.cell? ⟨lb,4,none⟩=some (.string (rq part).2.2)) (by kernel_rfl) (hSf.out _ hB1.out) (fun hS0=>?_);replace hS0:=Lib.hid hS0;refine wpAnyH_take (i:=0) (oi:=_) (v:=?_) rfl (by kernel_rfl) (by kernel_rfl) (by kernel_rfl) (fun _ _ _ h=>h) (Or.inl ⟨by rfl,?_⟩) (hS0.out) ?_;rotate_left
 · (intro w hSw;obtain⟨q1,q2,q3,q4,q5,q6⟩:=hSw;go_simp<;>with_reducible rfl)
 try simp only[Act.put,List.setIfInBounds_toArray]
 refine wpAnyH_take (i:=1) (oi:=_) (v:=?_) rfl (by kernel_rfl) (by kernel_rfl) (by kernel_rfl) (fun _ _ _ h=>h) (Or.inl ⟨by rfl,?_⟩) (hS0.out) ?_;rotate_left
 · (intro w hSw;obtain⟨q1,q2,q3,q4,q5,q6⟩:=hSw;go_simp<;>with_reducible rfl)
 try simp only[Act.put]
 refine wpAnyH_take (i:=2) (oi:=_) (v:=?_) rfl (by kernel_rfl) (by kernel_rfl) (by kernel_rfl) (fun _ _ _ h=>h) (Or.inl ⟨by rfl,?_⟩) (hS0.out) ?_;rotate_left
 · (intro w hSw;obtain⟨q1,q2,q3,q4,q5,q6⟩:=hSw;go_simp<;>with_reducible rfl)
 try simp only[Act.put]
 refine wpAnyH_take (i:=3) (oi:=_) (v:=?_) rfl (by kernel_rfl) (by kernel_rfl) (by kernel_rfl) (fun _ _ _ h=>h) (Or.inl ⟨by rfl,?_⟩) (hS0.out) ?_;rotate_left
 · (intro w hSw;obtain⟨q1,q2,q3,q4,q5,q6⟩:=hSw;go_simp<;>with_reducible rfl)
 try simp only[Act.put]
 refine wpAnyH_take (i:=4) (oi:=_) (v:=?_) rfl (by kernel_rfl) (by kernel_rfl) (by kernel_rfl) (fun _ _ _ h=>h) (Or.inl ⟨by rfl,?_⟩) (hS0.out) ?_;rotate_left
 · (intro w hSw;obtain⟨q1,q2,q3,q4,q5,q6⟩:=hSw;go_simp<;>with_reducible rfl)
 try simp only[Act.put]
 refine wpAnyH_take (i:=6) (oi:=_) (v:=?_) rfl (by kernel_rfl) (by kernel_rfl) (by kernel_rfl) (fun _ _ _ h=>h) (Or.inl ⟨by rfl,?_⟩) (hS0.out) ?_;rotate_left
 · (intro w hSw;obtain⟨q1,q2,q3,q4,q5,q6⟩:=hSw;go_simp<;>with_reducible rfl)
 try simp only[Act.put]
 refine wpAnyH_take (i:=7) (oi:=_) (v:=?_) rfl (by kernel_rfl) (by kernel_rfl) (by kernel_rfl) (fun _ _ _ h=>h) (Or.inl ⟨by rfl,?_⟩) (hS0.out) ?_;rotate_left
 · (intro w hSw;obtain⟨q1,q2,q3,q4,q5,q6⟩:=hSw;go_simp<;>with_reducible rfl)
 try simp only[Act.put]
 refine wpAnyH_take (i:=8) (oi:=_) (v:=?_) rfl (by kernel_rfl) (by kernel_rfl) (by kernel_rfl) (fun _ _ _ h=>h) (Or.inl ⟨by rfl,?_⟩) (hS0.out) ?_;rotate_left
 · (intro w hSw;obtain⟨q1,q2,q3,q4,q5,q6⟩:=hSw;go_simp<;>with_reducible rfl)
 try simp only[Act.put]
 obtain⟨r1,r2,r3⟩:=hr1.out.cell hk;rw[hrk]at r1 r2 r3;have rl1:=hr1.out.lt;refine wpAnyH_ready (rs:=[5]) (by kernel_rfl) (by simp) ?_;refine AllReadyH.cons (o:=_) rfl (fun K hK=>?_) ?_
 · go_simp;clear r1 r2 r3;refine hK.out _ _ (hSf.out _ hB1.out) (fun _=>?_);clear hK K
   try simp only[Act.put,List.setIfInBounds_toArray,List.set_cons_zero,List.set_cons_succ]
   refine wpAnyH_ready (rs:=[9]) (by kernel_rfl) (by simp) ?_;refine AllReadyH.cons (o:=_) rfl (fun K hK=>?_) ?_
   · go_simp;refine(kp.out _ (hE.out.below hB1.out)).mono ?_;rintro e W2 ⟨rfl,hb⟩;have hB2:Hid (Below w.heap.size w W2):=hB1.out.trans (hb.mono hB1.out.size);have hr2:Hid (RowB W2 rb m r):=hr1.out.below hb rl1;clear hb;refine hK.out _ _ (hSf.out _ hB2.out) (fun _=>?_);clear hK K
     try simp only[Act.put,List.setIfInBounds_toArray,List.set_cons_zero,List.set_cons_succ]
     refine wpAnyH_take (i:=10) (oi:=_) (v:=?_) rfl (by kernel_rfl) (by kernel_rfl) (by kernel_rfl) (fun _ _ _ h=>h) (Or.inl ⟨by rfl,?_⟩) (hSf.out _ hB2.out) ?_;rotate_left
     · (intro w hSw;obtain⟨q1,q2,q3,q4,q5,q6⟩:=hSw;go_simp<;>with_reducible rfl)
     try simp only[Act.put,List.setIfInBounds_toArray]
     obtain⟨r1,r2,r3⟩:=hr2.out.cell hk;have f1:=hr2.out.frozen (k*3);have f2:=hr2.out.frozen (k*3+1);have f3:=hr2.out.frozen (k*3+2);have rl2:=hr2.out.lt;have hr3:Hid (RowB (((W2.setCell ⟨rb,k*3,none⟩ (.bool (rq (q+-1*part)).1)).setCell ⟨rb,k*3+1,none⟩ (.string (rq (q+-1*part)).2.1)).setCell ⟨rb,k*3+2,none⟩ (.string (rq (q+-1*part)).2.2)) rb m fun j=>if j=k then rq (q+-1*part) else r j):=hr2.out.set hk _;have hK3:Hid (Kp [rb] w (((W2.setCell ⟨rb,k*3,none⟩ (.bool (rq (q+-1*part)).1)).setCell ⟨rb,k*3+1,none⟩ (.string (rq (q+-1*part)).2.1)).setCell ⟨rb,k*3+2,none⟩ (.string (rq (q+-1*part)).2.2))):=((((Kp.refl [rb] w).below hB2.out).set (a:=⟨rb,k*3,none⟩) _ (.inl (by simp))).set (a:=⟨rb,k*3+1,none⟩) _ (.inl (by simp))).set (a:=⟨rb,k*3+2,none⟩) _ (.inl (by simp));refine wpAnyH_ready (rs:=[11]) (by kernel_rfl) (by simp) ?_;refine AllReadyH.cons (o:=_) rfl (fun K hK=>?_) ?_
     · go_simp;refine hK.out _ _ (⟨((((hmn.out.below hB2.out).far (p:=⟨rb,k*3,none⟩) n1.symm _).far (p:=⟨rb,k*3+1,none⟩) n1.symm _).far (p:=⟨rb,k*3+2,none⟩) n1.symm _).cell (j:=0) rfl,((((hmn.out.below hB2.out).far (p:=⟨rb,k*3,none⟩) n1.symm _).far (p:=⟨rb,k*3+1,none⟩) n1.symm _).far (p:=⟨rb,k*3+2,none⟩) n1.symm _).cell (j:=1) rfl,((((hmn.out.below hB2.out).far (p:=⟨rb,k*3,none⟩) n1.symm _).far (p:=⟨rb,k*3+1,none⟩) n1.symm _).far (p:=⟨rb,k*3+2,none⟩) n1.symm _).cell (j:=2) rfl,((((hl.out.below hB2.out).far (p:=⟨rb,k*3,none⟩) n2.symm _).far (p:=⟨rb,k*3+1,none⟩) n2.symm _).far (p:=⟨rb,k*3+2,none⟩) n2.symm _).cell (j:=2) rfl,((((hl.out.below hB2.out).far (p:=⟨rb,k*3,none⟩) n2.symm _).far (p:=⟨rb,k*3+1,none⟩) n2.symm _).far (p:=⟨rb,k*3+2,none⟩) n2.symm _).cell (j:=3) rfl,((((hl.out.below hB2.out).far (p:=⟨rb,k*3,none⟩) n2.symm _).far (p:=⟨rb,k*3+1,none⟩) n2.symm _).far (p:=⟨rb,k*3+2,none⟩) n2.symm _).cell (j:=4) rfl⟩) (fun _=>?_);clear hK K
       try simp only[Act.put,List.setIfInBounds_toArray,List.set_cons_zero,List.set_cons_succ]
       refine wpAnyH_done (by kernel_rfl) ?_ _;refine NoPanic.normal ?_;exact h.out _ _ _ _ _ _ _ _ _ _ _ _ hr3 hK3
     exact AllReadyH.nil
   exact AllReadyH.nil
 exact AllReadyH.nil
theorem bd20 {c0 c1 c3 c4 c5 c6 c7 c8 c9 c10 c12 c14 c15 c16 c17 c18 c19 c20 c21 c22 c23 c24 c25 c26 c27 c28 c29 c30 c31 c32 c33 c34 c35 c36 c37 c38 c39 c40 c41 c42 c43 c44 c45 c46 c47 c48 c49 c50 c51 c52 c53 c54 c55 c56 c57 c58 c59 c60 c61 c62 c63 c64 c65 c66 c67 c68 c69 c70 c71 c72 c73 c74 c75 c76 c77 c86 c87 c88 c89 c90 c91 c92 c93 c94 c95 c96 c97 c98 c99 c100 c101 c102 c103 c104 c105 c106 c107 a78 a79 a80 a81 a82 a83 a84 a85:Value} {Q:Exit→Act→World→Prop} (gb lb vb:Nat) (hh:Int) (r0 part v:Rat) (c0v:Value) (w:World) (hE:Env w) (hg:Bk w gb 37 [.bool (rq r0).1,.string (rq r0).2.1,.string (rq r0).2.2]) (hl:Bk w lb 42 [c0v,.int .i64 hh,.bool (rq part).1,.string (rq part).2.1,.string (rq part).2.2]) (n1:gb≠lb) (h1:ShortQ r0) (h2:ShortQ part) (h3:ShortQ v) (h4:ShortQ (part*v)) (kv:∀W,Below w.heap.size w W→Calls Tryz.prog 47 #[.int .i64 hh,.pointer (some ⟨vb,0,none⟩)] W fun e w'=>e=.returned (.agg #[.bool (rq v).1,.string (rq v).2.1,.string (rq v).2.2])∧Below W.heap.size W w')
 (h:∀(u78 u79 u80 u81 u82 u83 u84 u85:Value) (W:World) (_:Hid (Bk W gb 37 [.bool (rq (r0+part*v)).1,.string (rq (r0+part*v)).2.1,.string (rq (r0+part*v)).2.2])) (_:Hid (Kp [gb] w W)),Q .normal ⟨#[c0,c1,.func (.func 47) #[] #[.pointer (some ⟨vb,0,none⟩)],c3,c4,c5,c6,c7,c8,c9,c10,.pointer (some ⟨gb,0,none⟩),c12,.pointer (some ⟨lb,0,none⟩),c14,c15,c16,c17,c18,c19,c20,c21,c22,c23,c24,c25,c26,c27,c28,c29,c30,c31,c32,c33,c34,c35,c36,c37,c38,c39,c40,c41,c42,c43,c44,c45,c46,c47,c48,c49,c50,c51,c52,c53,c54,c55,c56,c57,c58,c59,c60,c61,c62,c63,c64,c65,c66,c67,c68,c69,c70,c71,c72,c73,c74,c75,c76,c77,u78,u79,u80,u81,u82,u83,u84,u85,c86,c87,c88,c89,c90,c91,c92,c93,c94,c95,c96,c97,c98,c99,c100,c101,c102,c103,c104,c105,c106,c107],[]⟩ W) :
 Code.wp Tryz.prog (bdR 20) Q ⟨#[c0,c1,.func (.func 47) #[] #[.pointer (some ⟨vb,0,none⟩)],c3,c4,c5,c6,c7,c8,c9,c10,.pointer (some ⟨gb,0,none⟩),c12,.pointer (some ⟨lb,0,none⟩),c14,c15,c16,c17,c18,c19,c20,c21,c22,c23,c24,c25,c26,c27,c28,c29,c30,c31,c32,c33,c34,c35,c36,c37,c38,c39,c40,c41,c42,c43,c44,c45,c46,c47,c48,c49,c50,c51,c52,c53,c54,c55,c56,c57,c58,c59,c60,c61,c62,c63,c64,c65,c66,c67,c68,c69,c70,c71,c72,c73,c74,c75,c76,c77,a78,a79,a80,a81,a82,a83,a84,a85,c86,c87,c88,c89,c90,c91,c92,c93,c94,c95,c96,c97,c98,c99,c100,c101,c102,c103,c104,c105,c106,c107],[]⟩ w:=by
 conv=>arg 2;whnf
 conv=>arg 4;zeta
 replace h:=Lib.hid h;have hB1:Hid (Below w.heap.size w w.drew):=(Below.refl _ w).drew;have kp:=Lib.hid (fun W hW=>plus_rq r0 part v h1 h2 h3 h4 W hW);have hg1:Hid (Bk w.drew gb 37 [.bool (rq r0).1,.string (rq r0).2.1,.string (rq r0).2.2]):=hg.below (Below.refl _ w).drew;have gl:=hg.lt;have hSf:Hid (∀W,Below w.heap.size w W→W.cell? ⟨lb,1,none⟩=some (.int .i64 hh)∧W.cell? ⟨lb,2,none⟩=some (.bool (rq part).1)∧W.cell? ⟨lb,3,none⟩=some (.string (rq part).2.1)∧W.cell? ⟨lb,4,none⟩=some (.string (rq part).2.2)):=fun W hb=>⟨(hl.below hb).cell (j:=1) rfl,(hl.below hb).cell (j:=2) rfl,(hl.below hb).cell (j:=3) rfl,(hl.below hb).cell (j:=4) rfl⟩;replace hE:=Lib.hid hE;replace hg:=Lib.hid hg;replace hl:=Lib.hid hl;replace kv:=Lib.hid kv;clear h1 h2 h3 h4;refine wp_region_noPanic ?_;refine wp_region_held_drew (S:=fun W=>W.cell? ⟨lb,1,none⟩=some (.int .i64 hh)∧W.cell? ⟨lb,2,none⟩=some (.bool (rq part).1)∧W.cell? ⟨lb,3,none⟩=some (.string (rq part).2.1)∧W.cell? ⟨lb,4,none⟩=some (.string (rq part).2.2)) (by kernel_rfl) (hSf.out _ hB1.out) (fun hS0=>?_);replace hS0:=Lib.hid hS0;refine wpAnyH_take (i:=1) (oi:=_) (v:=?_) rfl (by kernel_rfl) (by kernel_rfl) (by kernel_rfl) (fun _ _ _ h=>h) (Or.inl ⟨by rfl,?_⟩) (hS0.out) ?_;rotate_left
 · (intro w hSw;obtain⟨q1,q2,q3,q4⟩:=hSw;go_simp<;>with_reducible rfl)
 try simp only[Act.put,List.setIfInBounds_toArray]
 refine wpAnyH_take (i:=2) (oi:=_) (v:=?_) rfl (by kernel_rfl) (by kernel_rfl) (by kernel_rfl) (fun _ _ _ h=>h) (Or.inl ⟨by rfl,?_⟩) (hS0.out) ?_;rotate_left
 · (intro w hSw;obtain⟨q1,q2,q3,q4⟩:=hSw;go_simp<;>with_reducible rfl)
 try simp only[Act.put]
 refine wpAnyH_take (i:=3) (oi:=_) (v:=?_) rfl (by kernel_rfl) (by kernel_rfl) (by kernel_rfl) (fun _ _ _ h=>h) (Or.inl ⟨by rfl,?_⟩) (hS0.out) ?_;rotate_left
 · (intro w hSw;obtain⟨q1,q2,q3,q4⟩:=hSw;go_simp<;>with_reducible rfl)
 try simp only[Act.put]
 refine wpAnyH_take (i:=4) (oi:=_) (v:=?_) rfl (by kernel_rfl) (by kernel_rfl) (by kernel_rfl) (fun _ _ _ h=>h) (Or.inl ⟨by rfl,?_⟩) (hS0.out) ?_;rotate_left
 · (intro w hSw;obtain⟨q1,q2,q3,q4⟩:=hSw;go_simp<;>with_reducible rfl)
 try simp only[Act.put]
 refine wpAnyH_take (i:=5) (oi:=_) (v:=?_) rfl (by kernel_rfl) (by kernel_rfl) (by kernel_rfl) (fun _ _ _ h=>h) (Or.inl ⟨by rfl,?_⟩) (hS0.out) ?_;rotate_left
 · (intro w hSw;obtain⟨q1,q2,q3,q4⟩:=hSw;go_simp<;>with_reducible rfl)
 try simp only[Act.put]
 refine wpAnyH_ready (rs:=[0,6]) (by kernel_rfl) (by simp) ?_;have t1:=hg1.out.cell (j:=0) rfl;have t2:=hg1.out.cell (j:=1) rfl;have t3:=hg1.out.cell (j:=2) rfl;have t7:=hg1.out.lt;refine AllReadyH.cons (o:=_) rfl (fun K hK=>?_) ?_
 · go_simp;clear t1 t2 t3 t7;refine hK.out _ _ (hSf.out _ hB1.out) (fun _=>?_);clear hK K
   try simp only[Act.put,List.setIfInBounds_toArray,List.set_cons_zero,List.set_cons_succ]
   refine wpAnyH_ready (rs:=[6]) (by kernel_rfl) (by simp) ?_;refine AllReadyH.cons (o:=_) rfl (fun K hK=>?_) ?_
   · go_simp;refine(kv.out _ hB1.out).mono ?_;rintro e W2 ⟨rfl,hb⟩;have hB2:Hid (Below w.heap.size w W2):=hB1.out.trans (hb.mono hB1.out.size);have hg2:=Lib.hid (hg1.out.below hb);clear hb;refine hK.out _ _ (hSf.out _ hB2.out) (fun _=>?_);clear hK K
     try simp only[Act.put,List.setIfInBounds_toArray,List.set_cons_zero,List.set_cons_succ]
     refine wpAnyH_ready (rs:=[7]) (by kernel_rfl) (by simp) ?_;refine AllReadyH.cons (o:=_) rfl (fun K hK=>?_) ?_
     · go_simp;refine(kp.out _ (hE.out.below hB2.out)).mono ?_;rintro e W3 ⟨rfl,hb⟩;have hB3:Hid (Below w.heap.size w W3):=hB2.out.trans (hb.mono hB2.out.size);have hg3:=Lib.hid (hg2.out.below hb);clear hb;refine hK.out _ _ (hSf.out _ hB3.out) (fun _=>?_);clear hK K
       try simp only[Act.put,List.setIfInBounds_toArray,List.set_cons_zero,List.set_cons_succ]
       have hg4:Hid (Bk (((W3.setCell ⟨gb,0,none⟩ (.bool (rq (r0+part*v)).1)).setCell ⟨gb,1,none⟩ (.string (rq (r0+part*v)).2.1)).setCell ⟨gb,2,none⟩ (.string (rq (r0+part*v)).2.2)) gb 37 [.bool (rq (r0+part*v)).1,.string (rq (r0+part*v)).2.1,.string (rq (r0+part*v)).2.2]):=((hg3.out.set 0 (.bool (rq (r0+part*v)).1)).set 1 (.string (rq (r0+part*v)).2.1)).set 2 (.string (rq (r0+part*v)).2.2);have hK4:Hid (Kp [gb] w (((W3.setCell ⟨gb,0,none⟩ (.bool (rq (r0+part*v)).1)).setCell ⟨gb,1,none⟩ (.string (rq (r0+part*v)).2.1)).setCell ⟨gb,2,none⟩ (.string (rq (r0+part*v)).2.2))):=((((Kp.refl [gb] w).below hB3.out).set (a:=⟨gb,0,none⟩) _ (.inl (by simp))).set (a:=⟨gb,1,none⟩) _ (.inl (by simp))).set (a:=⟨gb,2,none⟩) _ (.inl (by simp));have t1:=hg3.out.cell (j:=0) rfl;have t2:=hg3.out.cell (j:=1) rfl;have t3:=hg3.out.cell (j:=2) rfl;have t4:=hg3.out.frozen 0;have t5:=hg3.out.frozen 1;have t6:=hg3.out.frozen 2;have t7:=hg3.out.lt;refine wpAnyH_ready (rs:=[8]) (by kernel_rfl) (by simp) ?_;refine AllReadyH.cons (o:=_) rfl (fun K hK=>?_) ?_
       · go_simp;refine hK.out _ _ (⟨((((hl.out.below hB3.out).far (p:=⟨gb,0,none⟩) n1.symm _).far (p:=⟨gb,1,none⟩) n1.symm _).far (p:=⟨gb,2,none⟩) n1.symm _).cell (j:=1) rfl,((((hl.out.below hB3.out).far (p:=⟨gb,0,none⟩) n1.symm _).far (p:=⟨gb,1,none⟩) n1.symm _).far (p:=⟨gb,2,none⟩) n1.symm _).cell (j:=2) rfl,((((hl.out.below hB3.out).far (p:=⟨gb,0,none⟩) n1.symm _).far (p:=⟨gb,1,none⟩) n1.symm _).far (p:=⟨gb,2,none⟩) n1.symm _).cell (j:=3) rfl,((((hl.out.below hB3.out).far (p:=⟨gb,0,none⟩) n1.symm _).far (p:=⟨gb,1,none⟩) n1.symm _).far (p:=⟨gb,2,none⟩) n1.symm _).cell (j:=4) rfl⟩) (fun _=>?_);clear hK K
         try simp only[Act.put,List.setIfInBounds_toArray,List.set_cons_zero,List.set_cons_succ]
         refine wpAnyH_done (by kernel_rfl) ?_ _;refine NoPanic.normal ?_;exact h.out _ _ _ _ _ _ _ _ _ hg4 hK4
       exact AllReadyH.nil
     exact AllReadyH.nil
   exact AllReadyH.nil
 clear t1 t2 t3 t7;refine AllReadyH.cons (o:=_) rfl (fun K hK=>?_) ?_
 · go_simp;refine(kv.out _ hB1.out).mono ?_;rintro e W2 ⟨rfl,hb⟩;have hB2:Hid (Below w.heap.size w W2):=hB1.out.trans (hb.mono hB1.out.size);have hg2:=Lib.hid (hg1.out.below hb);clear hb;refine hK.out _ _ (hSf.out _ hB2.out) (fun _=>?_);clear hK K
   try simp only[Act.put,List.setIfInBounds_toArray,List.set_cons_zero,List.set_cons_succ]
   refine wpAnyH_ready (rs:=[0]) (by kernel_rfl) (by simp) ?_;have t1:=hg2.out.cell (j:=0) rfl;have t2:=hg2.out.cell (j:=1) rfl;have t3:=hg2.out.cell (j:=2) rfl;have t7:=hg2.out.lt;refine AllReadyH.cons (o:=_) rfl (fun K hK=>?_) ?_
   · go_simp;clear t1 t2 t3 t7;refine hK.out _ _ (hSf.out _ hB2.out) (fun _=>?_);clear hK K
     try simp only[Act.put,List.setIfInBounds_toArray,List.set_cons_zero,List.set_cons_succ]
     refine wpAnyH_ready (rs:=[7]) (by kernel_rfl) (by simp) ?_;refine AllReadyH.cons (o:=_) rfl (fun K hK=>?_) ?_
     · go_simp;refine(kp.out _ (hE.out.below hB2.out)).mono ?_;rintro e W3 ⟨rfl,hb⟩;have hB3:Hid (Below w.heap.size w W3):=hB2.out.trans (hb.mono hB2.out.size);have hg3:=Lib.hid (hg2.out.below hb);clear hb;refine hK.out _ _ (hSf.out _ hB3.out) (fun _=>?_);clear hK K
       try simp only[Act.put,List.setIfInBounds_toArray,List.set_cons_zero,List.set_cons_succ]
       have hg4:Hid (Bk (((W3.setCell ⟨gb,0,none⟩ (.bool (rq (r0+part*v)).1)).setCell ⟨gb,1,none⟩ (.string (rq (r0+part*v)).2.1)).setCell ⟨gb,2,none⟩ (.string (rq (r0+part*v)).2.2)) gb 37 [.bool (rq (r0+part*v)).1,.string (rq (r0+part*v)).2.1,.string (rq (r0+part*v)).2.2]):=((hg3.out.set 0 (.bool (rq (r0+part*v)).1)).set 1 (.string (rq (r0+part*v)).2.1)).set 2 (.string (rq (r0+part*v)).2.2);have hK4:Hid (Kp [gb] w (((W3.setCell ⟨gb,0,none⟩ (.bool (rq (r0+part*v)).1)).setCell ⟨gb,1,none⟩ (.string (rq (r0+part*v)).2.1)).setCell ⟨gb,2,none⟩ (.string (rq (r0+part*v)).2.2))):=((((Kp.refl [gb] w).below hB3.out).set (a:=⟨gb,0,none⟩) _ (.inl (by simp))).set (a:=⟨gb,1,none⟩) _ (.inl (by simp))).set (a:=⟨gb,2,none⟩) _ (.inl (by simp));have t1:=hg3.out.cell (j:=0) rfl;have t2:=hg3.out.cell (j:=1) rfl;have t3:=hg3.out.cell (j:=2) rfl;have t4:=hg3.out.frozen 0;have t5:=hg3.out.frozen 1;have t6:=hg3.out.frozen 2;have t7:=hg3.out.lt;refine wpAnyH_ready (rs:=[8]) (by kernel_rfl) (by simp) ?_;refine AllReadyH.cons (o:=_) rfl (fun K hK=>?_) ?_
       · go_simp;refine hK.out _ _ (⟨((((hl.out.below hB3.out).far (p:=⟨gb,0,none⟩) n1.symm _).far (p:=⟨gb,1,none⟩) n1.symm _).far (p:=⟨gb,2,none⟩) n1.symm _).cell (j:=1) rfl,((((hl.out.below hB3.out).far (p:=⟨gb,0,none⟩) n1.symm _).far (p:=⟨gb,1,none⟩) n1.symm _).far (p:=⟨gb,2,none⟩) n1.symm _).cell (j:=2) rfl,((((hl.out.below hB3.out).far (p:=⟨gb,0,none⟩) n1.symm _).far (p:=⟨gb,1,none⟩) n1.symm _).far (p:=⟨gb,2,none⟩) n1.symm _).cell (j:=3) rfl,((((hl.out.below hB3.out).far (p:=⟨gb,0,none⟩) n1.symm _).far (p:=⟨gb,1,none⟩) n1.symm _).far (p:=⟨gb,2,none⟩) n1.symm _).cell (j:=4) rfl⟩) (fun _=>?_);clear hK K
         try simp only[Act.put,List.setIfInBounds_toArray,List.set_cons_zero,List.set_cons_succ]
         refine wpAnyH_done (by kernel_rfl) ?_ _;refine NoPanic.normal ?_;exact h.out _ _ _ _ _ _ _ _ _ hg4 hK4
       exact AllReadyH.nil
     exact AllReadyH.nil
   exact AllReadyH.nil
 exact AllReadyH.nil
end Sh
end
end Go.Proofs.YtioidbebjgeahaaGreatDoor

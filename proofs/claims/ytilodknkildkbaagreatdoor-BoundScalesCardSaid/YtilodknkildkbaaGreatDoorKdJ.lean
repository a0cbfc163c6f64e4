/- Texts that the proof needs: BndHeadW, CirFew, BndFew, BndLawP, BndWrap, BndExP, LawSWithout, BndJoinP, BndJoinM, BndJoinS, BndScaleM, NatBytes. -/
import Derived.Deep.RegionHeld3
import Derived.Deep.QuietTactic
import Derived.BigQuiet
import Derived.Laws.BytesArg
import Derived.Laws.OwnMore
import Derived.Test.YtilodknkildkbaaGreatDoorKdA
import Derived.Test.YtilodknkildkbaaGreatDoorKdB
import Derived.Test.YtilodknkildkbaaGreatDoorKdC
import Derived.Test.YtilodknkildkbaaGreatDoorKdD
import Derived.Test.YtilodknkildkbaaGreatDoorKdE
import Derived.Test.YtilodknkildkbaaGreatDoorKdF
import Derived.Test.YtilodknkildkbaaGreatDoorKdG
import Derived.Test.YtilodknkildkbaaGreatDoorKdH
import Derived.Test.YtilodknkildkbaaGreatDoorKdI
set_option maxHeartbeats 16000000
set_option maxRecDepth 1000000
namespace Go.Proofs.YtilodknkildkbaaGreatDoor
theorem tkdJ{P:Program}{md:Region.Mode}{ops:Array Oper}{Q:Exit->Act->World->Prop}{S:World->Prop}{oi:Oper}{v:Value}{fuel:Nat}{listed:Array Bool}{a:Act}{w:World}(i:Nat)(hi:ops[i]?=some oi)(hS:S w)(hy:YieldsIf P ops S oi v a)(h:wpAnyH P md ops Q S fuel (listed.setIfInBounds i true) (a.put oi.dst v) w)(hs:Region.noSelect ops=true:=by kernel_rfl)(hf:Region.free md ops listed i=true:=by kernel_rfl)(hr:(Region.ready md ops listed).contains i=true:=by kernel_rfl)(hQ:∀c a w,Q (.panic c) (a.put oi.dst v) w->Q (.panic c) a w:=by exact fun _ _ _ h=>h):wpAnyH P md ops Q S (fuel+1) listed a w:=wpAnyH_take hi hs hf hr hQ hy hS h
section
open Go.RowKit Go.Shelf
namespace Bd
open Nt Ci Sh
theorem Iu (w:World) (hE:Env w):Calls Tryz.prog 11 #[] w fun e w'=>e=.returned (.bool true)/\Below w.heap.size w w':=by
 replace hE:=zh hE;have fp:Hid (Below w.heap.size w w):=Below.refl _ _;go_enter Tryz.func11,Tryz.ntmps11
 go_wp2_with fail
 have kk:=Un w;refine kk.mono ?_;clear kk;rintro e w2 ⟨⟨pb,cb,rfl,hM⟩,hb⟩;have fq:=zh (fp.out.trans (hb.mono fp.out.size));clear hb fp ;have fR:=zh hM;clear hM;have z1:Bk (w2.alloc (.cells #[.slice (some ⟨pb,0,none⟩) 3 3,.slice (some ⟨cb,0,none⟩) 3 3,.slice none 0 0] 25)) (w2.heap.size) 25 [.slice (some ⟨pb,0,none⟩) 3 3,.slice (some ⟨cb,0,none⟩) 3 3,.slice none 0 0]:=(by have h:=Bk.new w2 25 [.slice (some ⟨pb,0,none⟩) 3 3,.slice (some ⟨cb,0,none⟩) 3 3,.slice none 0 0];(try simp only[World.size_alloc]at h);exact h:Bk (w2.alloc (.cells #[.slice (some ⟨pb,0,none⟩) 3 3,.slice (some ⟨cb,0,none⟩) 3 3,.slice none 0 0] 25)) (w2.heap.size) 25 [.slice (some ⟨pb,0,none⟩) 3 3,.slice (some ⟨cb,0,none⟩) 3 3,.slice none 0 0]);have z1_0:=z1.c0;have z1_1:=z1.c1;have z1_2:=z1.c2;have z1_9:=z1.lt;clear z1;obtain⟨w3,ao⟩:∃X,X=((w2.alloc (.cells #[.slice (some ⟨pb,0,none⟩) 3 3,.slice (some ⟨cb,0,none⟩) 3 3,.slice none 0 0] 25)).alloc (.cells #[.int .i64 2] 3)):=⟨_,rfl⟩;have hd:Below w2.heap.size w2 w3:=by rw[ao];exact(((Below.refl _ w2).alloc (Nat.le_refl _) _).alloc (by simp) _)
 have bD:=zh (fq.out.trans (hd.mono fq.out.size));have fA:=zh (fR.out.below hd);clear hd fq fR;obtain⟨bs,bL⟩:∃x,x=(w2.heap.size):=⟨_,rfl⟩;have gi:Hid (Bk w3 bs 25 [.slice (some ⟨pb,0,none⟩) 3 3,.slice (some ⟨cb,0,none⟩) 3 3,.slice none 0 0]):=by rw[ao,bL];exact(Bk.alloc (by have h:=Bk.new w2 25 [.slice (some ⟨pb,0,none⟩) 3 3,.slice (some ⟨cb,0,none⟩) 3 3,.slice none 0 0];(try simp only[World.size_alloc]at h);exact h:Bk (w2.alloc (.cells #[.slice (some ⟨pb,0,none⟩) 3 3,.slice (some ⟨cb,0,none⟩) 3 3,.slice none 0 0] 25)) (w2.heap.size) 25 [.slice (some ⟨pb,0,none⟩) 3 3,.slice (some ⟨cb,0,none⟩) 3 3,.slice none 0 0]) (.cells #[.int .i64 2] 3))
 obtain⟨bf,bJ⟩:∃x,x=(w2.heap.size+1):=⟨_,rfl⟩;have fH:Hid (Bk w3 bf 3 [.int .i64 2]):=by rw[ao,bJ];exact(by have h:=Bk.new (w2.alloc (.cells #[.slice (some ⟨pb,0,none⟩) 3 3,.slice (some ⟨cb,0,none⟩) 3 3,.slice none 0 0] 25)) 3 [.int .i64 2];(try simp only[World.size_alloc]at h);exact h:Bk ((w2.alloc (.cells #[.slice (some ⟨pb,0,none⟩) 3 3,.slice (some ⟨cb,0,none⟩) 3 3,.slice none 0 0] 25)).alloc (.cells #[.int .i64 2] 3)) (w2.heap.size+1) 3 [.int .i64 2])
 go_wp2_with fail
 (try rw[<-ao])
 (try rw[<-bJ])
 (try rw[<-bL])
 replace ao:=zh ao;replace bL:=zh bL;replace bJ:=zh bJ;have kk:=SF w3 pb cb bf (hE.out.below bD.out) fA.out fH.out;refine kk.mono ?_;clear kk;rintro e w4 ⟨⟨bv,br,rfl,hV,hR⟩,hb⟩;have fv:=zh (bD.out.trans (hb.mono bD.out.size));have fS:=zh (fA.out.below hb);have fK:=zh (gi.out.below hb);have gy:=zh (fH.out.below hb);clear hb bD fA gi fH;clear z1_0 z1_1 z1_2 z1_9;have f3:=zh hV;clear hV;have fX:=zh hR;clear hR;clear gy;have z2:Bk (w4.alloc (.cells #[.bool false,.slice (some ⟨bv,0,none⟩) 3 3,.slice (some ⟨br,0,none⟩) 3 3] 29)) bs 25 [.slice (some ⟨pb,0,none⟩) 3 3,.slice (some ⟨cb,0,none⟩) 3 3,.slice none 0 0]:=(Bk.alloc fK.out (.cells #[.bool false,.slice (some ⟨bv,0,none⟩) 3 3,.slice (some ⟨br,0,none⟩) 3 3] 29));have z2_0:=z2.c0;have z2_1:=z2.c1;have z2_2:=z2.c2;have z2_9:=z2.lt;clear z2;obtain⟨w5,aq⟩:∃X,X=((w4.alloc (.cells #[.bool false,.slice (some ⟨bv,0,none⟩) 3 3,.slice (some ⟨br,0,none⟩) 3 3] 29)).alloc (.cells #[.int .i64 2] 3)):=⟨_,rfl⟩;have hd:Below w4.heap.size w4 w5:=by rw[aq];exact(((Below.refl _ w4).alloc (Nat.le_refl _) _).alloc (by simp) _)
 have bE:=zh (fv.out.trans (hd.mono fv.out.size));have fB:=zh (fS.out.below hd);have gj:=zh (fK.out.below hd);have f4:=zh (f3.out.below hd (Nat.le_refl _));have fY:=zh (fX.out.below hd);clear hd fv fS fK f3 fX;obtain⟨bc,bG⟩:∃x,x=(w4.heap.size):=⟨_,rfl⟩;have f9:Hid (Bk w5 bc 29 [.bool false,.slice (some ⟨bv,0,none⟩) 3 3,.slice (some ⟨br,0,none⟩) 3 3]):=by rw[aq,bG];exact(Bk.alloc (by have h:=Bk.new w4 29 [.bool false,.slice (some ⟨bv,0,none⟩) 3 3,.slice (some ⟨br,0,none⟩) 3 3];(try simp only[World.size_alloc]at h);exact h:Bk (w4.alloc (.cells #[.bool false,.slice (some ⟨bv,0,none⟩) 3 3,.slice (some ⟨br,0,none⟩) 3 3] 29)) (w4.heap.size) 29 [.bool false,.slice (some ⟨bv,0,none⟩) 3 3,.slice (some ⟨br,0,none⟩) 3 3]) (.cells #[.int .i64 2] 3))
 obtain⟨bg,bK⟩:∃x,x=(w4.heap.size+1):=⟨_,rfl⟩;have fI:Hid (Bk w5 bg 3 [.int .i64 2]):=by rw[aq,bK];exact(by have h:=Bk.new (w4.alloc (.cells #[.bool false,.slice (some ⟨bv,0,none⟩) 3 3,.slice (some ⟨br,0,none⟩) 3 3] 29)) 3 [.int .i64 2];(try simp only[World.size_alloc]at h);exact h:Bk ((w4.alloc (.cells #[.bool false,.slice (some ⟨bv,0,none⟩) 3 3,.slice (some ⟨br,0,none⟩) 3 3] 29)).alloc (.cells #[.int .i64 2] 3)) (w4.heap.size+1) 3 [.int .i64 2])
 go_wp2_with fail
 (try rw[<-aq])
 (try rw[<-bK])
 (try rw[<-bG])
 replace aq:=zh aq;replace bG:=zh bG;replace bK:=zh bK;have kk:=SE w5 pb cb bg (hE.out.below bE.out) fB.out fI.out;refine kk.mono ?_;clear kk;rintro e w6 ⟨⟨bw,rfl,hD⟩,hb⟩;have fw:=zh (bE.out.trans (hb.mono bE.out.size));have fT:=zh (fB.out.below hb);have gk:=zh (gj.out.below hb);have f5:=zh (f4.out.below hb (Nat.le_refl _));have fZ:=zh (fY.out.below hb);have ga:=zh (f9.out.below hb);have gz:=zh (fI.out.below hb);clear hb bE fB gj f4 fY f9 fI;clear z2_0 z2_1 z2_2 z2_9;have fN:=zh hD;clear hD;clear gz;obtain⟨w7,bj⟩:∃X,X=(w6.alloc (.cells #[.bool true,.slice (some ⟨bw,0,none⟩) 3 3,.slice none 0 0] 29)):=⟨_,rfl⟩;have hd:Below w6.heap.size w6 w7:=by rw[bj];exact((Below.refl _ w6).alloc (Nat.le_refl _) _)
 have fx:=zh (fw.out.trans (hd.mono fw.out.size));have fU:=zh (fT.out.below hd);have gl:=zh (gk.out.below hd);have f6:=zh (f5.out.below hd (Nat.le_refl _));have f0:=zh (fZ.out.below hd);have gb:=zh (ga.out.below hd);have fO:=zh (fN.out.below hd (Nat.le_refl _));clear hd fw fT gk f5 fZ ga fN;obtain⟨bd,bH⟩:∃x,x=(w6.heap.size):=⟨_,rfl⟩;have gf:Hid (Bk w7 bd 29 [.bool true,.slice (some ⟨bw,0,none⟩) 3 3,.slice none 0 0]):=by rw[bj,bH];exact(by have h:=Bk.new w6 29 [.bool true,.slice (some ⟨bw,0,none⟩) 3 3,.slice none 0 0];(try simp only[World.size_alloc]at h);exact h:Bk (w6.alloc (.cells #[.bool true,.slice (some ⟨bw,0,none⟩) 3 3,.slice none 0 0] 29)) (w6.heap.size) 29 [.bool true,.slice (some ⟨bw,0,none⟩) 3 3,.slice none 0 0])
 go_wp2_with fail
 (try rw[<-bj])
 (try rw[<-bH])
 replace bj:=zh bj;replace bH:=zh bH;have kk:=BD ⟨#[50]⟩ ⟨#[51]⟩ w7;refine kk.mono ?_;clear kk;rintro e w8 ⟨rfl,hb⟩;have fy:=zh (fx.out.trans (hb.mono fx.out.size));have fV:=zh (fU.out.below hb);have gm:=zh (gl.out.below hb);have f7:=zh (f6.out.below hb (Nat.le_refl _));have f1:=zh (f0.out.below hb);have gc:=zh (gb.out.below hb);have fP:=zh (fO.out.below hb (Nat.le_refl _));have gg:=zh (gf.out.below hb);clear hb fx fU gl f6 f0 gb fO gf
 go_wp2_with fail
 have kk:=BD ⟨#[49]⟩ ⟨#[51]⟩ w8;refine kk.mono ?_;clear kk;rintro e w9 ⟨rfl,hb⟩;have fz:=zh (fy.out.trans (hb.mono fy.out.size));have fW:=zh (fV.out.below hb);have gn:=zh (gm.out.below hb);have f8:=zh (f7.out.below hb (Nat.le_refl _));have f2:=zh (f1.out.below hb);have gd:=zh (gc.out.below hb);have fQ:=zh (fP.out.below hb (Nat.le_refl _));have gh:=zh (gg.out.below hb);clear hb fy fV gm f7 f1 gc fP gg
 go_wp2_with fail
 have kk:=BD ⟨#[49]⟩ ⟨#[49]⟩ w9;refine kk.mono ?_;clear kk;rintro e af ⟨rfl,hb⟩;have au:=zh (fz.out.trans (hb.mono fz.out.size));have b3:=zh (fW.out.below hb);have ex:=zh (gn.out.below hb);have cw:=zh (f8.out.below hb (Nat.le_refl _));have cf:=zh (f2.out.below hb);have cT:=zh (gd.out.below hb);have bN:=zh (fQ.out.below hb (Nat.le_refl _));have dh:=zh (gh.out.below hb);clear hb fz fW gn f8 f2 gd fQ gh;obtain⟨fL,ae⟩:∃X,X=(af.alloc (.cells #[.bool false,.string ⟨#[50]⟩,.string ⟨#[51]⟩,.bool false,.string ⟨#[49]⟩,.string ⟨#[51]⟩,.bool false,.string ⟨#[49]⟩,.string ⟨#[49]⟩] 40)):=⟨_,rfl⟩;have hd:Below af.heap.size af fL:=by rw[ae];exact((Below.refl _ af).alloc (Nat.le_refl _) _)
 have av:=zh (au.out.trans (hd.mono au.out.size));have b4:=zh (b3.out.below hd);have ey:=zh (ex.out.below hd);have cx:=zh (cw.out.below hd (Nat.le_refl _));have cg:=zh (cf.out.below hd);have cU:=zh (cT.out.below hd);have bO:=zh (bN.out.below hd (Nat.le_refl _));have di:=zh (dh.out.below hd);clear hd au b3 ex cw cf cT bN dh;obtain⟨bx,bM⟩:∃x,x=(af.heap.size):=⟨_,rfl⟩;have e4:Hid (Bk fL bx 40 [.bool false,.string ⟨#[50]⟩,.string ⟨#[51]⟩,.bool false,.string ⟨#[49]⟩,.string ⟨#[51]⟩,.bool false,.string ⟨#[49]⟩,.string ⟨#[49]⟩]):=by rw[ae,bM];exact(by have h:=Bk.new af 40 [.bool false,.string ⟨#[50]⟩,.string ⟨#[51]⟩,.bool false,.string ⟨#[49]⟩,.string ⟨#[51]⟩,.bool false,.string ⟨#[49]⟩,.string ⟨#[49]⟩];(try simp only[World.size_alloc]at h);exact h:Bk (af.alloc (.cells #[.bool false,.string ⟨#[50]⟩,.string ⟨#[51]⟩,.bool false,.string ⟨#[49]⟩,.string ⟨#[51]⟩,.bool false,.string ⟨#[49]⟩,.string ⟨#[49]⟩] 40)) (af.heap.size) 40 [.bool false,.string ⟨#[50]⟩,.string ⟨#[51]⟩,.bool false,.string ⟨#[49]⟩,.string ⟨#[51]⟩,.bool false,.string ⟨#[49]⟩,.string ⟨#[49]⟩])
 go_wp2_with fail
 (try rw[<-ae])
 (try rw[<-bM])
 replace ae:=zh ae;replace bM:=zh bM;have kk:=BD ⟨#[49]⟩ ⟨#[50]⟩ fL;refine kk.mono ?_;clear kk;rintro e gA ⟨rfl,hb⟩;have aw:=zh (av.out.trans (hb.mono av.out.size));have b5:=zh (b4.out.below hb);have ez:=zh (ey.out.below hb);have cy:=zh (cx.out.below hb (Nat.le_refl _));have ch:=zh (cg.out.below hb);have cV:=zh (cU.out.below hb);have bP:=zh (bO.out.below hb (Nat.le_refl _));have dj:=zh (di.out.below hb);have e5:=zh (e4.out.below hb);clear hb av b4 ey cx cg cU bO di e4
 go_wp2_with fail
 have kk:=BD ⟨#[49]⟩ ⟨#[52]⟩ gA;refine kk.mono ?_;clear kk;rintro e gB ⟨rfl,hb⟩;have ax:=zh (aw.out.trans (hb.mono aw.out.size));have b6:=zh (b5.out.below hb);have eA:=zh (ez.out.below hb);have cz:=zh (cy.out.below hb (Nat.le_refl _));have ci:=zh (ch.out.below hb);have cW:=zh (cV.out.below hb);have bQ:=zh (bP.out.below hb (Nat.le_refl _));have dk:=zh (dj.out.below hb);have e6:=zh (e5.out.below hb);clear hb aw b5 ez cy ch cV bP dj e5
 go_wp2_with fail
 have kk:=BD ⟨#[49]⟩ ⟨#[49]⟩ gB;refine kk.mono ?_;clear kk;rintro e a ⟨rfl,hb⟩;have ay:=zh (ax.out.trans (hb.mono ax.out.size));have b7:=zh (b6.out.below hb);have eB:=zh (eA.out.below hb);have cA:=zh (cz.out.below hb (Nat.le_refl _));have cj:=zh (ci.out.below hb);have cX:=zh (cW.out.below hb);have bR:=zh (bQ.out.below hb (Nat.le_refl _));have dl:=zh (dk.out.below hb);have e7:=zh (e6.out.below hb);clear hb ax b6 eA cz ci cW bQ dk e6;have z3:Bk (((a.alloc (.cells #[.bool false,.string ⟨#[49]⟩,.string ⟨#[50]⟩,.bool false,.string ⟨#[49]⟩,.string ⟨#[52]⟩,.bool false,.string ⟨#[49]⟩,.string ⟨#[49]⟩] 40)).alloc (.cells #[.int .i64 1,.int .i64 2,.int .i64 0] 3)).alloc (.cells #[.bool false,.slice (some ⟨a.heap.size,0,none⟩) 3 3,.slice (some ⟨a.heap.size+1,0,none⟩) 3 3] 29)) (a.heap.size+1+1) 29 [.bool false,.slice (some ⟨a.heap.size,0,none⟩) 3 3,.slice (some ⟨a.heap.size+1,0,none⟩) 3 3]:=(by have h:=Bk.new ((a.alloc (.cells #[.bool false,.string ⟨#[49]⟩,.string ⟨#[50]⟩,.bool false,.string ⟨#[49]⟩,.string ⟨#[52]⟩,.bool false,.string ⟨#[49]⟩,.string ⟨#[49]⟩] 40)).alloc (.cells #[.int .i64 1,.int .i64 2,.int .i64 0] 3)) 29 [.bool false,.slice (some ⟨a.heap.size,0,none⟩) 3 3,.slice (some ⟨a.heap.size+1,0,none⟩) 3 3];(try simp only[World.size_alloc]at h);exact h:Bk (((a.alloc (.cells #[.bool false,.string ⟨#[49]⟩,.string ⟨#[50]⟩,.bool false,.string ⟨#[49]⟩,.string ⟨#[52]⟩,.bool false,.string ⟨#[49]⟩,.string ⟨#[49]⟩] 40)).alloc (.cells #[.int .i64 1,.int .i64 2,.int .i64 0] 3)).alloc (.cells #[.bool false,.slice (some ⟨a.heap.size,0,none⟩) 3 3,.slice (some ⟨a.heap.size+1,0,none⟩) 3 3] 29)) (a.heap.size+1+1) 29 [.bool false,.slice (some ⟨a.heap.size,0,none⟩) 3 3,.slice (some ⟨a.heap.size+1,0,none⟩) 3 3]);have z3_0:=z3.c0;have z3_1:=z3.c1;have z3_2:=z3.c2;have z3_9:=z3.lt;clear z3;have z4:Bk (((((a.alloc (.cells #[.bool false,.string ⟨#[49]⟩,.string ⟨#[50]⟩,.bool false,.string ⟨#[49]⟩,.string ⟨#[52]⟩,.bool false,.string ⟨#[49]⟩,.string ⟨#[49]⟩] 40)).alloc (.cells #[.int .i64 1,.int .i64 2,.int .i64 0] 3)).alloc (.cells #[.bool false,.slice (some ⟨a.heap.size,0,none⟩) 3 3,.slice (some ⟨a.heap.size+1,0,none⟩) 3 3] 29)).alloc (.cells #[.bool false,.slice (some ⟨a.heap.size,0,none⟩) 3 3,.slice (some ⟨a.heap.size+1,0,none⟩) 3 3] 29)).alloc (.cells #[.int .i64 2,.int .i64 1,.int .i64 0] 3)) (a.heap.size+1+1+1) 29 [.bool false,.slice (some ⟨a.heap.size,0,none⟩) 3 3,.slice (some ⟨a.heap.size+1,0,none⟩) 3 3]:=(Bk.alloc (by have h:=Bk.new (((a.alloc (.cells #[.bool false,.string ⟨#[49]⟩,.string ⟨#[50]⟩,.bool false,.string ⟨#[49]⟩,.string ⟨#[52]⟩,.bool false,.string ⟨#[49]⟩,.string ⟨#[49]⟩] 40)).alloc (.cells #[.int .i64 1,.int .i64 2,.int .i64 0] 3)).alloc (.cells #[.bool false,.slice (some ⟨a.heap.size,0,none⟩) 3 3,.slice (some ⟨a.heap.size+1,0,none⟩) 3 3] 29)) 29 [.bool false,.slice (some ⟨a.heap.size,0,none⟩) 3 3,.slice (some ⟨a.heap.size+1,0,none⟩) 3 3];(try simp only[World.size_alloc]at h);exact h:Bk ((((a.alloc (.cells #[.bool false,.string ⟨#[49]⟩,.string ⟨#[50]⟩,.bool false,.string ⟨#[49]⟩,.string ⟨#[52]⟩,.bool false,.string ⟨#[49]⟩,.string ⟨#[49]⟩] 40)).alloc (.cells #[.int .i64 1,.int .i64 2,.int .i64 0] 3)).alloc (.cells #[.bool false,.slice (some ⟨a.heap.size,0,none⟩) 3 3,.slice (some ⟨a.heap.size+1,0,none⟩) 3 3] 29)).alloc (.cells #[.bool false,.slice (some ⟨a.heap.size,0,none⟩) 3 3,.slice (some ⟨a.heap.size+1,0,none⟩) 3 3] 29)) (a.heap.size+1+1+1) 29 [.bool false,.slice (some ⟨a.heap.size,0,none⟩) 3 3,.slice (some ⟨a.heap.size+1,0,none⟩) 3 3]) (.cells #[.int .i64 2,.int .i64 1,.int .i64 0] 3));have z4_0:=z4.c0;have z4_1:=z4.c1;have z4_2:=z4.c2;have z4_9:=z4.lt;have z4_f0:=z4.frozen 0;have z4_f1:=z4.frozen 1;have z4_f2:=z4.frozen 2;clear z4;have z5:Bk ((((((a.alloc (.cells #[.bool false,.string ⟨#[49]⟩,.string ⟨#[50]⟩,.bool false,.string ⟨#[49]⟩,.string ⟨#[52]⟩,.bool false,.string ⟨#[49]⟩,.string ⟨#[49]⟩] 40)).alloc (.cells #[.int .i64 1,.int .i64 2,.int .i64 0] 3)).alloc (.cells #[.bool false,.slice (some ⟨a.heap.size,0,none⟩) 3 3,.slice (some ⟨a.heap.size+1,0,none⟩) 3 3] 29)).alloc (.cells #[.bool false,.slice (some ⟨a.heap.size,0,none⟩) 3 3,.slice (some ⟨a.heap.size+1,0,none⟩) 3 3] 29)).alloc (.cells #[.int .i64 2,.int .i64 1,.int .i64 0] 3)).setCell ⟨a.heap.size+1+1+1,2,none⟩ (.slice (some ⟨a.heap.size+1+1+1+1,0,none⟩) 3 3)) (a.heap.size+1+1) 29 [.bool false,.slice (some ⟨a.heap.size,0,none⟩) 3 3,.slice (some ⟨a.heap.size+1,0,none⟩) 3 3]:=(Bk.far (Bk.alloc (Bk.alloc (by have h:=Bk.new ((a.alloc (.cells #[.bool false,.string ⟨#[49]⟩,.string ⟨#[50]⟩,.bool false,.string ⟨#[49]⟩,.string ⟨#[52]⟩,.bool false,.string ⟨#[49]⟩,.string ⟨#[49]⟩] 40)).alloc (.cells #[.int .i64 1,.int .i64 2,.int .i64 0] 3)) 29 [.bool false,.slice (some ⟨a.heap.size,0,none⟩) 3 3,.slice (some ⟨a.heap.size+1,0,none⟩) 3 3];(try simp only[World.size_alloc]at h);exact h:Bk (((a.alloc (.cells #[.bool false,.string ⟨#[49]⟩,.string ⟨#[50]⟩,.bool false,.string ⟨#[49]⟩,.string ⟨#[52]⟩,.bool false,.string ⟨#[49]⟩,.string ⟨#[49]⟩] 40)).alloc (.cells #[.int .i64 1,.int .i64 2,.int .i64 0] 3)).alloc (.cells #[.bool false,.slice (some ⟨a.heap.size,0,none⟩) 3 3,.slice (some ⟨a.heap.size+1,0,none⟩) 3 3] 29)) (a.heap.size+1+1) 29 [.bool false,.slice (some ⟨a.heap.size,0,none⟩) 3 3,.slice (some ⟨a.heap.size+1,0,none⟩) 3 3]) (.cells #[.bool false,.slice (some ⟨a.heap.size,0,none⟩) 3 3,.slice (some ⟨a.heap.size+1,0,none⟩) 3 3] 29)) (.cells #[.int .i64 2,.int .i64 1,.int .i64 0] 3)) (p:=⟨a.heap.size+1+1+1,2,none⟩) (by show (a.heap.size+1+1:Nat)≠a.heap.size+1+1+1;omega) (.slice (some ⟨a.heap.size+1+1+1+1,0,none⟩) 3 3));have z5_0:=z5.c0;have z5_1:=z5.c1;have z5_2:=z5.c2;have z5_9:=z5.lt;clear z5;have z6:Bk (((((a.alloc (.cells #[.bool false,.string ⟨#[49]⟩,.string ⟨#[50]⟩,.bool false,.string ⟨#[49]⟩,.string ⟨#[52]⟩,.bool false,.string ⟨#[49]⟩,.string ⟨#[49]⟩] 40)).alloc (.cells #[.int .i64 1,.int .i64 2,.int .i64 0] 3)).alloc (.cells #[.bool false,.slice (some ⟨a.heap.size,0,none⟩) 3 3,.slice (some ⟨a.heap.size+1,0,none⟩) 3 3] 29)).alloc (.cells #[.bool false,.slice (some ⟨a.heap.size,0,none⟩) 3 3,.slice (some ⟨a.heap.size+1+1+1+1,0,none⟩) 3 3] 29)).alloc (.cells #[.int .i64 2,.int .i64 1,.int .i64 0] 3)) (a.heap.size+1+1) 29 [.bool false,.slice (some ⟨a.heap.size,0,none⟩) 3 3,.slice (some ⟨a.heap.size+1,0,none⟩) 3 3]:=(Bk.alloc (Bk.alloc (by have h:=Bk.new ((a.alloc (.cells #[.bool false,.string ⟨#[49]⟩,.string ⟨#[50]⟩,.bool false,.string ⟨#[49]⟩,.string ⟨#[52]⟩,.bool false,.string ⟨#[49]⟩,.string ⟨#[49]⟩] 40)).alloc (.cells #[.int .i64 1,.int .i64 2,.int .i64 0] 3)) 29 [.bool false,.slice (some ⟨a.heap.size,0,none⟩) 3 3,.slice (some ⟨a.heap.size+1,0,none⟩) 3 3];(try simp only[World.size_alloc]at h);exact h:Bk (((a.alloc (.cells #[.bool false,.string ⟨#[49]⟩,.string ⟨#[50]⟩,.bool false,.string ⟨#[49]⟩,.string ⟨#[52]⟩,.bool false,.string ⟨#[49]⟩,.string ⟨#[49]⟩] 40)).alloc (.cells #[.int .i64 1,.int .i64 2,.int .i64 0] 3)).alloc (.cells #[.bool false,.slice (some ⟨a.heap.size,0,none⟩) 3 3,.slice (some ⟨a.heap.size+1,0,none⟩) 3 3] 29)) (a.heap.size+1+1) 29 [.bool false,.slice (some ⟨a.heap.size,0,none⟩) 3 3,.slice (some ⟨a.heap.size+1,0,none⟩) 3 3]) (.cells #[.bool false,.slice (some ⟨a.heap.size,0,none⟩) 3 3,.slice (some ⟨a.heap.size+1+1+1+1,0,none⟩) 3 3] 29)) (.cells #[.int .i64 2,.int .i64 1,.int .i64 0] 3));have z6_0:=z6.c0;have z6_1:=z6.c1;have z6_2:=z6.c2;have z6_9:=z6.lt;clear z6;obtain⟨ag,aa⟩:∃X,X=((((((a.alloc (.cells #[.bool false,.string ⟨#[49]⟩,.string ⟨#[50]⟩,.bool false,.string ⟨#[49]⟩,.string ⟨#[52]⟩,.bool false,.string ⟨#[49]⟩,.string ⟨#[49]⟩] 40)).alloc (.cells #[.int .i64 1,.int .i64 2,.int .i64 0] 3)).alloc (.cells #[.bool false,.slice (some ⟨a.heap.size,0,none⟩) 3 3,.slice (some ⟨a.heap.size+1,0,none⟩) 3 3] 29)).alloc (.cells #[.bool false,.slice (some ⟨a.heap.size,0,none⟩) 3 3,.slice (some ⟨a.heap.size+1+1+1+1,0,none⟩) 3 3] 29)).alloc (.cells #[.int .i64 2,.int .i64 1,.int .i64 0] 3)).alloc (.cells #[.bool true,.slice (some ⟨a.heap.size,0,none⟩) 3 3,.slice none 0 0] 29)):=⟨_,rfl⟩;have hd:Below a.heap.size a ag:=by rw[aa];exact((((((Below.refl _ a).alloc (Nat.le_refl _) _).alloc (by simp) _).alloc (by simp;omega) _).alloc (by simp;omega) _).alloc (by simp;omega) _).alloc (by simp;omega) _
 have az:=zh (ay.out.trans (hd.mono ay.out.size));have b8:=zh (b7.out.below hd);have eC:=zh (eB.out.below hd);have cB:=zh (cA.out.below hd (Nat.le_refl _));have ck:=zh (cj.out.below hd);have cY:=zh (cX.out.below hd);have bS:=zh (bR.out.below hd (Nat.le_refl _));have dq:=zh (dl.out.below hd);have e8:=zh (e7.out.below hd);clear hd ay b7 eB cA cj cX bR dl e7;have fl:Bk ag (a.heap.size) 40 [.bool false,.string ⟨#[49]⟩,.string ⟨#[50]⟩,.bool false,.string ⟨#[49]⟩,.string ⟨#[52]⟩,.bool false,.string ⟨#[49]⟩,.string ⟨#[49]⟩]:=by rw[aa];exact(Bk.alloc (Bk.alloc (Bk.alloc (Bk.alloc (Bk.alloc (by have h:=Bk.new a 40 [.bool false,.string ⟨#[49]⟩,.string ⟨#[50]⟩,.bool false,.string ⟨#[49]⟩,.string ⟨#[52]⟩,.bool false,.string ⟨#[49]⟩,.string ⟨#[49]⟩];(try simp only[World.size_alloc]at h);exact h:Bk (a.alloc (.cells #[.bool false,.string ⟨#[49]⟩,.string ⟨#[50]⟩,.bool false,.string ⟨#[49]⟩,.string ⟨#[52]⟩,.bool false,.string ⟨#[49]⟩,.string ⟨#[49]⟩] 40)) (a.heap.size) 40 [.bool false,.string ⟨#[49]⟩,.string ⟨#[50]⟩,.bool false,.string ⟨#[49]⟩,.string ⟨#[52]⟩,.bool false,.string ⟨#[49]⟩,.string ⟨#[49]⟩]) (.cells #[.int .i64 1,.int .i64 2,.int .i64 0] 3)) (.cells #[.bool false,.slice (some ⟨a.heap.size,0,none⟩) 3 3,.slice (some ⟨a.heap.size+1,0,none⟩) 3 3] 29)) (.cells #[.bool false,.slice (some ⟨a.heap.size,0,none⟩) 3 3,.slice (some ⟨a.heap.size+1+1+1+1,0,none⟩) 3 3] 29)) (.cells #[.int .i64 2,.int .i64 1,.int .i64 0] 3)) (.cells #[.bool true,.slice (some ⟨a.heap.size,0,none⟩) 3 3,.slice none 0 0] 29))
 have fr:Bk ag (a.heap.size+1) 3 [.int .i64 1,.int .i64 2,.int .i64 0]:=by rw[aa];exact(Bk.alloc (Bk.alloc (Bk.alloc (Bk.alloc (by have h:=Bk.new (a.alloc (.cells #[.bool false,.string ⟨#[49]⟩,.string ⟨#[50]⟩,.bool false,.string ⟨#[49]⟩,.string ⟨#[52]⟩,.bool false,.string ⟨#[49]⟩,.string ⟨#[49]⟩] 40)) 3 [.int .i64 1,.int .i64 2,.int .i64 0];(try simp only[World.size_alloc]at h);exact h:Bk ((a.alloc (.cells #[.bool false,.string ⟨#[49]⟩,.string ⟨#[50]⟩,.bool false,.string ⟨#[49]⟩,.string ⟨#[52]⟩,.bool false,.string ⟨#[49]⟩,.string ⟨#[49]⟩] 40)).alloc (.cells #[.int .i64 1,.int .i64 2,.int .i64 0] 3)) (a.heap.size+1) 3 [.int .i64 1,.int .i64 2,.int .i64 0]) (.cells #[.bool false,.slice (some ⟨a.heap.size,0,none⟩) 3 3,.slice (some ⟨a.heap.size+1,0,none⟩) 3 3] 29)) (.cells #[.bool false,.slice (some ⟨a.heap.size,0,none⟩) 3 3,.slice (some ⟨a.heap.size+1+1+1+1,0,none⟩) 3 3] 29)) (.cells #[.int .i64 2,.int .i64 1,.int .i64 0] 3)) (.cells #[.bool true,.slice (some ⟨a.heap.size,0,none⟩) 3 3,.slice none 0 0] 29))
 have fo:Bk ag (a.heap.size+1+1) 29 [.bool false,.slice (some ⟨a.heap.size,0,none⟩) 3 3,.slice (some ⟨a.heap.size+1,0,none⟩) 3 3]:=by rw[aa];exact(Bk.alloc (Bk.alloc (Bk.alloc (by have h:=Bk.new ((a.alloc (.cells #[.bool false,.string ⟨#[49]⟩,.string ⟨#[50]⟩,.bool false,.string ⟨#[49]⟩,.string ⟨#[52]⟩,.bool false,.string ⟨#[49]⟩,.string ⟨#[49]⟩] 40)).alloc (.cells #[.int .i64 1,.int .i64 2,.int .i64 0] 3)) 29 [.bool false,.slice (some ⟨a.heap.size,0,none⟩) 3 3,.slice (some ⟨a.heap.size+1,0,none⟩) 3 3];(try simp only[World.size_alloc]at h);exact h:Bk (((a.alloc (.cells #[.bool false,.string ⟨#[49]⟩,.string ⟨#[50]⟩,.bool false,.string ⟨#[49]⟩,.string ⟨#[52]⟩,.bool false,.string ⟨#[49]⟩,.string ⟨#[49]⟩] 40)).alloc (.cells #[.int .i64 1,.int .i64 2,.int .i64 0] 3)).alloc (.cells #[.bool false,.slice (some ⟨a.heap.size,0,none⟩) 3 3,.slice (some ⟨a.heap.size+1,0,none⟩) 3 3] 29)) (a.heap.size+1+1) 29 [.bool false,.slice (some ⟨a.heap.size,0,none⟩) 3 3,.slice (some ⟨a.heap.size+1,0,none⟩) 3 3]) (.cells #[.bool false,.slice (some ⟨a.heap.size,0,none⟩) 3 3,.slice (some ⟨a.heap.size+1+1+1+1,0,none⟩) 3 3] 29)) (.cells #[.int .i64 2,.int .i64 1,.int .i64 0] 3)) (.cells #[.bool true,.slice (some ⟨a.heap.size,0,none⟩) 3 3,.slice none 0 0] 29))
 have ft:Bk ag (a.heap.size+1+1+1) 29 [.bool false,.slice (some ⟨a.heap.size,0,none⟩) 3 3,.slice (some ⟨a.heap.size+1+1+1+1,0,none⟩) 3 3]:=by rw[aa];exact(Bk.alloc (Bk.alloc (by have h:=Bk.new (((a.alloc (.cells #[.bool false,.string ⟨#[49]⟩,.string ⟨#[50]⟩,.bool false,.string ⟨#[49]⟩,.string ⟨#[52]⟩,.bool false,.string ⟨#[49]⟩,.string ⟨#[49]⟩] 40)).alloc (.cells #[.int .i64 1,.int .i64 2,.int .i64 0] 3)).alloc (.cells #[.bool false,.slice (some ⟨a.heap.size,0,none⟩) 3 3,.slice (some ⟨a.heap.size+1,0,none⟩) 3 3] 29)) 29 [.bool false,.slice (some ⟨a.heap.size,0,none⟩) 3 3,.slice (some ⟨a.heap.size+1+1+1+1,0,none⟩) 3 3];(try simp only[World.size_alloc]at h);exact h:Bk ((((a.alloc (.cells #[.bool false,.string ⟨#[49]⟩,.string ⟨#[50]⟩,.bool false,.string ⟨#[49]⟩,.string ⟨#[52]⟩,.bool false,.string ⟨#[49]⟩,.string ⟨#[49]⟩] 40)).alloc (.cells #[.int .i64 1,.int .i64 2,.int .i64 0] 3)).alloc (.cells #[.bool false,.slice (some ⟨a.heap.size,0,none⟩) 3 3,.slice (some ⟨a.heap.size+1,0,none⟩) 3 3] 29)).alloc (.cells #[.bool false,.slice (some ⟨a.heap.size,0,none⟩) 3 3,.slice (some ⟨a.heap.size+1+1+1+1,0,none⟩) 3 3] 29)) (a.heap.size+1+1+1) 29 [.bool false,.slice (some ⟨a.heap.size,0,none⟩) 3 3,.slice (some ⟨a.heap.size+1+1+1+1,0,none⟩) 3 3]) (.cells #[.int .i64 2,.int .i64 1,.int .i64 0] 3)) (.cells #[.bool true,.slice (some ⟨a.heap.size,0,none⟩) 3 3,.slice none 0 0] 29))
 have fk:Bk ag (a.heap.size+1+1+1+1) 3 [.int .i64 2,.int .i64 1,.int .i64 0]:=by rw[aa];exact(Bk.alloc (by have h:=Bk.new ((((a.alloc (.cells #[.bool false,.string ⟨#[49]⟩,.string ⟨#[50]⟩,.bool false,.string ⟨#[49]⟩,.string ⟨#[52]⟩,.bool false,.string ⟨#[49]⟩,.string ⟨#[49]⟩] 40)).alloc (.cells #[.int .i64 1,.int .i64 2,.int .i64 0] 3)).alloc (.cells #[.bool false,.slice (some ⟨a.heap.size,0,none⟩) 3 3,.slice (some ⟨a.heap.size+1,0,none⟩) 3 3] 29)).alloc (.cells #[.bool false,.slice (some ⟨a.heap.size,0,none⟩) 3 3,.slice (some ⟨a.heap.size+1+1+1+1,0,none⟩) 3 3] 29)) 3 [.int .i64 2,.int .i64 1,.int .i64 0];(try simp only[World.size_alloc]at h);exact h:Bk (((((a.alloc (.cells #[.bool false,.string ⟨#[49]⟩,.string ⟨#[50]⟩,.bool false,.string ⟨#[49]⟩,.string ⟨#[52]⟩,.bool false,.string ⟨#[49]⟩,.string ⟨#[49]⟩] 40)).alloc (.cells #[.int .i64 1,.int .i64 2,.int .i64 0] 3)).alloc (.cells #[.bool false,.slice (some ⟨a.heap.size,0,none⟩) 3 3,.slice (some ⟨a.heap.size+1,0,none⟩) 3 3] 29)).alloc (.cells #[.bool false,.slice (some ⟨a.heap.size,0,none⟩) 3 3,.slice (some ⟨a.heap.size+1+1+1+1,0,none⟩) 3 3] 29)).alloc (.cells #[.int .i64 2,.int .i64 1,.int .i64 0] 3)) (a.heap.size+1+1+1+1) 3 [.int .i64 2,.int .i64 1,.int .i64 0]) (.cells #[.bool true,.slice (some ⟨a.heap.size,0,none⟩) 3 3,.slice none 0 0] 29))
 have fu:Bk ag (a.heap.size+1+1+1+1+1) 29 [.bool true,.slice (some ⟨a.heap.size,0,none⟩) 3 3,.slice none 0 0]:=by rw[aa];exact(by have h:=Bk.new (((((a.alloc (.cells #[.bool false,.string ⟨#[49]⟩,.string ⟨#[50]⟩,.bool false,.string ⟨#[49]⟩,.string ⟨#[52]⟩,.bool false,.string ⟨#[49]⟩,.string ⟨#[49]⟩] 40)).alloc (.cells #[.int .i64 1,.int .i64 2,.int .i64 0] 3)).alloc (.cells #[.bool false,.slice (some ⟨a.heap.size,0,none⟩) 3 3,.slice (some ⟨a.heap.size+1,0,none⟩) 3 3] 29)).alloc (.cells #[.bool false,.slice (some ⟨a.heap.size,0,none⟩) 3 3,.slice (some ⟨a.heap.size+1+1+1+1,0,none⟩) 3 3] 29)).alloc (.cells #[.int .i64 2,.int .i64 1,.int .i64 0] 3)) 29 [.bool true,.slice (some ⟨a.heap.size,0,none⟩) 3 3,.slice none 0 0];(try simp only[World.size_alloc]at h);exact h:Bk ((((((a.alloc (.cells #[.bool false,.string ⟨#[49]⟩,.string ⟨#[50]⟩,.bool false,.string ⟨#[49]⟩,.string ⟨#[52]⟩,.bool false,.string ⟨#[49]⟩,.string ⟨#[49]⟩] 40)).alloc (.cells #[.int .i64 1,.int .i64 2,.int .i64 0] 3)).alloc (.cells #[.bool false,.slice (some ⟨a.heap.size,0,none⟩) 3 3,.slice (some ⟨a.heap.size+1,0,none⟩) 3 3] 29)).alloc (.cells #[.bool false,.slice (some ⟨a.heap.size,0,none⟩) 3 3,.slice (some ⟨a.heap.size+1+1+1+1,0,none⟩) 3 3] 29)).alloc (.cells #[.int .i64 2,.int .i64 1,.int .i64 0] 3)).alloc (.cells #[.bool true,.slice (some ⟨a.heap.size,0,none⟩) 3 3,.slice none 0 0] 29)) (a.heap.size+1+1+1+1+1) 29 [.bool true,.slice (some ⟨a.heap.size,0,none⟩) 3 3,.slice none 0 0])
 obtain⟨bl,fD⟩:∃x,x=a.heap.size:=⟨_,rfl⟩
 go_wp2_with fail
 (try rw[<-aa])
 simp only[<-fD]at fl fr fo ft fk fu ⊢;obtain⟨bu,fG⟩:∃x,x=bl+1+1+1+1+1:=⟨_,rfl⟩;obtain⟨bk,fC⟩:∃x,x=bl+1+1+1+1:=⟨_,rfl⟩;obtain⟨bt,fF⟩:∃x,x=bl+1+1+1:=⟨_,rfl⟩;obtain⟨bo,fE⟩:∃x,x=bl+1+1:=⟨_,rfl⟩;obtain⟨rr,fJ⟩:∃x,x=bl+1:=⟨_,rfl⟩;simp only[<-fG]at fu ⊢;simp only[<-fC]at ft fk ⊢;simp only[<-fF]at ft ⊢;simp only[<-fE]at fo ⊢;simp only[<-fJ]at fr fo ⊢;replace aa:=zh aa;replace fD:=zh fD;replace fJ:=zh fJ;replace fE:=zh fE;replace fF:=zh fF;replace fC:=zh fC;replace fG:=zh fG;have dT:=zh fl;clear fl;have ek:=zh fr;clear fr;have d9:=zh fo;clear fo;have eI:=zh ft;clear ft;have dI:=zh fk;clear fk;have eT:=zh fu;clear fu;have kk:=BD ⟨#[49]⟩ ⟨#[49]⟩ ag;refine kk.mono ?_;clear kk;rintro e gC ⟨rfl,hb⟩;have aA:=zh (az.out.trans (hb.mono az.out.size));have b9:=zh (b8.out.below hb);have eD:=zh (eC.out.below hb);have cC:=zh (cB.out.below hb (Nat.le_refl _));have cl:=zh (ck.out.below hb);have cZ:=zh (cY.out.below hb);have bT:=zh (bS.out.below hb (Nat.le_refl _));have dr:=zh (dq.out.below hb);have e9:=zh (e8.out.below hb);have dU:=zh (dT.out.below hb);have el:=zh (ek.out.below hb);have ea:=zh (d9.out.below hb);have eJ:=zh (eI.out.below hb);have dJ:=zh (dI.out.below hb);have eU:=zh (eT.out.below hb);clear hb az b8 eC cB ck cY bS dq e8 dT ek d9 eI dI eT;clear z3_0 z3_1 z3_2 z3_9 z4_0 z4_1 z4_2 z4_9 z4_f0 z4_f1 z4_f2 z5_0 z5_1 z5_2 z5_9 z6_0 z6_1 z6_2 z6_9
 go_wp2_with fail
 have kk:=BD ⟨#[49]⟩ ⟨#[49]⟩ gC;refine kk.mono ?_;clear kk;rintro e gD ⟨rfl,hb⟩;have aB:=zh (aA.out.trans (hb.mono aA.out.size));have ca:=zh (b9.out.below hb);have eE:=zh (eD.out.below hb);have cD:=zh (cC.out.below hb (Nat.le_refl _));have cm:=zh (cl.out.below hb);have c8:=zh (cZ.out.below hb);have bU:=zh (bT.out.below hb (Nat.le_refl _));have ds:=zh (dr.out.below hb);have fa:=zh (e9.out.below hb);have dV:=zh (dU.out.below hb);have em:=zh (el.out.below hb);have eb:=zh (ea.out.below hb);have eK:=zh (eJ.out.below hb);have dK:=zh (dJ.out.below hb);have eV:=zh (eU.out.below hb);clear hb aA b9 eD cC cl cZ bT dr e9 dU el ea eJ dJ eU
 go_wp2_with fail
 have kk:=BD ⟨#[49]⟩ ⟨#[49]⟩ gD;refine kk.mono ?_;clear kk;rintro e d ⟨rfl,hb⟩;have aC:=zh (aB.out.trans (hb.mono aB.out.size));have cc:=zh (ca.out.below hb);have eF:=zh (eE.out.below hb);have cE:=zh (cD.out.below hb (Nat.le_refl _));have cn:=zh (cm.out.below hb);have aT:=zh (c8.out.below hb);have bW:=zh (bU.out.below hb (Nat.le_refl _));have dt:=zh (ds.out.below hb);have fc:=zh (fa.out.below hb);have dW:=zh (dV.out.below hb);have en:=zh (em.out.below hb);have ec:=zh (eb.out.below hb);have eL:=zh (eK.out.below hb);have dL:=zh (dK.out.below hb);have eW:=zh (eV.out.below hb);clear hb aB ca eE cD cm c8 bU ds fa dV em eb eK dK eV;have z7:Bk ((d.alloc (.cells #[.bool false,.string ⟨#[49]⟩,.string ⟨#[49]⟩,.bool false,.string ⟨#[49]⟩,.string ⟨#[49]⟩,.bool false,.string ⟨#[49]⟩,.string ⟨#[49]⟩] 40)).alloc (.cells #[.bool true,.slice (some ⟨d.heap.size,0,none⟩) 3 3,.slice none 0 0] 29)) bc 29 [.bool false,.slice (some ⟨bv,0,none⟩) 3 3,.slice (some ⟨br,0,none⟩) 3 3]:=(Bk.alloc (Bk.alloc aT.out (.cells #[.bool false,.string ⟨#[49]⟩,.string ⟨#[49]⟩,.bool false,.string ⟨#[49]⟩,.string ⟨#[49]⟩,.bool false,.string ⟨#[49]⟩,.string ⟨#[49]⟩] 40)) (.cells #[.bool true,.slice (some ⟨d.heap.size,0,none⟩) 3 3,.slice none 0 0] 29));have z7_0:=z7.c0;have z7_1:=z7.c1;have z7_2:=z7.c2;have z7_9:=z7.lt;clear z7;obtain⟨ar,ad⟩:∃X,X=(((d.alloc (.cells #[.bool false,.string ⟨#[49]⟩,.string ⟨#[49]⟩,.bool false,.string ⟨#[49]⟩,.string ⟨#[49]⟩,.bool false,.string ⟨#[49]⟩,.string ⟨#[49]⟩] 40)).alloc (.cells #[.bool true,.slice (some ⟨d.heap.size,0,none⟩) 3 3,.slice none 0 0] 29)).alloc (.cells #[.int .i64 1,.int .i64 2,.int .i64 0] 3)):=⟨_,rfl⟩;have hd:Below d.heap.size d ar:=by rw[ad];exact((((Below.refl _ d).alloc (Nat.le_refl _) _).alloc (by simp) _).alloc (by simp;omega) _)
 have aD:=zh (aC.out.trans (hd.mono aC.out.size));have cd:=zh (cc.out.below hd);have eG:=zh (eF.out.below hd);have aP:=zh (cE.out.below hd (Nat.le_refl _));have aN:=zh (cn.out.below hd);have c9:=zh (aT.out.below hd);have bX:=zh (bW.out.below hd (Nat.le_refl _));have du:=zh (dt.out.below hd);have bm:=zh (fc.out.below hd);have dX:=zh (dW.out.below hd);have eo:=zh (en.out.below hd);have ed:=zh (ec.out.below hd);have eM:=zh (eL.out.below hd);have dM:=zh (dL.out.below hd);have eX:=zh (eW.out.below hd);clear hd aC cc eF cE cn aT bW dt fc dW en ec eL dL eW;obtain⟨bn,aS⟩:∃x,x=(d.heap.size):=⟨_,rfl⟩;have d2:Hid (Bk ar bn 40 [.bool false,.string ⟨#[49]⟩,.string ⟨#[49]⟩,.bool false,.string ⟨#[49]⟩,.string ⟨#[49]⟩,.bool false,.string ⟨#[49]⟩,.string ⟨#[49]⟩]):=by rw[ad,aS];exact(Bk.alloc (Bk.alloc (by have h:=Bk.new d 40 [.bool false,.string ⟨#[49]⟩,.string ⟨#[49]⟩,.bool false,.string ⟨#[49]⟩,.string ⟨#[49]⟩,.bool false,.string ⟨#[49]⟩,.string ⟨#[49]⟩];(try simp only[World.size_alloc]at h);exact h:Bk (d.alloc (.cells #[.bool false,.string ⟨#[49]⟩,.string ⟨#[49]⟩,.bool false,.string ⟨#[49]⟩,.string ⟨#[49]⟩,.bool false,.string ⟨#[49]⟩,.string ⟨#[49]⟩] 40)) (d.heap.size) 40 [.bool false,.string ⟨#[49]⟩,.string ⟨#[49]⟩,.bool false,.string ⟨#[49]⟩,.string ⟨#[49]⟩,.bool false,.string ⟨#[49]⟩,.string ⟨#[49]⟩]) (.cells #[.bool true,.slice (some ⟨d.heap.size,0,none⟩) 3 3,.slice none 0 0] 29)) (.cells #[.int .i64 1,.int .i64 2,.int .i64 0] 3))
 obtain⟨ba,bF⟩:∃x,x=(d.heap.size+1):=⟨_,rfl⟩;have an:Hid (Bk ar ba 29 [.bool true,.slice (some ⟨d.heap.size,0,none⟩) 3 3,.slice none 0 0]):=by rw[ad,bF];exact(Bk.alloc (by have h:=Bk.new (d.alloc (.cells #[.bool false,.string ⟨#[49]⟩,.string ⟨#[49]⟩,.bool false,.string ⟨#[49]⟩,.string ⟨#[49]⟩,.bool false,.string ⟨#[49]⟩,.string ⟨#[49]⟩] 40)) 29 [.bool true,.slice (some ⟨d.heap.size,0,none⟩) 3 3,.slice none 0 0];(try simp only[World.size_alloc]at h);exact h:Bk ((d.alloc (.cells #[.bool false,.string ⟨#[49]⟩,.string ⟨#[49]⟩,.bool false,.string ⟨#[49]⟩,.string ⟨#[49]⟩,.bool false,.string ⟨#[49]⟩,.string ⟨#[49]⟩] 40)).alloc (.cells #[.bool true,.slice (some ⟨d.heap.size,0,none⟩) 3 3,.slice none 0 0] 29)) (d.heap.size+1) 29 [.bool true,.slice (some ⟨d.heap.size,0,none⟩) 3 3,.slice none 0 0]) (.cells #[.int .i64 1,.int .i64 2,.int .i64 0] 3))
 obtain⟨be,bI⟩:∃x,x=(d.heap.size+1+1):=⟨_,rfl⟩;have aX:Hid (Bk ar be 3 [.int .i64 1,.int .i64 2,.int .i64 0]):=by rw[ad,bI];exact(by have h:=Bk.new ((d.alloc (.cells #[.bool false,.string ⟨#[49]⟩,.string ⟨#[49]⟩,.bool false,.string ⟨#[49]⟩,.string ⟨#[49]⟩,.bool false,.string ⟨#[49]⟩,.string ⟨#[49]⟩] 40)).alloc (.cells #[.bool true,.slice (some ⟨d.heap.size,0,none⟩) 3 3,.slice none 0 0] 29)) 3 [.int .i64 1,.int .i64 2,.int .i64 0];(try simp only[World.size_alloc]at h);exact h:Bk (((d.alloc (.cells #[.bool false,.string ⟨#[49]⟩,.string ⟨#[49]⟩,.bool false,.string ⟨#[49]⟩,.string ⟨#[49]⟩,.bool false,.string ⟨#[49]⟩,.string ⟨#[49]⟩] 40)).alloc (.cells #[.bool true,.slice (some ⟨d.heap.size,0,none⟩) 3 3,.slice none 0 0] 29)).alloc (.cells #[.int .i64 1,.int .i64 2,.int .i64 0] 3)) (d.heap.size+1+1) 3 [.int .i64 1,.int .i64 2,.int .i64 0])
 go_wp2_with fail
 (try rw[<-ad])
 (try rw[<-bI])
 (try rw[<-bF])
 (try rw[<-aS])
 replace ad:=zh ad;replace aS:=zh aS;replace bF:=zh bF;replace bI:=zh bI;have an:=zh (show Bk ar ba 29 [.bool true,.slice (some ⟨bn,0,none⟩) 3 3,.slice none 0 0] from by have h:=an.out;rw[<-aS.out]at h;exact h);have kk:=UF false _ _ _ _ 3 [1,2,0] q2 q1 1 ar rfl aP.out (Wh bm.out) aN.out (Kh aX.out) (by decide);refine kk.mono ?_;clear kk;rintro e gp ⟨rfl,hb⟩;have aE:=zh (aD.out.trans (hb.mono aD.out.size));have ce:=zh (cd.out.below hb);have eH:=zh (eG.out.below hb);have cF:=zh (aP.out.below hb (Nat.le_refl _));have co:=zh (aN.out.below hb);have da:=zh (c9.out.below hb);have aF:=zh (bX.out.below hb (Nat.le_refl _));have aV:=zh (du.out.below hb);have bp:=zh (bm.out.below hb);have dY:=zh (dX.out.below hb);have ep:=zh (eo.out.below hb);have ee:=zh (ed.out.below hb);have eN:=zh (eM.out.below hb);have dN:=zh (dM.out.below hb);have eY:=zh (eX.out.below hb);have d3:=zh (d2.out.below hb);have cL:=zh (an.out.below hb);have dB:=zh (aX.out.below hb);clear hb aD cd eG aP aN c9 bX du bm dX eo ed eM dM eX d2 an aX;clear z7_0 z7_1 z7_2 z7_9;have z8:Bk gp bd 29 [.bool true,.slice (some ⟨bw,0,none⟩) 3 3,.slice none 0 0]:=aV.out;have z8_0:=z8.c0;have z8_1:=z8.c1;have z8_2:=z8.c2;have z8_9:=z8.lt;clear z8
 go_wp2_with fail
 have kk:=UF true _ _ _ _ 0 [] q2 q1 1 gp rfl aF.out (Wh bp.out) (It _) (It _) (by decide);refine kk.mono ?_;clear kk;rintro e gq ⟨rfl,hb⟩;have ah:=zh (aE.out.trans (hb.mono aE.out.size));have aH:=zh (ce.out.below hb);have a5:=zh (eH.out.below hb);have aQ:=zh (cF.out.below hb (Nat.le_refl _));have aO:=zh (co.out.below hb);have aU:=zh (da.out.below hb);have bY:=zh (aF.out.below hb (Nat.le_refl _));have dw:=zh (aV.out.below hb);have fe:=zh (bp.out.below hb);have dZ:=zh (dY.out.below hb);have er:=zh (ep.out.below hb);have ef:=zh (ee.out.below hb);have eO:=zh (eN.out.below hb);have dO:=zh (dN.out.below hb);have eZ:=zh (eY.out.below hb);have d4:=zh (d3.out.below hb);have cM:=zh (cL.out.below hb);have dC:=zh (dB.out.below hb);clear hb aE ce eH cF co da aF aV bp dY ep ee eN dN eY d3 cL dB;clear z8_0 z8_1 z8_2 z8_9;have z9:Bk gq bc 29 [.bool false,.slice (some ⟨bv,0,none⟩) 3 3,.slice (some ⟨br,0,none⟩) 3 3]:=aU.out;have z9_0:=z9.c0;have z9_1:=z9.c1;have z9_2:=z9.c2;have z9_9:=z9.lt;clear z9
 go_wp2_with fail
 have kk:=PA gq pb cb bs (hE.out.below ah.out) aH.out a5.out false _ _ 3 q2 q1 1 [1,2,0] true rfl (by decide) aQ.out aO.out (by decide +kernel) (iff_of_true rfl (NY (by decide +kernel) (by decide +kernel) (by decide +kernel) Jw (by decide +kernel) (by decide +kernel) (by decide +kernel)));refine kk.mono ?_;clear kk;rintro e gs ⟨rfl,hb⟩;have ai:=zh (ah.out.trans (hb.mono ah.out.size));have aI:=zh (aH.out.below hb);have a6:=zh (a5.out.below hb);have cG:=zh (aQ.out.below hb (Nat.le_refl _));have cq:=zh (aO.out.below hb);have db:=zh (aU.out.below hb);have aG:=zh (bY.out.below hb (Nat.le_refl _));have aW:=zh (dw.out.below hb);have ff:=zh (fe.out.below hb);have d0:=zh (dZ.out.below hb);have es:=zh (er.out.below hb);have eg:=zh (ef.out.below hb);have eP:=zh (eO.out.below hb);have dP:=zh (dO.out.below hb);have e0:=zh (eZ.out.below hb);have d5:=zh (d4.out.below hb);have cN:=zh (cM.out.below hb);have dD:=zh (dC.out.below hb);clear hb ah aH a5 aQ aO aU bY dw fe dZ er ef eO dO eZ d4 cM dC;clear z9_0 z9_1 z9_2 z9_9;have bq:Bk gs bd 29 [.bool true,.slice (some ⟨bw,0,none⟩) 3 3,.slice none 0 0]:=aW.out;have z10_0:=bq.c0;have z10_1:=bq.c1;have z10_2:=bq.c2;have z10_9:=bq.lt;clear bq
 go_wp2_with fail
 have kk:=PA gs pb cb bs (hE.out.below ai.out) aI.out a6.out true _ _ 0 q2 q1 1 [] true rfl (by decide) aG.out (It _) (by decide +kernel) (iff_of_true rfl ((MZ rfl Jw).2 (by decide +kernel)));refine kk.mono ?_;clear kk;rintro e gu ⟨rfl,hb⟩;have aj:=zh (ai.out.trans (hb.mono ai.out.size));have aJ:=zh (aI.out.below hb);have a7:=zh (a6.out.below hb);have cH:=zh (cG.out.below hb (Nat.le_refl _));have cr:=zh (cq.out.below hb);have dc:=zh (db.out.below hb);have bZ:=zh (aG.out.below hb (Nat.le_refl _));have dx:=zh (aW.out.below hb);have fh:=zh (ff.out.below hb);have d1:=zh (d0.out.below hb);have et:=zh (es.out.below hb);have eh:=zh (eg.out.below hb);have eQ:=zh (eP.out.below hb);have dQ:=zh (dP.out.below hb);have e1:=zh (e0.out.below hb);have a2:=zh (d5.out.below hb);have aR:=zh (cN.out.below hb);have dE:=zh (dD.out.below hb);clear hb ai aI a6 cG cq db aG aW ff d0 es eg eP dP e0 d5 cN dD;clear z10_0 z10_1 z10_2 z10_9;have bz:Bk gu ba 29 [.bool true,.slice (some ⟨bn,0,none⟩) 3 3,.slice none 0 0]:=aR.out;have z11_0:=bz.c0;have z11_1:=bz.c1;have z11_2:=bz.c2;have z11_9:=bz.lt;clear bz
 go_wp2_with fail
 have kk:=PA gu pb cb bs (hE.out.below aj.out) aJ.out a7.out true _ _ 0 1 1 1 [] true rfl (by decide) (W6 a2.out) (It _) (by decide +kernel) (iff_of_true rfl ((MZ rfl Sz).2 (by decide +kernel)));refine kk.mono ?_;clear kk;rintro e gv ⟨rfl,hb⟩;have ak:=zh (aj.out.trans (hb.mono aj.out.size));have aK:=zh (aJ.out.below hb);have a8:=zh (a7.out.below hb);have cI:=zh (cH.out.below hb (Nat.le_refl _));have ct:=zh (cr.out.below hb);have dd:=zh (dc.out.below hb);have b0:=zh (bZ.out.below hb (Nat.le_refl _));have dy:=zh (dx.out.below hb);have fi:=zh (fh.out.below hb);have aZ:=zh (d1.out.below hb);have eu:=zh (et.out.below hb);have ei:=zh (eh.out.below hb);have eR:=zh (eQ.out.below hb);have dR:=zh (dQ.out.below hb);have bi:=zh (e1.out.below hb);have d6:=zh (a2.out.below hb);have cP:=zh (aR.out.below hb);have dF:=zh (dE.out.below hb);clear hb aj aJ a7 cH cr dc bZ dx fh d1 et eh eQ dQ e1 a2 aR dE;clear z11_0 z11_1 z11_2 z11_9;have bA:Bk gv bu 29 [.bool true,.slice (some ⟨bl,0,none⟩) 3 3,.slice none 0 0]:=bi.out;have z12_0:=bA.c0;have z12_1:=bA.c1;have z12_2:=bA.c2;have z12_9:=bA.lt;clear bA
 go_wp2_with fail
 have kk:=PA gv pb cb bs (hE.out.below ak.out) aK.out a8.out true _ _ 0 (1/2) (1/4) 1 [] false rfl (by decide) (V0 aZ.out) (It _) (by decide +kernel) (iff_of_false (by decide) (fun h=>absurd ((MZ rfl NZ).1 h) (by decide +kernel)));refine kk.mono ?_;clear kk;rintro e gw ⟨rfl,hb⟩;have al:=zh (ak.out.trans (hb.mono ak.out.size));have aL:=zh (aK.out.below hb);have a9:=zh (a8.out.below hb);have cJ:=zh (cI.out.below hb (Nat.le_refl _));have cu:=zh (ct.out.below hb);have de:=zh (dd.out.below hb);have b1:=zh (b0.out.below hb (Nat.le_refl _));have dz:=zh (dy.out.below hb);have fj:=zh (fi.out.below hb);have a0:=zh (aZ.out.below hb);have a4:=zh (eu.out.below hb);have a3:=zh (ei.out.below hb);have eS:=zh (eR.out.below hb);have dS:=zh (dR.out.below hb);have e2:=zh (bi.out.below hb);have d7:=zh (d6.out.below hb);have cR:=zh (cP.out.below hb);have dG:=zh (dF.out.below hb);clear hb ak aK a8 cI ct dd b0 dy fi aZ eu ei eR dR bi d6 cP dF;clear z12_0 z12_1 z12_2 z12_9;have bB:Bk gw bo 29 [.bool false,.slice (some ⟨bl,0,none⟩) 3 3,.slice (some ⟨rr,0,none⟩) 3 3]:=a3.out;have z13_0:=bB.c0;have z13_1:=bB.c1;have z13_2:=bB.c2;have z13_9:=bB.lt;clear bB
 go_wp2_with fail
 have kk:=PA gw pb cb bs (hE.out.below al.out) aL.out a9.out false _ _ 3 (1/2) (1/4) 1 [1,2,0] true rfl (by decide) (V0 a0.out) (Kh a4.out) (by decide +kernel) (iff_of_true rfl (NY (by decide +kernel) (by decide +kernel) (by decide +kernel) NZ (by decide +kernel) (by decide +kernel) (by decide +kernel)));refine kk.mono ?_;clear kk;rintro e gx ⟨rfl,hb⟩;have am:=zh (al.out.trans (hb.mono al.out.size));have aM:=zh (aL.out.below hb);have bb:=zh (a9.out.below hb);have cK:=zh (cJ.out.below hb (Nat.le_refl _));have cv:=zh (cu.out.below hb);have df:=zh (de.out.below hb);have b2:=zh (b1.out.below hb (Nat.le_refl _));have dA:=zh (dz.out.below hb);have fm:=zh (fj.out.below hb);have a1:=zh (a0.out.below hb);have ew:=zh (a4.out.below hb);have ej:=zh (a3.out.below hb);have bh:=zh (eS.out.below hb);have aY:=zh (dS.out.below hb);have e3:=zh (e2.out.below hb);have d8:=zh (d7.out.below hb);have cS:=zh (cR.out.below hb);have dH:=zh (dG.out.below hb);clear hb al aL a9 cJ cu de b1 dz fj a0 a4 a3 eS dS e2 d7 cR dG;clear z13_0 z13_1 z13_2 z13_9;have bC:Bk gx bt 29 [.bool false,.slice (some ⟨bl,0,none⟩) 3 3,.slice (some ⟨bk,0,none⟩) 3 3]:=bh.out;have z14_0:=bC.c0;have z14_1:=bC.c1;have z14_2:=bC.c2;have z14_9:=bC.lt;clear bC
 go_wp2_with fail
 have kk:=PA gx pb cb bs (hE.out.below am.out) aM.out bb.out false _ _ 3 (1/2) (1/4) 1 [2,1,0] false rfl (by decide) (V0 a1.out) (Kh aY.out) (by decide +kernel) (iff_of_false (by decide) (Vy (by decide +kernel)));refine kk.mono ?_;clear kk;rintro e gV ⟨rfl,hb⟩;have fM:=zh (am.out.trans (hb.mono am.out.size));have gF:=zh (aM.out.below hb);have gR:=zh (bb.out.below hb);have gH:=zh (cK.out.below hb (Nat.le_refl _));have gG:=zh (cv.out.below hb);have gJ:=zh (df.out.below hb);have gE:=zh (b2.out.below hb (Nat.le_refl _));have gK:=zh (dA.out.below hb);have gU:=zh (fm.out.below hb);have gN:=zh (a1.out.below hb);have gQ:=zh (ew.out.below hb);have gP:=zh (ej.out.below hb);have gS:=zh (bh.out.below hb);have gM:=zh (aY.out.below hb);have gT:=zh (e3.out.below hb);have gO:=zh (d8.out.below hb);have gI:=zh (cS.out.below hb);have gL:=zh (dH.out.below hb);clear hb am aM bb cK cv df b2 dA fm a1 ew ej bh aY e3 d8 cS dH;clear z14_0 z14_1 z14_2 z14_9
 go_wp2_with fail
 refine bodyPost_ret (v:=.bool true) (by simp[results,Tryz.results11,go_sem]) rfl ⟨rfl,fM.out⟩
end Bd
end
section
open Go.RowKit Go.Shelf
namespace Ci
open Nt
def E2 (x:Lk):Prop:=x.2.2.2.1.size<=400/\x.2.2.2.2.size<=400
instance (x:Lk):Decidable (E2 x):=inferInstanceAs (Decidable (_/\_))
def DU (s:SR):Bool:=decide (s.ps.length<=70/\s.cap.length<=300/\s.vot.length<=300)&&(decide (∀i (h:i<s.ps.length),s.ps[i].size<=100)&&(decide (∀i (h:i<s.cap.length),E2 s.cap[i])&&decide (∀i (h:i<s.vot.length),E2 s.vot[i])))
theorem Gc {s:SR} (h:¬(s.ps.length<=70/\s.cap.length<=300/\s.vot.length<=300)):DU s=false:=by unfold DU;rw[decide_eq_false h];rfl
theorem V4 {s:SR} {k:Nat} (h:k<s.ps.length) (hb:¬s.ps[k].size<=100):DU s=false:=by unfold DU;rw[decide_eq_false (p:=∀i (h:i<s.ps.length),s.ps[i].size<=100) fun c=>hb (c k h)];simp
theorem Uo {s:SR} {k:Nat} (h:k<s.cap.length) (hb:¬E2 s.cap[k]):DU s=false:=by unfold DU;rw[decide_eq_false (p:=∀i (h:i<s.cap.length),E2 s.cap[i]) fun c=>hb (c k h)];simp
theorem Up {s:SR} {k:Nat} (h:k<s.vot.length) (hb:¬E2 s.vot[k]):DU s=false:=by unfold DU;rw[decide_eq_false (p:=∀i (h:i<s.vot.length),E2 s.vot[i]) fun c=>hb (c k h)];simp
theorem Uq {s:SR} (h1:s.ps.length<=70) (h2:s.cap.length<=300) (h3:s.vot.length<=300) (h4:∀i (h:i<s.ps.length),s.ps[i].size<=100) (h5:∀i (h:i<s.cap.length),E2 s.cap[i]) (h6:∀i (h:i<s.vot.length),E2 s.vot[i]):DU s=true:=by
 unfold DU;rw[decide_eq_true ⟨h1,h2,h3⟩,decide_eq_true h4,decide_eq_true h5,decide_eq_true h6];rfl
theorem SI (s : SR) (Ap Ac Av:Option Addr) (cp cc cv:Nat) (w:World) (hs:StIn w s Ap Ac Av) :
 Calls Tryz.prog 34 #[.agg #[.slice Ap s.ps.length cp,.slice Ac s.cap.length cc,.slice Av s.vot.length cv]] w fun e w'=>e=.returned (.bool (DU s))/\Below w.heap.size w w':=by
 have n1:=hs.np;have n2:=hs.nc;have n3:=hs.nv;have hB:Hid (Below w.heap.size w (w.alloc (.cells #[.slice Ap s.ps.length cp,.slice Ac s.cap.length cc,.slice Av s.vot.length cv] 25))):=(Below.refl _ w).alloc (Nat.le_refl _) _;replace hs:=zh hs
 by_cases h1:s.ps.length<=70
 · by_cases h2 : s.cap.length<=300
   · by_cases h3 : s.vot.length<=300
     · have ah:=zh (show s.ps.length<=70/\s.cap.length<=300/\s.vot.length<=300 from⟨h1,h2,h3⟩);have m1:decide (70<(s.ps.length:Int))=false:=decide_eq_false (by omega);have m2:decide (300<(s.cap.length:Int))=false:=decide_eq_false (by omega);have m3:decide (300<(s.vot.length:Int))=false:=decide_eq_false (by omega);go_enter Tryz.func34,Tryz.ntmps34;go_wp2
       go_loop [3] (fun i=>∃k:Nat,k<=s.ps.length/\i=.int .i64 (k:Int)/\Hid (∀i (h:i<s.ps.length),i<k->s.ps[i].size<=100)) (fun i=>s.ps.length-(intOf i).toNat)
       case atStart=>exact⟨0,Nat.zero_le _,rfl,fun i _ h=>absurd h (Nat.not_lt_zero _)⟩
       case round =>
        obtain⟨k,hk,rfl,ag⟩:=hrel
        by_cases hlt:k<s.ps.length
        · obtain ⟨b,o,rfl,aa,hc⟩:=hs.out.ps (by omega);have e4:=hc k hlt;have z1:=hs.out.zp s.ps[k] (List.getElem_mem hlt)
          have d:Hid (s.ps[k].size<=100->∀i (h:i<s.ps.length),i<k+1->s.ps[i].size<=100):=fun h i h1 h2=>by
           by_cases e:i=k
           · subst e;exact h
           · exact ag.out i h1 (by omega)
          have a:Hid (¬s.ps[k].size<=100->DU s=false):=fun h=>V4 hlt h;obtain⟨nm,hx⟩:∃x,x=s.ps[k]:=⟨_,rfl⟩;rw[<-hx]at e4 z1 d a;have y4:=(World.cell?_alloc_lt w (.cells #[.slice (some ⟨b,o,none⟩) s.ps.length cp,.slice Ac s.cap.length cc,.slice Av s.vot.length cv] 25) (⟨b,o+k,none⟩:Addr) aa).trans e4;have j0:(0:Int)<=(k:Int):=by omega
          have j1:(k:Int)<(s.ps.length:Int):=by omega
          clear hc hx e4
          by_cases n4:nm.size<=100
          · have m1:decide (100<(nm.size:Int))=false:=decide_eq_false (by omega);have ad:=zh (d.out n4);go_wp2;go_round
            case rel=>exact⟨k+1,by omega,by go_num,ad⟩
            case measure=>simp[intOf];omega
          · have m1:decide (100<(nm.size:Int))=true:=decide_eq_true (by omega);have hG:=zh (a.out n4);go_wp2;go_ret;exact⟨Ak hG.out.symm,hB.out⟩
        · obtain rfl:k=s.ps.length:=by omega
          go_wp2
          go_loop [4] (fun i=>∃k:Nat,k<=s.cap.length/\i=.int .i64 (k:Int)/\Hid (∀i (h:i<s.cap.length),i<k->E2 s.cap[i])) (fun i=>s.cap.length-(intOf i).toNat)
          case atStart=>exact⟨0,Nat.zero_le _,rfl,fun i _ h=>absurd h (Nat.not_lt_zero _)⟩
          case round =>
           obtain⟨k,hk,rfl,ae⟩:=hrel
           by_cases hlt:k<s.cap.length
           · obtain ⟨b,o,rfl,aa,hc⟩:=hs.out.cap (by omega);obtain⟨_,_,_,e4,e5⟩:=hc k hlt;have hz:=hs.out.zc s.cap[k] (List.getElem_mem hlt)
             have d:Hid (E2 s.cap[k]->∀i (h:i<s.cap.length),i<k+1->E2 s.cap[i]):=fun h i h1 h2=>by
              by_cases e:i=k
              · subst e;exact h
              · exact ae.out i h1 (by omega)
             have a:Hid (¬E2 s.cap[k]->DU s=false):=fun h=>Uo hlt h;obtain⟨x,hx⟩:∃x,x=s.cap[k]:=⟨_,rfl⟩;rw[<-hx]at e4 e5 hz d a;obtain⟨co,ho,g,nn,dd⟩:=x;obtain⟨z1,z2⟩:=hz;replace z1:nn.size<=140737488355328:=z1;replace z2:dd.size<=140737488355328:=z2;replace d:Hid (nn.size<=400/\dd.size<=400->∀i (h:i<s.cap.length),i<k+1->E2 s.cap[i]):=d;replace a:Hid (¬(nn.size<=400/\dd.size<=400)->DU s=false):=a;have y4:=(World.cell?_alloc_lt w (.cells #[.slice Ap s.ps.length cp,.slice (some ⟨b,o,none⟩) s.cap.length cc,.slice Av s.vot.length cv] 25) (⟨b,o+k*5+3,none⟩:Addr) aa).trans e4;have y5:=(World.cell?_alloc_lt w (.cells #[.slice Ap s.ps.length cp,.slice (some ⟨b,o,none⟩) s.cap.length cc,.slice Av s.vot.length cv] 25) (⟨b,o+k*5+4,none⟩:Addr) aa).trans e5;have j0:(0:Int)<=(k:Int):=by omega
             have j1:(k:Int)<(s.cap.length:Int):=by omega
             clear hc hx e4 e5
             by_cases n4:nn.size<=400
             · have m1:decide (400<(nn.size:Int))=false:=decide_eq_false (by omega)
               by_cases n5:dd.size<=400
               · have m2:decide (400<(dd.size:Int))=false:=decide_eq_false (by omega);have ad:=zh (d.out ⟨n4,n5⟩);go_wp2;go_round
                 case rel=>exact⟨k+1,by omega,by go_num,ad⟩
                 case measure=>simp[intOf];omega
               · have m2:decide (400<(dd.size:Int))=true:=decide_eq_true (by omega);have hG:=zh (a.out fun h=>n5 h.2);go_wp2;go_ret;exact⟨Ak hG.out.symm,hB.out⟩
             · have m1:decide (400<(nn.size:Int))=true:=decide_eq_true (by omega);have hG:=zh (a.out fun h=>n4 h.1);go_wp2;go_ret;exact⟨Ak hG.out.symm,hB.out⟩
           · obtain rfl:k=s.cap.length:=by omega
             go_wp2
             go_loop [5] (fun i=>∃k:Nat,k<=s.vot.length/\i=.int .i64 (k:Int)/\Hid (∀i (h:i<s.vot.length),i<k->E2 s.vot[i])) (fun i=>s.vot.length-(intOf i).toNat)
             case atStart=>exact⟨0,Nat.zero_le _,rfl,fun i _ h=>absurd h (Nat.not_lt_zero _)⟩
             case round =>
              obtain⟨k,hk,rfl,af⟩:=hrel
              by_cases hlt:k<s.vot.length
              · obtain ⟨b,o,rfl,aa,hc⟩:=hs.out.vot (by omega);obtain⟨_,_,_,e4,e5⟩:=hc k hlt;have hz:=hs.out.zv s.vot[k] (List.getElem_mem hlt)
                have d:Hid (E2 s.vot[k]->∀i (h:i<s.vot.length),i<k+1->E2 s.vot[i]):=fun h i h1 h2=>by
                 by_cases e:i=k
                 · subst e;exact h
                 · exact af.out i h1 (by omega)
                have a:Hid (¬E2 s.vot[k]->DU s=false):=fun h=>Up hlt h;obtain⟨x,hx⟩:∃x,x=s.vot[k]:=⟨_,rfl⟩;rw[<-hx]at e4 e5 hz d a;obtain⟨co,ho,g,nn,dd⟩:=x;obtain⟨z1,z2⟩:=hz;replace z1:nn.size<=140737488355328:=z1;replace z2:dd.size<=140737488355328:=z2;replace d:Hid (nn.size<=400/\dd.size<=400->∀i (h:i<s.vot.length),i<k+1->E2 s.vot[i]):=d;replace a:Hid (¬(nn.size<=400/\dd.size<=400)->DU s=false):=a;have y4:=(World.cell?_alloc_lt w (.cells #[.slice Ap s.ps.length cp,.slice Ac s.cap.length cc,.slice (some ⟨b,o,none⟩) s.vot.length cv] 25) (⟨b,o+k*5+3,none⟩:Addr) aa).trans e4;have y5:=(World.cell?_alloc_lt w (.cells #[.slice Ap s.ps.length cp,.slice Ac s.cap.length cc,.slice (some ⟨b,o,none⟩) s.vot.length cv] 25) (⟨b,o+k*5+4,none⟩:Addr) aa).trans e5;have j0:(0:Int)<=(k:Int):=by omega
                have j1:(k:Int)<(s.vot.length:Int):=by omega
                clear hc hx e4 e5
                by_cases n4:nn.size<=400
                · have m1:decide (400<(nn.size:Int))=false:=decide_eq_false (by omega)
                  by_cases n5:dd.size<=400
                  · have m2:decide (400<(dd.size:Int))=false:=decide_eq_false (by omega);have ad:=zh (d.out ⟨n4,n5⟩);go_wp2;go_round
                    case rel=>exact⟨k+1,by omega,by go_num,ad⟩
                    case measure=>simp[intOf];omega
                  · have m2:decide (400<(dd.size:Int))=true:=decide_eq_true (by omega);have hG:=zh (a.out fun h=>n5 h.2);go_wp2;go_ret;exact⟨Ak hG.out.symm,hB.out⟩
                · have m1:decide (400<(nn.size:Int))=true:=decide_eq_true (by omega);have hG:=zh (a.out fun h=>n4 h.1);go_wp2;go_ret;exact⟨Ak hG.out.symm,hB.out⟩
              · obtain rfl:k=s.vot.length:=by omega
                have hG:=zh (Uq (s:=s) ah.out.1 ah.out.2.1 ah.out.2.2 (fun i h=>ag.out i h h) (fun i h=>ae.out i h h) (fun i h=>af.out i h h));go_wp2;go_ret;exact⟨Ak hG.out.symm,hB.out⟩
     · have hG:=zh (Gc (s:=s) fun h=>h3 h.2.2);go_enter Tryz.func34,Tryz.ntmps34;go_wp2;go_ret;exact⟨Ak hG.out.symm,hB.out⟩
   · have hG:=zh (Gc (s:=s) fun h=>h2 h.2.1);go_enter Tryz.func34,Tryz.ntmps34;go_wp2;go_ret;exact⟨Ak hG.out.symm,hB.out⟩
 · have hG:=zh (Gc (s:=s) fun h=>h1 h.1);go_enter Tryz.func34,Tryz.ntmps34;go_wp2;go_ret;exact⟨Ak hG.out.symm,hB.out⟩
end Ci
end
section
open Go.RowKit Go.Shelf
namespace Bd
open Nt Ci Sh
def BPost (p:Bool->Prop) (w:World) (e:Ending) (w':World):Prop:=(∃r,e=.returned (.bool r)/\p r)/\Below w.heap.size w w'
theorem BPost.mkB {p:Bool->Prop} {w:World} {e:Ending} {w':World} {r:Bool} (h1:e=.returned (.bool r)) (h2:p r) (h3:Below w.heap.size w w'):BPost p w e w':=⟨⟨r,h1,h2⟩,h3⟩
def Nd (V:List Raw) (R:List Int):Prop:=V.length<=70/\R.length<=70/\∀k (h:k<V.length),V[k].2.1.size<=400/\V[k].2.2.size<=400
theorem SJ (ab:Bool) (Aw Ar:Option Addr) (cw cr:Nat) (V:List Raw) (R:List Int) (w:World) (hV:InRow w Aw V) (ai:V.length<=140737488355328) (ah:R.length<=140737488355328)
 (ad:∀k (h:k<V.length),V[k].2.1.size<=140737488355328/\V[k].2.2.size<=140737488355328) :
 Calls Tryz.prog 23 #[.agg #[.bool ab,.slice Aw V.length cw,.slice Ar R.length cr]] w (BPost (fun r=>r=true->Nd V R) w):=by
 obtain⟨W,hW⟩:∃X,X=w.alloc (.cells #[.bool ab,.slice Aw V.length cw,.slice Ar R.length cr] 29):=⟨_,rfl⟩;have ae:Below w.heap.size w W:=by rw[hW];exact(Below.refl _ w).alloc (Nat.le_refl _) _
 have hX:Bk W w.heap.size 29 [.bool ab,.slice Aw V.length cw,.slice Ar R.length cr]:=by rw[hW];exact Bk.new _ _ _
 have d:=zh ae;have x1:=hX.c1;have x2:=hX.c2;have x9:=hX.lt;have hI:=zh (hV.below ae (Nat.le_refl _));replace ad:=zh ad;clear ae hX hV;go_enter Tryz.func23,Tryz.ntmps23
 by_cases h1:70<V.length
 · have m1:decide ((70:Int)<(V.length:Int))=true:=decide_eq_true (by omega);have m2:decide (70<V.length)=true:=decide_eq_true (by omega);replace h1:=zh h1;rw[hW]at x1 x2 x9;go_wp2;rw[<-hW];go_ret;exact BPost.mkB (r:=false) rfl (fun h=>by cases h) d.out
 · have m1 : decide ((70:Int)<(V.length:Int))=false:=decide_eq_false (by omega);have m2:decide (70<V.length)=false:=decide_eq_false (by omega)
   by_cases h2:70<R.length
   · have m3:decide ((70:Int)<(R.length:Int))=true:=decide_eq_true (by omega);have m4:decide (70<R.length)=true:=decide_eq_true (by omega);replace h2:=zh h2;replace h1:=zh h1;rw[hW]at x1 x2 x9;go_wp2;rw[<-hW];go_ret;exact BPost.mkB (r:=false) rfl (fun h=>by cases h) d.out
   · have m3:decide ((70:Int)<(R.length:Int))=false:=decide_eq_false (by omega);have m4:decide (70<R.length)=false:=decide_eq_false (by omega);replace h2:=zh h2;replace h1:=zh h1;rw[hW]at x1 x2 x9;go_wp2;rw[<-hW]at x1 x2 x9;rw[<-hW];replace hW:=zh hW;clear m1 m2 m3 m4
     go_loopw [3] (fun ix wr=>∃(k:Nat),k<=V.length/\ix=.int .i64 (k:Int)/\wr=W/\Hid (∀i (_:i<k) (h:i<V.length),V[i].2.1.size<=400/\V[i].2.2.size<=400)) (fun ix _=>V.length-(intOf ix).toNat)
     case atStart=>exact⟨0,Nat.zero_le _,rfl,rfl,fun i h=>absurd h (Nat.not_lt_zero _)⟩
     case round =>
      obtain⟨k,hk,rfl,rfl,aa⟩:=hrel;have j0:(0:Int)<=(k:Int):=by omega
      by_cases hlt:k<V.length
      · have j1:(k:Int)<(V.length:Int):=by omega
        obtain⟨b,o,rfl,aj,hc⟩:=hI.out (by omega);obtain⟨e0,e1,e2⟩:=hc k hlt;have hs:=ad.out k hlt;obtain⟨x,hx⟩:∃x,x=V[k]:=⟨_,rfl⟩;rw[<-hx]at e0 e1 e2 hs
        have af:Hid (x.2.1.size<=400->x.2.2.size<=400->∀i (_:i<k+1) (h:i<V.length),V[i].2.1.size<=400/\V[i].2.2.size<=400):=fun a c i h1 h2=>by
         rcases Nat.lt_succ_iff_lt_or_eq.1 h1 with h | rfl
         · exact aa.out i h h2
         · rw[<-hx];exact⟨a,c⟩
        obtain⟨gg,nn,dd⟩:=x;dsimp only at e0 e1 e2 hs af;replace hx:=zh hx;clear hc aa
        by_cases h3:400<nn.size
        · have m1:decide ((400:Int)<(nn.size:Int))=true:=decide_eq_true (by omega);have m2:decide (400<nn.size)=true:=decide_eq_true h3;replace h3:=zh h3;go_wp2;go_ret;exact BPost.mkB (r:=false) rfl (fun h=>by cases h) d.out
        · have m1:decide ((400:Int)<(nn.size:Int))=false:=decide_eq_false (by omega);have m2:decide (400<nn.size)=false:=decide_eq_false h3
          by_cases h4:400<dd.size
          · have m3:decide ((400:Int)<(dd.size:Int))=true:=decide_eq_true (by omega);have m4:decide (400<dd.size)=true:=decide_eq_true h4;replace h4:=zh h4;replace h3:=zh h3;go_wp2;go_ret;exact BPost.mkB (r:=false) rfl (fun h=>by cases h) d.out
          · have m3:decide ((400:Int)<(dd.size:Int))=false:=decide_eq_false (by omega);have m4:decide (400<dd.size)=false:=decide_eq_false h4;have ag:=zh (af.out (by omega) (by omega));replace h4:=zh h4;replace h3:=zh h3;clear af;go_wp2;exact⟨⟨k+1,by omega,by go_num,by first | rfl | trivial,ag⟩,by simp only[intOf];omega⟩
      · obtain rfl:k=V.length:=by omega
        go_wp2;go_ret;exact BPost.mkB (r:=true) rfl (fun _=>⟨by have:=h1.out;omega,by have:=h2.out;omega,fun i h=>aa.out i h h⟩) d.out
theorem PB (s:SR) (Ap Ac Av Aw Ar:Option Addr) (cp cc cv cf cw cr:Nat) (Af:Option Addr) (F:List Int) (ab:Bool) (V:List Raw) (R:List Int) (w:World) (hs:StIn w s Ap Ac Av) (hF:F.length<=140737488355328) (hV:InRow w Aw V) (ai:V.length<=140737488355328) (ah:R.length<=140737488355328)
 (ae:∀k (h:k<V.length),V[k].2.1.size<=140737488355328/\V[k].2.2.size<=140737488355328) :
 Calls Tryz.prog 12 #[.agg #[.slice Ap s.ps.length cp,.slice Ac s.cap.length cc,.slice Av s.vot.length cv],.slice Af F.length cf,.agg #[.bool ab,.slice Aw V.length cw,.slice Ar R.length cr]] w (BPost (fun r=>r=true->DU s=true/\F.length<=70/\Nd V R) w):=by
 have d:Hid (Bk ((w.alloc (.cells #[.slice Ap s.ps.length cp,.slice Ac s.cap.length cc,.slice Av s.vot.length cv] 25)).alloc (.cells #[.bool ab,.slice Aw V.length cw,.slice Ar R.length cr] 29)) w.heap.size 25 (SC s Ap Ac Av cp cc cv)):=(Bk.new w _ _).alloc _;have af:Hid (Bk ((w.alloc (.cells #[.slice Ap s.ps.length cp,.slice Ac s.cap.length cc,.slice Av s.vot.length cv] 25)).alloc (.cells #[.bool ab,.slice Aw V.length cw,.slice Ar R.length cr] 29)) (w.heap.size+1) 29 [.bool ab,.slice Aw V.length cw,.slice Ar R.length cr]):=by have h:=Bk.new (w.alloc (.cells #[.slice Ap s.ps.length cp,.slice Ac s.cap.length cc,.slice Av s.vot.length cv] 25)) 29 [.bool ab,.slice Aw V.length cw,.slice Ar R.length cr];rw[World.size_alloc]at h;exact h
 have aa:Hid (Below w.heap.size w ((w.alloc (.cells #[.slice Ap s.ps.length cp,.slice Ac s.cap.length cc,.slice Av s.vot.length cv] 25)).alloc (.cells #[.bool ab,.slice Aw V.length cw,.slice Ar R.length cr] 29))):=((Below.refl _ w).alloc (Nat.le_refl _) _).alloc (by simp) _;have ks:=zh (SI s Ap Ac Av cp cc cv _ (hs.below aa.out));have u0:=d.out.c0;have u1:=d.out.c1;have u2:=d.out.c2;have u9:=d.out.lt;go_enter Tryz.func12,Tryz.ntmps12
 go_wp2_with fail
 refine ks.out.mono ?_;rintro e w2 ⟨rfl,hb⟩;have a:=zh (aa.out.trans (hb.mono aa.out.size));have ad:=zh (af.out.below hb);clear hb aa af d ks u0 u1 u2 u9;obtain⟨f,hf⟩:∃f,f=DU s:=⟨_,rfl⟩;rw[<-hf]
 cases f with
 | false =>
   replace hf:=zh hf;go_wp2;go_ret;exact BPost.mkB (r:=false) rfl (fun h=>by cases h) a.out
 | true =>
   by_cases h1:F.length<=70
   · have m1:decide ((F.length:Int)<=(70:Int))=true:=decide_eq_true (by omega);have m2:decide (F.length<=70)=true:=decide_eq_true (by omega);have kc:=zh (SJ ab Aw Ar cw cr V R w2 (hV.below a.out (Nat.le_refl _)) ai ah ae);have u0:=ad.out.c0;have u1:=ad.out.c1;have u2:=ad.out.c2;have u9:=ad.out.lt;replace h1:=zh h1;replace hf:=zh hf;replace ae:=zh ae;replace hV:=zh hV;replace hs:=zh hs
     go_wp2_with fail
     refine kc.out.mono ?_;rintro e w3 ⟨⟨r,rfl,hr⟩,hb⟩;have ag:=zh (a.out.trans (hb.mono a.out.size));replace hr:=zh hr;clear hb kc u0 u1 u2 u9;go_wp2;go_ret;exact BPost.mkB rfl (fun h=>⟨hf.out.symm,h1.out,hr.out h⟩) ag.out
   · have m1:decide ((F.length:Int)<=(70:Int))=false:=decide_eq_false (by omega);have m2:decide (F.length<=70)=false:=decide_eq_false (by omega);replace h1:=zh h1;replace hf:=zh hf;go_wp2;go_ret;exact BPost.mkB (r:=false) rfl (fun h=>by cases h) a.out
end Bd
end
section
open Go.RowKit Go.Shelf
namespace Bd
open Nt Ci Sh
structure CIn (W:World) (A B:Option Addr) (V:List Raw) (R:List Int):Prop where
 row:InRow W A V
 ints:InInt W B R
 lv:V.length<=140737488355328
 lr:R.length<=140737488355328
 sz:∀k (h:k<V.length),V[k].2.1.size<=140737488355328/\V[k].2.2.size<=140737488355328
theorem CIn.below {W W':World} {A B:Option Addr} {V:List Raw} {R:List Int} (h:CIn W A B V R) (hb:Below W.heap.size W W'):CIn W' A B V R:=⟨h.row.below hb (Nat.le_refl _),h.ints.below hb,h.lv,h.lr,h.sz⟩
theorem Ge {s:SR} (h:DU s=true):s.cap.length<=300:=by
 by_cases c:s.ps.length<=70/\s.cap.length<=300/\s.vot.length<=300
 · exact c.2.1
 · rw[Gc c]at h;cases h
theorem Oa {s:SR} (h:DU s=true):s.ps.length<=70:=by
 by_cases c:s.ps.length<=70/\s.cap.length<=300/\s.vot.length<=300
 · exact c.1
 · rw[Gc c]at h;cases h
theorem Gf (s:SR) (Ap Ac Av Af Aw Ar:Option Addr) (cp cc cv cf cw cr:Nat) (F:List Int) (ab:Bool) (V:List Raw) (R:List Int) (w:World) (hE:Env w) (hs:StIn w s Ap Ac Av) (d:s.cap.length<=300) (hF:InInt w Af F) (a:F.length<=140737488355328) (hC:CIn w Aw Ar V R) :
 Calls Tryz.prog 18 #[.agg #[.slice Ap s.ps.length cp,.slice Ac s.cap.length cc,.slice Av s.vot.length cv],.slice Af F.length cf,.agg #[.bool ab,.slice Aw V.length cw,.slice Ar R.length cr]] w (ChkPost s F ab V R w) :=
 Jo s Ap Ac Av Af Aw Ar cp cc cv cf cw cr F ab V R w hE hs d hF a hC.row hC.lv hC.sz hC.ints hC.lr
theorem SK (s:SR) (Ap Ac Av Aw Ar:Option Addr) (cp cc cv cf cw cr:Nat) (Af:Option Addr) (F:List Int) (ab:Bool) (V:List Raw) (R:List Int) (w:World) (hs:StIn w s Ap Ac Av) (hF:F.length<=140737488355328) (hC:CIn w Aw Ar V R) :
 Calls Tryz.prog 12 #[.agg #[.slice Ap s.ps.length cp,.slice Ac s.cap.length cc,.slice Av s.vot.length cv],.slice Af F.length cf,.agg #[.bool ab,.slice Aw V.length cw,.slice Ar R.length cr]] w (BPost (fun r=>r=true->DU s=true/\F.length<=70/\Nd V R) w) :=
 PB s Ap Ac Av Aw Ar cp cc cv cf cw cr Af F ab V R w hs hF hC.row hC.lv hC.lr hC.sz
section
variable {s:SR} {F:List Int} {V:List Raw} {R:List Int} {ab:Bool}
theorem Chk.sound (h:Chk s F ab V R):At s=true:=h.1.1
theorem Chk.len (h:Chk s F ab V R):V.length=s.ps.length:=h.2.1
theorem Chk.rks (h:Chk s F ab V R):R.length=if ab=true then 0 else s.ps.length:=h.2.2.1
theorem Chk.fits (h:Chk s F ab V R):Cg V=true:=h.2.2.2.1
theorem Chk.nn (h:Chk s F ab V R) (p:Nat):0<=BJ V p:=by
 obtain⟨_,D,hD⟩:=CN h.fits;exact hD.nn p
theorem Chk.abv (h:Chk s F true V R):Abv s.ps.length (Ae s.cap) (toN F) (BJ V):=fun p hp=>⟨h.nn p,(h.2.2.2.2 p hp).1 rfl⟩
theorem Chk.blw (h:Chk s F false V R):Blw s.ps.length (Ae s.cap) (toN F) (BJ V) (rnk R):=fun p hp=>⟨h.nn p,(h.2.2.2.2 p hp).2 rfl⟩
theorem Chk.short (h:Chk s F ab V R) (p:Nat):ShortQ (BJ V p):=by
 obtain⟨_,D,hD⟩:=CN h.fits;exact hD.short p
theorem Chk.raw (h:Chk s F ab V R) {p:Nat} (hp:p<V.length):V[p]=rq (BJ V p):=by
 have h1:=(CN h.fits).1;have h2:V[p]? = (AN V.length (BJ V))[p]?:=by rw[<-h1]
 rw[List.getElem?_eq_getElem hp,List.getElem?_eq_getElem (by rw[Ag];exact hp),BB]at h2;exact Option.some.inj h2
end
end Bd
end
section
open Go.ChangeShapes Go.WideShapes Go.ChangeAt Go.RowKit Go.Shelf Go.Joins Go.Deep
namespace Bd
open Nt Ci
section
variable {H:Type} {enc:TypeId×Value->H} {w:World} {base:Nat} {held:Bool}
def SL (k:Bool) (V:List Raw) (R:List Int) (d:DataW H):Prop:=∃dv dr,d=.agg [.lit (.bool k),dv,dr]/\Mz V dv/\I8 T3 R dr
theorem Nf:Tryz.prog.cellsOf 29=3:=by kernel_rfl
theorem PC {r:Go.Reach} {b0:Nat} {v:Value} {d:DataW H} {p:List MemPlace} (hv:Value.okWide Tryz.prog w r b0 29 v) (h:DataW.Trod enc Tryz.prog w base (fun _=>true) held 29 v d p) :
 ∃(k:Bool) (A D:Option Addr) (m o:Nat) (V:List Raw) (R:List Int),v=.agg #[.bool k,.slice A V.length m,.slice D R.length o]/\SL k V R d/\InRow w A V/\InInt w D R:=by
 obtain⟨c0,c1,c2,y0,y1,y2,m,rfl,rfl,_,a,aa,ad⟩:=open_agg3 Tryz.underlying29 (by kernel_rfl) Nf hv h;obtain⟨k,e0,rfl⟩:=DataW.trod_bool Tryz.underlying4 a;obtain⟨A,m,V,e1,i1,m1⟩:=TL aa;obtain⟨D,o,R,e2,i2,m2,_⟩:=Hz ad;simp only[List.cons.injEq,and_true]at e0 e1 e2;subst e0 e1 e2;exact⟨k,A,D,m,o,V,R,rfl,⟨_,_,rfl,i1,i2⟩,m1,m2⟩
theorem V5 {k:Bool} {V:List Raw} {R:List Int} {d:DataW H} {A D:Option Addr} (h:SL k V R d) (hw:∀m∈d.weights Tryz.prog 29,m<=140737488351232) (m1:InRow w A V) (m2:InInt w D R):CIn w A D V R:=by
 obtain⟨dv,dr,rfl,i1,i2⟩:=h
 have e:(DataW.agg [.lit (.bool k),dv,dr]).weights Tryz.prog 29=dv.weights Tryz.prog 27++dr.weights Tryz.prog 26:=by
  simp[DataW.weights,DataW.weightsEach,Tryz.underlying29]
 rw[e]at hw;obtain⟨a1,a2⟩:=R7 i1 fun m hm=>hw m (List.mem_append_left _ hm);obtain⟨b1,b2⟩:=FN Tryz.underlying26 (Nat.lt_of_lt_of_eq (by decide:0<8) (by kernel_rfl)) i2 fun m hm=>hw m (List.mem_append_right _ hm);exact⟨m1,m2,a1,b1,fun i hi=>a2 _ (List.getElem_mem hi)⟩
end
end Bd
end
section
open Go.RowKit Go.Shelf
namespace Bd
open Nt Ci Sh
theorem Lt {n:Nat} {f:Nat->Rat} {p:Nat} (hp:p<n):BJ (AN n f) p=f p:=by
 have h:p<(AN n f).length:=by rw[Ag];exact hp
 rw[JU h,BB,H9]
section
variable {s:SR} {F:List Int}
end
end Bd
end
section
open Go.RowKit Go.Shelf
namespace Sh
open Nt Ci
section
variable {l l':List Lk} {n k:Nat}
end
def wo (s:SR) (k:Nat):SR:=⟨s.ps,s.cap.eraseIdx k,s.vot⟩
end Sh
end
section
open Go.RowKit Go.Shelf
namespace Bd
open Nt Ci Sh
def byQ (ab:Bool):Rat:=if ab=true then 2 else 1/2
section
variable {s:SR} {F:List Int} {ab:Bool} {Va Vb V:List Raw} {Ra Rb R:List Int}
theorem Jy (h:Chk s F ab V R) (hf:Cg (AN s.ps.length fun p=>BJ V p*byQ ab)=true):Chk s F ab (AN s.ps.length fun p=>BJ V p*byQ ab) R:=by
 refine⟨h.1,Ag _ _,h.2.2.1,hf,?_⟩
 cases ab with
 | true =>
   have h:=Abv.double (u:=BJ (AN s.ps.length fun p=>BJ V p*byQ true)) (Cl h.sound) h.abv fun p hp=>by rw[Lt hp];rfl
   exact fun p hp=>⟨fun _=>(h p hp).2,fun e=>by cases e⟩
 | false =>
   have h:=Blw.halve (u:=BJ (AN s.ps.length fun p=>BJ V p*byQ false)) (Cl h.sound) h.blw fun p hp=>by rw[Lt hp];rfl
   exact fun p hp=>⟨fun e=>(by cases e),fun _=>(h p hp).2⟩
theorem Ob {n:Nat} {f:Nat->Rat} (h:∀p,p<n->ShortQ (f p)):∀k (hk:k<(AN n f).length),(AN n f)[k].2.1.size<=140737488355328/\(AN n f)[k].2.2.size<=140737488355328:=fun k hk=>by
 have a:k<n:=by rw[Ag]at hk;exact hk
 rw[BB];have h1:=Bt (h k a);exact⟨Nat.le_trans h1.1 (by decide),Nat.le_trans h1.2 (by decide)⟩
end
end Bd
end
section
open Go.RowKit Go.Shelf
namespace Bd
open Nt Ci Sh
def Wi (f:Nat->Int) (m:Nat):List Value:=(List.range m).map fun j=>.int .i64 (f j)
theorem Lu {W:World} {B m c:Nat} {A:Option Addr} {f:Nat->Rat} (h:W.ownsRow B 40 3 (.slice A m c) m (AF m fun p=>rq (f p))):InRow W A (AN m f):=by
 obtain⟨A2,c2,e,h2⟩:=Eu h;injection e with e1 _ _;rw[e1];exact h2
theorem PD {W:World} {base n m:Nat} {e:TypeId} {u:Value} {xs:List Value} (h:W.ownsRow base e m u n xs):∃A cap,u=.slice A n cap:=by
 rcases h.2 with⟨rfl,h0⟩ | ⟨g,cap,cur,rfl,_⟩
 · exact⟨none,0,by rw[h0]⟩
 · exact⟨_,cap,rfl⟩
theorem If:(Tryz.prog.info? 3).map (fun i=>(i.zero,i.size,i.bytes))=some (some (.int .i64 0),1,8):=by kernel_rfl
theorem Ki {W:World} {b:Nat} {t:TypeId} {u0 u1 u2:Value} (h:Bk W b t [u0,u1,u2]) (v0 v1 v2:Value) :
 Bk (((W.setCell ⟨b,0,none⟩ v0).setCell ⟨b,1,none⟩ v1).setCell ⟨b,2,none⟩ v2) b t [v0,v1,v2]:=((h.set 0 v0).set 1 v1).set 2 v2
theorem Oc {W:World} {b x:Nat} {t:TypeId} {l:List Value} (h:Bk W b t l) (a:b≠x) (v0 v1 v2:Value) :
 Bk (((W.setCell ⟨x,0,none⟩ v0).setCell ⟨x,1,none⟩ v1).setCell ⟨x,2,none⟩ v2) b t l :=
 ((h.far (p:=⟨x,0,none⟩) a v0).far (p:=⟨x,1,none⟩) a v1).far (p:=⟨x,2,none⟩) a v2
theorem Ng {w W:World} {x:Nat} (h:Below w.heap.size w W) (hx:w.heap.size<=x) (v0 v1 v2:Value) :
 Below w.heap.size w (((W.setCell ⟨x,0,none⟩ v0).setCell ⟨x,1,none⟩ v1).setCell ⟨x,2,none⟩ v2) :=
 ((h.setCell (p:=⟨x,0,none⟩) hx v0).setCell (p:=⟨x,1,none⟩) hx v1).setCell (p:=⟨x,2,none⟩) hx v2
end Bd
end
section
open Go.RowKit Go.Shelf
namespace Bd
open Nt Ci Sh
structure JV (wm W:World) (bc:Nat) (v0 v3:Value) (f:Nat->Rat) (A:Option Addr) (c p:Nat):Prop where
 kp:Kp [bc] wm W
 blk:Bk W bc 29 [v0,.slice A p c,v3]
 vals:W.ownsRow wm.heap.size 40 3 (.slice A p c) p (AF p fun i=>rq (f i))
 lt:bc<wm.heap.size
section
variable {wm W W1 wa:World} {bc c p c3 p3:Nat} {v0 v3 v9:Value} {f:Nat->Rat} {r:Nat->Int} {A A3:Option Addr}
theorem JV.start (h:Bk wm bc 29 [v0,.slice none 0 0,v3]):JV wm wm bc v0 v3 f none 0 0 :=
 ⟨Kp.refl _ _,h,World.ownsRow_nil _ _ _ _,h.lt⟩
theorem JV.below (h:JV wm W bc v0 v3 f A c p) (hb:Below W.heap.size W W1):JV wm W1 bc v0 v3 f A c p:=⟨h.kp.below hb,h.blk.below hb,AR h.vals hb,h.lt⟩
theorem JV.ne (h:JV wm W bc v0 v3 f A c p):some bc≠(Value.slice A p c).ownBlock:=fun e=>by
 have h1:=(h.vals.lt bc e.symm).1;have h2:=h.lt;omega
theorem JV.app (h:JV wm W1 bc v0 v3 f A c p) (ho:wa.ownsRow wm.heap.size 40 3 v9 (p+1) ((AF p fun i=>rq (f i))++Eb (rq (f p)))) (hg:W1.grownBy wa (Value.slice A p c).ownBlock) :
 ∃A9 c9,v9=.slice A9 (p+1) c9/\Kp [bc] wm wa/\Bk wa bc 29 [v0,.slice A p c,v3]/\JV wm (wa.setCell ⟨bc,1,none⟩ (.slice A9 (p+1) c9)) bc v0 v3 f A9 c9 (p+1):=by
 obtain⟨A9,c9,rfl⟩:=PD ho;have hk:Kp [bc] wm wa:=h.kp.grown hg fun b e=>.inr (h.vals.lt b e).1;have hb:Bk wa bc 29 [v0,.slice A p c,v3]:=h.blk.grown hg h.ne;rw[<-BM p fun i=>rq (f i)]at ho;exact⟨A9,c9,rfl,hk,hb,hk.set (a:=⟨bc,1,none⟩) _ (.inl (by simp)),hb.set 1 _,TK ho (fun e=>by have:=(ho.lt bc e).1;have:=h.lt;omega),h.lt⟩
structure JR (wm W:World) (bc:Nat) (v0:Value) (f:Nat->Rat) (r:Nat->Int) (A:Option Addr) (c p:Nat) (A3:Option Addr) (c3 p3:Nat):Prop where
 jv:JV wm W bc v0 (.slice A3 p3 c3) f A c p
 rks:W.ownsRow wm.heap.size 3 1 (.slice A3 p3 c3) p3 (Wi r p3)
 ap:Apart (.slice A p c) (.slice A3 p3 c3)
theorem JR.below (h:JR wm W bc v0 f r A c p A3 c3 p3) (hb:Below W.heap.size W W1):JR wm W1 bc v0 f r A c p A3 c3 p3:=⟨h.jv.below hb,AR h.rks hb,h.ap⟩
end
end Bd
end
section
open Go.RowKit Go.Shelf
namespace Bd
open Nt Ci Sh
noncomputable def bsR (j:Nat):Code:=((Tryz.f8.body.map Ci.B8).bind fun l=>l.find? (MH j)).getD .skip
theorem Wj {c0 c1 c2 c3 c4 c6 c7 c9 an ao aq ar au av aw ax ay az aA aB aC aD aE aF aG aH aI aJ aK aL aM aN aO aP aQ aR aS aT aU aV aW aX aY aZ a0 a1 a2 a3 a4 a5 a6 a7 a8 a9 bb bd be bf bg bj bk bm bn bo bp bq br bs bt bu bv:Value} {Q:Exit->Act->World->Prop} (ya yb ba fa na ma p:Nat) (g1 g2 g3:Bool) (n1 n2 n3 d1 d2 d3:ByteArray) (w:World) (HS:∀W,Below w.heap.size w W->(fun W=>W.cell? ⟨ya,1,none⟩=some (.slice (some ⟨ba,fa,none⟩) na ma)/\W.cell? ⟨ba,fa+p*3,none⟩=some (.bool g1)/\W.cell? ⟨ba,fa+p*3+1,none⟩=some (.string n1)/\W.cell? ⟨ba,fa+p*3+2,none⟩=some (.string d1)/\W.cell? ⟨yb,0,none⟩=some (.bool g2)/\W.cell? ⟨yb,1,none⟩=some (.string n2)/\W.cell? ⟨yb,2,none⟩=some (.string d2)) W) (bx:p<na) (hE:∀W,Below w.heap.size w W->Env W) (km:∀W,Env W->Calls Tryz.prog 26 #[.agg #[.bool g1,.string n1,.string d1],.agg #[.bool g2,.string n2,.string d2]] W fun e w'=>e=.returned (.tuple #[.agg #[.bool g3,.string n3,.string d3],.int .i64 0])/\Below W.heap.size W w')
 (h:∀(u43 u44 u45 u46 u47 u48 u49 u50 u51 u52:Value) (W:World) (xb:Nat) (_:Hid (Bk W xb 40 [.bool g3,.string n3,.string d3])) (_:Hid (Below w.heap.size w W)) (_:Hid (w.heap.size<=xb)),Q .normal ⟨#[c0,c1,c2,c3,c4,.pointer (some ⟨ya,0,none⟩),c6,c7,.pointer (some ⟨yb,0,none⟩),c9,.int .i64 (p:Int),.pointer (some ⟨xb,0,none⟩),.int .i64 0,an,ao,aq,ar,au,av,aw,ax,ay,az,aA,aB,aC,aD,aE,aF,aG,aH,aI,aJ,aK,aL,aM,aN,aO,aP,aQ,aR,aS,aT,u43,u44,u45,u46,u47,u48,u49,u50,u51,u52,aU,aV,aW,aX,aY,aZ,a0,a1,a2,a3,a4,a5,a6,a7,a8,a9,bb,bd,be,bf,bg],[]⟩ W) :
 Code.wp Tryz.prog (bsR 11) Q ⟨#[c0,c1,c2,c3,c4,.pointer (some ⟨ya,0,none⟩),c6,c7,.pointer (some ⟨yb,0,none⟩),c9,.int .i64 (p:Int),bj,bk,an,ao,aq,ar,au,av,aw,ax,ay,az,aA,aB,aC,aD,aE,aF,aG,aH,aI,aJ,aK,aL,aM,aN,aO,aP,aQ,aR,aS,aT,bm,bn,bo,bp,bq,br,bs,bt,bu,bv,aU,aV,aW,aX,aY,aZ,a0,a1,a2,a3,a4,a5,a6,a7,a8,a9,bb,bd,be,bf,bg],[]⟩ w:=by
 conv=>arg 2;whnf
 conv=>arg 4;zeta
 replace h:=zh h;have hD:Hid (Below w.heap.size w w.drew):=(Below.refl _ w).drew;have j0:(0:Int)<=(p:Int):=by omega
 have j1:(p:Int)<(na:Int):=by omega
 replace HS:=zh HS;replace hE:=zh hE;replace km:=zh km;refine wp_region_noPanic ?_;refine wp_region_held_drew (S:=fun W=>W.cell? ⟨ya,1,none⟩=some (.slice (some ⟨ba,fa,none⟩) na ma)/\W.cell? ⟨ba,fa+p*3,none⟩=some (.bool g1)/\W.cell? ⟨ba,fa+p*3+1,none⟩=some (.string n1)/\W.cell? ⟨ba,fa+p*3+2,none⟩=some (.string d1)/\W.cell? ⟨yb,0,none⟩=some (.bool g2)/\W.cell? ⟨yb,1,none⟩=some (.string n2)/\W.cell? ⟨yb,2,none⟩=some (.string d2)) (by kernel_rfl) (HS.out _ hD.out) (fun af=>?_);replace af:=zh af;refine tkdJ (v:=?_) 0 rfl (af.out) (Or.inl ⟨by rfl,?_⟩) ?_;rotate_left
 · (intro w a;obtain⟨q1,q2,q3,q4,q5,q6,q7⟩:=a;go_simp<;>with_reducible rfl)
 try simp only[Act.put,List.setIfInBounds_toArray]
 refine tkdJ (v:=?_) 1 rfl (af.out) (Or.inl ⟨by rfl,?_⟩) ?_;rotate_left
 · (intro w a;obtain⟨q1,q2,q3,q4,q5,q6,q7⟩:=a;go_simp<;>with_reducible rfl)
 try simp only[Act.put]
 refine tkdJ (v:=?_) 2 rfl (af.out) (Or.inl ⟨by rfl,?_⟩) ?_;rotate_left
 · (intro w a;obtain⟨q1,q2,q3,q4,q5,q6,q7⟩:=a;go_simp<;>with_reducible rfl)
 try simp only[Act.put]
 refine tkdJ (v:=?_) 3 rfl (af.out) (Or.inl ⟨by rfl,?_⟩) ?_;rotate_left
 · (intro w a;obtain⟨q1,q2,q3,q4,q5,q6,q7⟩:=a;go_simp<;>with_reducible rfl)
 try simp only[Act.put]
 refine tkdJ (v:=?_) 4 rfl (af.out) (Or.inl ⟨by rfl,?_⟩) ?_;rotate_left
 · (intro w a;obtain⟨q1,q2,q3,q4,q5,q6,q7⟩:=a;go_simp<;>with_reducible rfl)
 try simp only[Act.put]
 refine tkdJ (v:=?_) 5 rfl (af.out) (Or.inl ⟨by rfl,?_⟩) ?_;rotate_left
 · (intro w a;obtain⟨q1,q2,q3,q4,q5,q6,q7⟩:=a;go_simp<;>with_reducible rfl)
 try simp only[Act.put]
 refine wpAnyH_ready (rs:=[6,10]) (by kernel_rfl) (by simp) ?_;refine AllReadyH.cons (o:=_) rfl (fun K hK=>?_) ?_
 · go_simp;refine(km.out _ (hE.out _ hD.out)).mono ?_;rintro e W1 ⟨rfl,ah⟩;have aa:=zh (hD.out.trans (ah.mono hD.out.size));clear ah;refine hK.out _ _ (HS.out _ aa.out) (fun _=>?_);clear hK K
   try simp only[Act.put,List.setIfInBounds_toArray,List.set_cons_zero,List.set_cons_succ]
   refine tkdJ (v:=?_) 7 rfl (HS.out _ aa.out) (Or.inl ⟨by rfl,?_⟩) ?_;rotate_left
   · (intro w a;obtain⟨q1,q2,q3,q4,q5,q6,q7⟩:=a;go_simp<;>with_reducible rfl)
   try simp only[Act.put,List.setIfInBounds_toArray]
   refine tkdJ (v:=?_) 8 rfl (HS.out _ aa.out) (Or.inl ⟨by rfl,?_⟩) ?_;rotate_left
   · (intro w a;obtain⟨q1,q2,q3,q4,q5,q6,q7⟩:=a;go_simp<;>with_reducible rfl)
   try simp only[Act.put]
   refine tkdJ (v:=?_) 9 rfl (HS.out _ aa.out) (Or.inl ⟨by rfl,?_⟩) ?_;rotate_left
   · (intro w a;obtain⟨q1,q2,q3,q4,q5,q6,q7⟩:=a;go_simp<;>with_reducible rfl)
   try simp only[Act.put]
   refine wpAnyH_ready (rs:=[10]) (by kernel_rfl) (by simp) ?_;refine AllReadyH.cons (o:=_) rfl (fun K hK=>?_) ?_
   · go_simp;obtain⟨W2,aj⟩:∃X,X=W1.alloc (.cells #[.bool false,.string ⟨#[]⟩,.string ⟨#[]⟩] 40):=⟨_,rfl⟩;obtain⟨x2,al⟩:∃X,X=W1.heap.size:=⟨_,rfl⟩;have ae:Hid (Below w.heap.size w W2):=by rw[aj];exact aa.out.alloc aa.out.size _
     have d:Hid (Bk W2 x2 40 [.bool false,.string ⟨#[]⟩,.string ⟨#[]⟩]):=by rw[aj,al];exact Bk.new _ _ _
     have bi:Hid (w.heap.size<=x2):=by rw[al];exact aa.out.size
     rw[<-aj,<-al];refine hK.out _ _ (HS.out _ ae.out) (fun _=>?_);clear hK K
     try simp only[Act.put,List.setIfInBounds_toArray,List.set_cons_zero,List.set_cons_succ]
     replace aj:=zh aj;replace al:=zh al;refine wpAnyH_ready (rs:=[11]) (by kernel_rfl) (by simp) ?_;refine AllReadyH.cons (o:=_) rfl (fun K hK=>?_) ?_
     · have c0:=d.out.c0;have c1:=d.out.c1;have c2:=d.out.c2;have f0:=d.out.frozen 0;have f1:=d.out.frozen 1;have f2:=d.out.frozen 2;have c9:=d.out.lt;go_simp;clear c0 c1 c2 f0 f1 f2 c9;obtain⟨W3,ad⟩:∃X,X=(((W2.setCell ⟨x2,0,none⟩ (.bool g3)).setCell ⟨x2,1,none⟩ (.string n3)).setCell ⟨x2,2,none⟩ (.string d3)):=⟨_,rfl⟩;have ag:Hid (Below w.heap.size w W3):=by rw[ad];exact Ng ae.out bi.out _ _ _
       have am:Hid (Bk W3 x2 40 [.bool g3,.string n3,.string d3]):=by rw[ad];exact Ki d.out _ _ _
       rw[<-ad];refine hK.out _ _ (HS.out _ ag.out) (fun _=>?_);clear hK K
       try simp only[Act.put,List.setIfInBounds_toArray,List.set_cons_zero,List.set_cons_succ]
       replace ad:=zh ad;refine tkdJ (v:=?_) 12 rfl (HS.out _ ag.out) (Or.inl ⟨by rfl,?_⟩) ?_;rotate_left
       · (intro w a;obtain⟨q1,q2,q3,q4,q5,q6,q7⟩:=a;go_simp<;>with_reducible rfl)
       try simp only[Act.put,List.setIfInBounds_toArray]
       refine wpAnyH_done (by kernel_rfl) ?_ _;refine NoPanic.normal ?_;exact h.out _ _ _ _ _ _ _ _ _ _ _ _ am ag bi
     exact AllReadyH.nil
   exact AllReadyH.nil
 refine AllReadyH.cons (o:=_) rfl (fun K hK=>?_) ?_
 · go_simp;obtain⟨W1,ai⟩:∃X,X=(w.alloc (.cells #[.bool false,.string ⟨#[]⟩,.string ⟨#[]⟩] 40)).drew:=⟨_,rfl⟩;obtain⟨x1,ak⟩:∃X,X=w.heap.size:=⟨_,rfl⟩;have aa:Hid (Below w.heap.size w W1):=by rw[ai];exact((Below.refl _ w).alloc (Nat.le_refl _) _).drew
   have bw:Hid (Bk W1 x1 40 [.bool false,.string ⟨#[]⟩,.string ⟨#[]⟩]):=by rw[ai,ak];have h:=Bk.new w 40 [.bool false,.string ⟨#[]⟩,.string ⟨#[]⟩];exact h
   have bh:Hid (w.heap.size<=x1):=by rw[ak];exact hD.out.size
   rw[<-ai,<-ak];refine hK.out _ _ (HS.out _ aa.out) (fun _=>?_);clear hK K
   try simp only[Act.put,List.setIfInBounds_toArray,List.set_cons_zero,List.set_cons_succ]
   replace ai:=zh ai;replace ak:=zh ak;refine wpAnyH_ready (rs:=[6]) (by kernel_rfl) (by simp) ?_;refine AllReadyH.cons (o:=_) rfl (fun K hK=>?_) ?_
   · go_simp;refine(km.out _ (hE.out _ aa.out)).mono ?_;rintro e W2 ⟨rfl,ah⟩;have ae:=zh (aa.out.trans (ah.mono aa.out.size));have d:=zh (bw.out.below ah);clear ah;refine hK.out _ _ (HS.out _ ae.out) (fun _=>?_);clear hK K
     try simp only[Act.put,List.setIfInBounds_toArray,List.set_cons_zero,List.set_cons_succ]
     refine tkdJ (v:=?_) 7 rfl (HS.out _ ae.out) (Or.inl ⟨by rfl,?_⟩) ?_;rotate_left
     · (intro w a;obtain⟨q1,q2,q3,q4,q5,q6,q7⟩:=a;go_simp<;>with_reducible rfl)
     try simp only[Act.put,List.setIfInBounds_toArray]
     refine tkdJ (v:=?_) 8 rfl (HS.out _ ae.out) (Or.inl ⟨by rfl,?_⟩) ?_;rotate_left
     · (intro w a;obtain⟨q1,q2,q3,q4,q5,q6,q7⟩:=a;go_simp<;>with_reducible rfl)
     try simp only[Act.put]
     refine tkdJ (v:=?_) 9 rfl (HS.out _ ae.out) (Or.inl ⟨by rfl,?_⟩) ?_;rotate_left
     · (intro w a;obtain⟨q1,q2,q3,q4,q5,q6,q7⟩:=a;go_simp<;>with_reducible rfl)
     try simp only[Act.put]
     refine wpAnyH_ready (rs:=[11]) (by kernel_rfl) (by simp) ?_;refine AllReadyH.cons (o:=_) rfl (fun K hK=>?_) ?_
     · have c0:=d.out.c0;have c1:=d.out.c1;have c2:=d.out.c2;have f0:=d.out.frozen 0;have f1:=d.out.frozen 1;have f2:=d.out.frozen 2;have c9:=d.out.lt;go_simp;clear c0 c1 c2 f0 f1 f2 c9;obtain⟨W3,ad⟩:∃X,X=(((W2.setCell ⟨x1,0,none⟩ (.bool g3)).setCell ⟨x1,1,none⟩ (.string n3)).setCell ⟨x1,2,none⟩ (.string d3)):=⟨_,rfl⟩;have ag:Hid (Below w.heap.size w W3):=by rw[ad];exact Ng ae.out bh.out _ _ _
       have am:Hid (Bk W3 x1 40 [.bool g3,.string n3,.string d3]):=by rw[ad];exact Ki d.out _ _ _
       rw[<-ad];refine hK.out _ _ (HS.out _ ag.out) (fun _=>?_);clear hK K
       try simp only[Act.put,List.setIfInBounds_toArray,List.set_cons_zero,List.set_cons_succ]
       replace ad:=zh ad;refine tkdJ (v:=?_) 12 rfl (HS.out _ ag.out) (Or.inl ⟨by rfl,?_⟩) ?_;rotate_left
       · (intro w a;obtain⟨q1,q2,q3,q4,q5,q6,q7⟩:=a;go_simp<;>with_reducible rfl)
       try simp only[Act.put,List.setIfInBounds_toArray]
       refine wpAnyH_done (by kernel_rfl) ?_ _;refine NoPanic.normal ?_;exact h.out _ _ _ _ _ _ _ _ _ _ _ _ am ag bh
     exact AllReadyH.nil
   exact AllReadyH.nil
 exact AllReadyH.nil
end Bd
end
section
open Go.RowKit Go.Shelf
namespace Nt
def OwnB (B:Nat) (w:World) (v:Value) (l:List UInt8):Prop:=w.ownsRow B 5 1 v l.length (Lib.byteCells l)
theorem UG:(Tryz.prog.info? 5).map (fun i=>(i.zero,i.size,i.bytes))=some (some (.int .u8 0),1,1):=by kernel_rfl
theorem Iv (l:List UInt8) (c:UInt8):Lib.byteCells l++[Value.int .u8 (c.toNat:Int)]=Lib.byteCells (l++[c]):=by simp[Lib.byteCells]
theorem OwnB.below {B:Nat} {w w':World} {v:Value} {l:List UInt8} (h:OwnB B w v l) (hb:Below w.heap.size w w'):OwnB B w' v l:=by
 obtain⟨h1,h2⟩:=h;refine⟨h1,?_⟩
 rcases h2 with h2 | ⟨g,cap,cur,hv,hg,hh,r⟩
 · exact Or.inl h2
 · exact Or.inr ⟨g,cap,cur,hv,hg,by rw[hb.block g (Array.getElem?_eq_some_iff.1 hh).1];exact hh,r⟩
theorem OwnB.form {B:Nat} {w:World} {v:Value} {l:List UInt8} (h:OwnB B w v l):(v=.slice none 0 0/\l=[])∨∃g cap,B<=g/\v=.slice (some ⟨g,0,none⟩) l.length cap/\∀j (hj:j<l.length),w.cell? ⟨g,j,none⟩=some (.int .u8 (l[j].toNat:Int)):=by
 rcases id h.2 with⟨h1,h2⟩ | ⟨g,cap,cur,h1,hg,_⟩
 · exact .inl ⟨h1,List.length_eq_zero_iff.1 h2⟩
 · refine .inr ⟨g,cap,hg,h1,fun j hj=>?_⟩;subst h1;rw[World.ownsRow.cellAt h j (by omega)];simp[Lib.byteCells,hj]
theorem OwnB.text {B:Nat} {w:World} {v:Value} {l:List UInt8} (h:OwnB B w v l) :
 (convert 150 9 v).run Tryz.prog w=.ok (.string ⟨l.toArray⟩) w:=by
 rcases h.form with⟨rfl,rfl⟩ | ⟨g,cap,_,rfl,hc⟩
 · exact run_convert_bytes_nil w _ _ Tryz.underlying150 Tryz.underlying5 0 0 _ Tryz.underlying9
 · have:=run_convert_bytes_arg (P:=Tryz.prog) w 150 5 Tryz.underlying150 Tryz.underlying5 g 0 l.length cap (l.map fun c=>(c.toNat:Int)) (by simp)
    (fun i hi=>by rw[Nat.zero_add,hc i hi];simp[hi]) 9 Tryz.underlying9
   rw[this]
   have e:(l.map ((fun n:Int=>UInt8.ofNat n.toNat) ∘ fun c:UInt8=>(c.toNat:Int)))=l:=by
    conv=>rhs;rw[<-List.map_id l]
    exact List.map_congr_left fun c _=>by simp
   simp only[strOfNums,List.map_map,e]
theorem OwnB.lit (B:Nat) (w:World) (c:UInt8) (hb:B<=w.heap.size):OwnB B (w.alloc (.cells #[.int .u8 (c.toNat:Int)] 5)) (.slice (some ⟨w.heap.size,0,none⟩) 1 1) [c] :=
 World.ownsRow_lit w #[.int .u8 (c.toNat:Int)] 1 hb (by unfold maxLen;omega) rfl
end Nt
end
end Go.Proofs.YtilodknkildkbaaGreatDoor

/- Parts of the proof. -/
import Derived.Test.YtefmpngjjmddjaaGreatDoorKgL
set_option maxHeartbeats 64000000
set_option maxRecDepth 100000
open Go.Proofs.Tryz
namespace Go.Proofs.YtefmpngjjmddjaaGreatDoor
open Go.RowKit Go.Shelf
namespace Rg
open Nt Ci
theorem IV(l:List Hd)(A0:Option Addr)(cap:Nat)(day:Int)(nm:List ByteArray)(Al:Option Addr)(cl raw:Nat)(w:World)(hE:Env w)(hl:InHd w A0 l)(hz:∀h∈l,HdSz h)(cZ:l.length<=140737488355328)
 (hn:InStr w Al nm)(bg:∀x∈nm,x.size<=140737488355328)(bp:nm.length<=140737488355328)(cV:raw<=255):
 Calls prog 3 #[.slice A0 l.length cap,.int .i64 day,.slice Al nm.length cl,.int .u8 (raw:Int)] w fun e w'=>e=.returned (.bool true)/\Below w.heap.size w w':=by
 have k1:=zh (KM w hE);replace hE:=zh hE;replace hl:=zh hl;replace hz:=zh hz;replace hn:=zh hn;replace bg:=zh bg;go_enter func3,ntmps3
 go_wp2_with fail
 refine k1.o.q fun w1 hb=>?_;have a4:Hid (Below w.heap.size w w1):=hb;clear k1 hb;have kf:=zh (Qy l A0 cap nm Al cl w1 (hl.o.below a4.o) hz.o (by omega) (hn.o.below a4.o) bg.o bp)
 go_wp2_with fail
 refine kf.o.mono ?_;rintro e w2 ⟨r,rfl,hb⟩;have aO:Hid (Below w.heap.size w w2):=a4.o.trans (hb.mono a4.o.size);clear kf hb a4
 cases r with
 |false=>
  go_wp2;go_ret;exact⟨rfl,aO.o⟩
 |true=>
 by_cases c0:l.length=0
 .have c1:((l.length:Int)==0)=true:=by rw[c0];rfl
  replace c0:=zh c0;go_wp2;go_ret;exact⟨rfl,aO.o⟩
 have c1:((l.length:Int)==0)=false:=beq_eq_false_iff_ne.2 (by omega)
 by_cases c6:6<(l.length:Int)
 .go_wp2;go_ret;exact⟨rfl,aO.o⟩
 have kv:=zh (GF l A0 cap w2 (hl.o.below aO.o) hz.o (by omega))
 go_wp2_with fail
 refine kv.o.mono ?_;rintro e w3 ⟨r,rfl,hV,hb⟩;have aD:Hid (Below w.heap.size w w3):=aO.o.trans (hb.mono aO.o.size);clear kv hb aO
 cases r with
 |false=>
  clear hV;go_wp2;go_ret;exact⟨rfl,aD.o⟩
 |true=>
 have aJ:Hid (Valid l):=hV.1 rfl;have kn:=zh (TD l A0 cap np w3 (hl.o.below aD.o) (by omega));clear hV;unfold np at kn
 go_wp2_with fail
 refine kn.o.mono ?_;rintro e w4 ⟨i,rfl,hi,hw⟩;obtain rfl:=hw;clear kn
 rcases hi with⟨rfl,cB⟩|⟨i,hi,rfl,_,_⟩
 rotate_left
 .have i0:(0:Int)<=(i:Int):=by omega
  replace hi:=zh hi;go_wp2;go_ret;exact⟨rfl,aD.o⟩
 have cK:Hid (np∉l.map Hd.id):=cB;clear cB;have cD:((raw:Int).tmod (l.length:Int))=((raw%l.length:Nat):Int):=by simp[Int.tmod]
 obtain⟨k,hk⟩:∃k,k=raw%l.length:=⟨_,rfl⟩;rw[<-hk]at cD;have aa:k<l.length:=by rw[hk];exact vF _ (by omega)
 replace hk:=zh hk;have c9:(l.length:Int)≠0:=by omega
 obtain⟨b,off,V,G,rfl,cq,ax,ba,bd⟩:=T8 (hl.o.below aD.o) (by omega);have bn:Hid (Below w4.heap.size w4 (w4.alloc (.cells #[] 29))):=(zI _ w4).alloc (zB _) _;have b6:Hid (Bk (w4.alloc (.cells #[] 29)) w4.heap.size 29 []):=Bk.new w4 _ _;obtain⟨g,cp,w6,bk,aG,ct,cu,aU⟩:=T9 (W:=(w4.alloc (.cells #[] 29))) (base:=w4.heap.size) (v:=.slice (some ⟨w4.heap.size,0,none⟩) 0 0) (n:=0) (xs:=[]) (m:=l.length) (c:=cap) (V:=V) (ad:=⟨b,off,none⟩) ⟨rfl,.inr ⟨w4.heap.size,0,#[],rfl,zB _,b6.o,zB _,by decide,rfl,rfl⟩⟩ ax.1 (fun j u hu=>by rw[Dn];exact(bn.o.cell (p:=⟨b,off+j,none⟩) cq).trans (bd j u hu)) ax.one (by omega) (by omega) (by simp);have aw:Hid (Below w4.heap.size w4 w6):=bn.o.grown ct bn.o.size fun b e=>by cases e;exact zB _
 rw[yE]at bk aG;rw[yT]at aG;have bf:w4.heap.size<=g:=(aG.lt g rfl).1;clear ct cu bd cq b6 bn;replace bk:=zh bk;replace aG:=zh aG;replace ax:=zh ax;replace ba:=zh ba;obtain⟨h,hh⟩:∃h,h=l[k]:=⟨_,rfl⟩;obtain⟨Aj,cj,hG⟩:∃Aj cj,G k=(Aj,cj):=⟨_,_,rfl⟩
 have d:∀i u,[.string h.id,.string h.co,.string h.ho,.string h.no,.string h.pl,.slice Aj h.jo.length cj,.int .i64 h.ca,.int .i64 h.vo,.int .i64 h.fr,.int .i64 h.tt][i]? = some u->w6.cell? ⟨g,k*10+i,none⟩=some u:=fun i u hu=>by
  have hi:i<10:=(List.getElem?_eq_some_iff.1 hu).1;have h1:=ax.o.2 k aa i hi;rw[hG,<-hh]at h1;have h2:=aG.o.cells (g:=g) rfl (k*10+i) u (by rw[h1];exact hu)
  rwa [Dn,yE]at h2
 have cG:∀j,w6.frozen? ⟨g,j,none⟩=false:=fun j=>aG.o.frozenAt j;have cL:=hz.o h (by rw[hh];exact zN aa);have bj:Proper h:=by rw[hh];exact Gj aJ.o (zN aa)
 have bS:=bj.2.2.2.2.1;have bU:=bj.2.2.2.2.2.1;replace bj:=zh bj;replace hh:=zh hh;replace hG:=zh hG;have e0:=d 0 _ rfl;have e1:=d 1 _ rfl;have e2:=d 2 _ rfl;have e3:=d 3 _ rfl;have e4:=d 4 _ rfl;have e5:=d 5 _ rfl;have e6:=d 6 _ rfl;have e7:=d 7 _ rfl;have e8:=d 8 _ rfl;have e9:=d 9 _ rfl;simp only[ya]at e0;obtain⟨z0,z1,z2,z3,z4,z5,z6,z7,z8,z9,zt⟩:=cL;have k0:(0:Int)<=(k:Int):=by omega
 have k1:(k:Int)<(l.length:Int):=by omega
 have cW:Hid (Below w.heap.size w w6):=aD.o.trans (aw.o.mono aD.o.size);have cH:w.heap.size<=g:=zS aD.o.size bf;have bZ:Hid (Bk (w6.alloc (.cells #[.string h.id,.string h.co,.string h.ho,.string h.no,.string h.pl,.slice Aj h.jo.length cj,.int .i64 h.ca,.int .i64 h.vo,.int .i64 h.fr,.int .i64 h.tt] 29)) w6.heap.size 29 [.string h.id,.string h.co,.string h.ho,.string h.no,.string h.pl,.slice Aj h.jo.length cj,.int .i64 h.ca,.int .i64 h.vo,.int .i64 h.fr,.int .i64 h.tt]):=Bk.new w6 _ _;have bi:Hid ((w6.alloc (.cells #[.string h.id,.string h.co,.string h.ho,.string h.no,.string h.pl,.slice Aj h.jo.length cj,.int .i64 h.ca,.int .i64 h.vo,.int .i64 h.fr,.int .i64 h.tt] 29)).ownsRow w4.heap.size 29 10 (.slice (some ⟨g,0,none⟩) l.length cp) l.length V):=aG.o.alloc _;have aA:Hid (Below w6.heap.size w6 (w6.alloc (.cells #[.string h.id,.string h.co,.string h.ho,.string h.no,.string h.pl,.slice Aj h.jo.length cj,.int .i64 h.ca,.int .i64 h.vo,.int .i64 h.fr,.int .i64 h.tt] 29))):=(zI _ w6).alloc (zB _) _;have f6:=(aA.o.cell (p:=⟨g,k*10+6,none⟩) aU).trans e6;have f7:=(aA.o.cell (p:=⟨g,k*10+7,none⟩) aU).trans e7;have f8:(w6.alloc (.cells #[.string h.id,.string h.co,.string h.ho,.string h.no,.string h.pl,.slice Aj h.jo.length cj,.int .i64 h.ca,.int .i64 h.vo,.int .i64 h.fr,.int .i64 h.tt] 29)).frozen? ⟨g,k*10+6,none⟩=false:=bi.o.frozenAt _;have f9:(w6.alloc (.cells #[.string h.id,.string h.co,.string h.ho,.string h.no,.string h.pl,.slice Aj h.jo.length cj,.int .i64 h.ca,.int .i64 h.vo,.int .i64 h.fr,.int .i64 h.tt] 29)).frozen? ⟨g,k*10+7,none⟩=false:=bi.o.frozenAt _;have fl:g<(w6.alloc (.cells #[.string h.id,.string h.co,.string h.ho,.string h.no,.string h.pl,.slice Aj h.jo.length cj,.int .i64 h.ca,.int .i64 h.vo,.int .i64 h.fr,.int .i64 h.tt] 29)).heap.size:=zJ aU aA.o.size
 go_wp2_with (at_builtin;refine Ej _ rfl _ _ 22 rfl rfl rfl rfl bk.o ?_)
 clear e0 e1 e2 e3 e4 e5 e6 e7 e8 e9 d cG bk;generalize bW:(w6.alloc (.cells #[.string h.id,.string h.co,.string h.ho,.string h.no,.string h.pl,.slice Aj h.jo.length cj,.int .i64 h.ca,.int .i64 h.vo,.int .i64 h.fr,.int .i64 h.tt] 29))=w7 at bZ bi aA f6 f7 f8 f9 fl ⊢;replace bW:=zh bW;have bM:¬w6.heap.size=g:=by omega
 have bq:¬g=w6.heap.size:=by omega
 have cr:=DX bS (n:=3) (.inr rfl);have cF:=DX bU (n:=2) (.inl rfl);have bQ:Hid ((((w7.setCell ⟨g,k*10+6,none⟩ (.int .i64 (h.ca.tdiv 3))).setCell ⟨g,k*10+7,none⟩ (.int .i64 (h.vo.tdiv 2))).drew).ownsRow w4.heap.size 29 10 (.slice (some ⟨g,0,none⟩) l.length cp) l.length ((V.set (k*10+6) (.int .i64 (h.ca.tdiv 3))).set (k*10+7) (.int .i64 (h.vo.tdiv 2)))):=((bi.o.stored (k*10+6) (.int .i64 (h.ca.tdiv 3))).1.stored (k*10+7) (.int .i64 (h.vo.tdiv 2))).1.drew;have aY:Hid (Bk (((w7.setCell ⟨g,k*10+6,none⟩ (.int .i64 (h.ca.tdiv 3))).setCell ⟨g,k*10+7,none⟩ (.int .i64 (h.vo.tdiv 2))).drew) w6.heap.size 29 [.string h.id,.string h.co,.string h.ho,.string h.no,.string h.pl,.slice Aj h.jo.length cj,.int .i64 h.ca,.int .i64 h.vo,.int .i64 h.fr,.int .i64 h.tt]):=(bZ.o.far (p:=⟨g,k*10+6,none⟩) bM _).far (p:=⟨g,k*10+7,none⟩) bM _;have a5:Hid (Below w4.heap.size w4 (((w7.setCell ⟨g,k*10+6,none⟩ (.int .i64 (h.ca.tdiv 3))).setCell ⟨g,k*10+7,none⟩ (.int .i64 (h.vo.tdiv 2))).drew)):=(((aw.o.trans (aA.o.mono aw.o.size)).setCell (p:=⟨g,k*10+6,none⟩) bf _).setCell (p:=⟨g,k*10+7,none⟩) bf _).drew
 have g6:(((w7.setCell ⟨g,k*10+6,none⟩ (.int .i64 (h.ca.tdiv 3))).setCell ⟨g,k*10+7,none⟩ (.int .i64 (h.vo.tdiv 2))).drew).cell? ⟨g,k*10+6,none⟩=some (.int .i64 (h.ca.tdiv 3)):=by
  show World.cell? ((w7.setCell ⟨g,k*10+6,none⟩ (.int .i64 (h.ca.tdiv 3))).setCell ⟨g,k*10+7,none⟩ (.int .i64 (h.vo.tdiv 2))) _=_
  rw[yD _ _ _ _ (fun e=>by injection e with _ e;omega)];exact yV _ _ _ f6
 have g7:(((w7.setCell ⟨g,k*10+6,none⟩ (.int .i64 (h.ca.tdiv 3))).setCell ⟨g,k*10+7,none⟩ (.int .i64 (h.vo.tdiv 2))).drew).cell? ⟨g,k*10+7,none⟩=some (.int .i64 (h.vo.tdiv 2)):=yV _ _ _ (by rw[yD _ _ _ _ (fun e=>by injection e with _ e;omega)];exact f7);have gl:g<(((w7.setCell ⟨g,k*10+6,none⟩ (.int .i64 (h.ca.tdiv 3))).setCell ⟨g,k*10+7,none⟩ (.int .i64 (h.vo.tdiv 2))).drew).heap.size:=by simpa using fl
 go_region;clear f6 f7 f8 f9 fl bi bZ aA;generalize bX:((w7.setCell ⟨g,k*10+6,none⟩ (.int .i64 (h.ca.tdiv 3))).setCell ⟨g,k*10+7,none⟩ (.int .i64 (h.vo.tdiv 2))).drew=w8 at bQ aY a5 g6 g7 gl ⊢;replace bX:=zh bX;obtain⟨c3,aL⟩:∃c,c=h.ca.tdiv 3:=⟨_,rfl⟩;obtain⟨v2,aM⟩:∃c,c=h.vo.tdiv 2:=⟨_,rfl⟩;rw[<-aL]at g6 cr;rw[<-aM]at g7 cF;replace aL:=zh aL;replace aM:=zh aM;have y0:=aY.o.c0;have y1:=aY.o.frozen 0;have y9:=aY.o.lt;have aN:Hid (Bk (w8.setCell ⟨w6.heap.size,0,none⟩ (.string ⟨#[110,101,119,95,112,97,114,116]⟩)) w6.heap.size 29 [.string ⟨#[110,101,119,95,112,97,114,116]⟩,.string h.co,.string h.ho,.string h.no,.string h.pl,.slice Aj h.jo.length cj,.int .i64 h.ca,.int .i64 h.vo,.int .i64 h.fr,.int .i64 h.tt]):=aY.o.set 0 _;have bR:Hid ((w8.setCell ⟨w6.heap.size,0,none⟩ (.string ⟨#[110,101,119,95,112,97,114,116]⟩)).ownsRow w4.heap.size 29 10 (.slice (some ⟨g,0,none⟩) l.length cp) l.length ((V.set (k*10+6) (.int .i64 (h.ca.tdiv 3))).set (k*10+7) (.int .i64 (h.vo.tdiv 2)))):=bQ.o.kept (Ci.Au _ _ _) (.inr fun e=>bq (by injection e));have a6:Hid (Below w4.heap.size w4 (w8.setCell ⟨w6.heap.size,0,none⟩ (.string ⟨#[110,101,119,95,112,97,114,116]⟩))):=a5.o.setCell (p:=⟨w6.heap.size,0,none⟩) aw.o.size _;have g8:(w8.setCell ⟨w6.heap.size,0,none⟩ (.string ⟨#[110,101,119,95,112,97,114,116]⟩)).cell? ⟨g,k*10+6,none⟩=some (.int .i64 c3):=by rw[yD _ _ _ _ (fun e=>by injection e with e _;omega)];exact g6
 have g9:(w8.setCell ⟨w6.heap.size,0,none⟩ (.string ⟨#[110,101,119,95,112,97,114,116]⟩)).cell? ⟨g,k*10+7,none⟩=some (.int .i64 v2):=by rw[yD _ _ _ _ (fun e=>by injection e with e _;omega)];exact g7
 have b5:g<(w8.setCell ⟨w6.heap.size,0,none⟩ (.string ⟨#[110,101,119,95,112,97,114,116]⟩)).heap.size:=by simpa using gl
 go_wp2_with fail
 clear y0 y1 y9 g6 g7 gl bQ aY a5;generalize bY:w8.setCell ⟨w6.heap.size,0,none⟩ (.string ⟨#[110,101,119,95,112,97,114,116]⟩)=w9 at bR aN a6 g8 g9 b5 ⊢;replace bY:=zh bY;unfold Cr at bS bU;have x6:=aN.o.c6;have x7:=aN.o.c7;have x8:=aN.o.frozen 6;have x9:=aN.o.frozen 7;have xl:=aN.o.lt;have bh:Hid ((((w9.setCell ⟨w6.heap.size,6,none⟩ (.int .i64 (h.ca-c3))).setCell ⟨w6.heap.size,7,none⟩ (.int .i64 (h.vo-v2))).drew).ownsRow w4.heap.size 29 10 (.slice (some ⟨g,0,none⟩) l.length cp) l.length ((V.set (k*10+6) (.int .i64 (h.ca.tdiv 3))).set (k*10+7) (.int .i64 (h.vo.tdiv 2)))):=((bR.o.kept (Ci.Au _ ⟨w6.heap.size,6,none⟩ _) (.inr fun e=>bq (by injection e))).kept (Ci.Au _ ⟨w6.heap.size,7,none⟩ _) (.inr fun e=>bq (by injection e))).drew;have ab:Hid (Bk (((w9.setCell ⟨w6.heap.size,6,none⟩ (.int .i64 (h.ca-c3))).setCell ⟨w6.heap.size,7,none⟩ (.int .i64 (h.vo-v2))).drew) w6.heap.size 29 [.string ⟨#[110,101,119,95,112,97,114,116]⟩,.string h.co,.string h.ho,.string h.no,.string h.pl,.slice Aj h.jo.length cj,.int .i64 (h.ca-c3),.int .i64 (h.vo-v2),.int .i64 h.fr,.int .i64 h.tt]):=(aN.o.set 6 _).set 7 _;have aE:Hid (Below w4.heap.size w4 (((w9.setCell ⟨w6.heap.size,6,none⟩ (.int .i64 (h.ca-c3))).setCell ⟨w6.heap.size,7,none⟩ (.int .i64 (h.vo-v2))).drew)):=((a6.o.setCell (p:=⟨w6.heap.size,6,none⟩) aw.o.size _).setCell (p:=⟨w6.heap.size,7,none⟩) aw.o.size _).drew;go_region;clear x6 x7 x8 x9 xl g8 g9 b5 bR aN a6;generalize bm:((w9.setCell ⟨w6.heap.size,6,none⟩ (.int .i64 (h.ca-c3))).setCell ⟨w6.heap.size,7,none⟩ (.int .i64 (h.vo-v2))).drew=br at bh ab aE ⊢;replace bm:=zh bm;have aF:Hid (Below w4.heap.size w4 (br.alloc (.cells #[.string ⟨#[110,101,119,95,112,97,114,116]⟩,.string h.co,.string h.ho,.string h.no,.string h.pl,.slice Aj h.jo.length cj,.int .i64 (h.ca-c3),.int .i64 (h.vo-v2),.int .i64 h.fr,.int .i64 h.tt] 29))):=aE.o.alloc aE.o.size _;have bw:=Bk.new br 29 [.string ⟨#[110,101,119,95,112,97,114,116]⟩,.string h.co,.string h.ho,.string h.no,.string h.pl,.slice Aj h.jo.length cj,.int .i64 (h.ca-c3),.int .i64 (h.vo-v2),.int .i64 h.fr,.int .i64 h.tt];obtain⟨g2,bF,bs,aW,bD,bC,bL,bN⟩:=T9 (W:=(br.alloc (.cells #[.string ⟨#[110,101,119,95,112,97,114,116]⟩,.string h.co,.string h.ho,.string h.no,.string h.pl,.slice Aj h.jo.length cj,.int .i64 (h.ca-c3),.int .i64 (h.vo-v2),.int .i64 h.fr,.int .i64 h.tt] 29))) (base:=w4.heap.size) (v:=.slice (some ⟨g,0,none⟩) l.length cp) (n:=l.length) (xs:=((V.set (k*10+6) (.int .i64 (h.ca.tdiv 3))).set (k*10+7) (.int .i64 (h.vo.tdiv 2)))) (m:=1) (c:=1) (V:=[.string ⟨#[110,101,119,95,112,97,114,116]⟩,.string h.co,.string h.ho,.string h.no,.string h.pl,.slice Aj h.jo.length cj,.int .i64 (h.ca-c3),.int .i64 (h.vo-v2),.int .i64 h.fr,.int .i64 h.tt]) (ad:=⟨br.heap.size,0,none⟩) (bh.o.alloc _) rfl (fun j u hu=>by rw[Dn,yE];exact bw.cell hu) (fun u hu=>by simp only[yW,yK,xy]at hu;rcases hu with e|e|e|e|e|e|e|e|e|e<;>rw[e]<;>rfl) (by decide) (by omega) aF.o.size;have aP:Hid (Below w4.heap.size w4 bs):=aF.o.grown bC aF.o.size fun b e=>by cases e;exact bf
 have aH:Hid (Below w.heap.size w bs):=aD.o.trans (aP.o.mono aD.o.size)
 have aB:Hid (InHd bs (some ⟨g2,0,none⟩) (Dy l k aa)):=by
  have r1:IsRow ((V.set (k*10+6) (.int .i64 (h.ca.tdiv 3))).set (k*10+7) (.int .i64 (h.vo.tdiv 2))) (l.set k (h1 h)) G:=by
   have a:=(ax.o.set aa (p:=6) (by decide) (u:=.int .i64 (h.ca.tdiv 3)) (h':={ h with ca:=h.ca.tdiv 3 }) (fun A c=>by rw[<-hh.o];rfl)).set (k:=k) (by rw[List.length_set];exact aa) (p:=7) (by decide) (u:=.int .i64 (h.vo.tdiv 2)) (h':=h1 h) (fun A c=>by rw[List.getElem_set_self];rfl)
   rwa [List.set_set]at a
  have r2:=r1.snoc (h2 h) Aj cj;rw[show hdV (h2 h) Aj cj=[.string ⟨#[110,101,119,95,112,97,114,116]⟩,.string h.co,.string h.ho,.string h.no,.string h.pl,.slice Aj h.jo.length cj,.int .i64 (h.ca-c3),.int .i64 (h.vo-v2),.int .i64 h.fr,.int .i64 h.tt] by rw[aL.o,aM.o];rfl]at r2;have e:Dy l k aa=l.set k (h1 h)++[h2 h]:=by unfold Dy;rw[<-hh.o]
  rw[e];refine UZ bD r2 fun j hj=>?_;rw[zV,List.length_set,xU]at hj;have bO:=(ba.o k aa).below aP.o;rw[hG.o,<-hh.o]at bO
  by_cases ej:j=l.length
  .subst ej;simp only[List.length_set,zD];rw[List.getElem_append_right (by simp)];simp only[List.length_set,Nat.sub_self,List.getElem_cons_zero];exact bO
  have cA:j<l.length:=by omega
  simp only[List.length_set,zC ej];rw[List.getElem_append_left (by rw[List.length_set];exact cA)]
  by_cases ek:j=k
  .subst ek;rw[List.getElem_set_self,hG.o];exact bO
  rw[List.getElem_set_ne (fun c=>ek c.symm)];exact(ba.o j cA).below aP.o
 clear bC bL bN bw aF bD;replace aW:=zh aW;have x0:=ab.o.c0;have x1:=ab.o.c1;have x2:=ab.o.c2;have x3:=ab.o.c3;have x4:=ab.o.c4;have x5:=ab.o.c5;have x6:=ab.o.c6;have x7:=ab.o.c7;have x8:=ab.o.cell (j:=8) rfl;have x9:=ab.o.cell (j:=9) rfl;have xl:=ab.o.lt
 go_wp2_with (at_builtin;refine Ej _ rfl _ _ 22 rfl rfl rfl rfl aW.o ?_;clear x0 x1 x2 x3 x4 x5 x6 x7 x8 x9 xl)
 clear aW bM bq cr cF ba ax aG bh ab hG hh aL aM bW bX bY bm aw aE aU bf cH bS bU bj z0 z1 z2 z3 z4 z5 z6 z7 z8 z9 zt
 as_aux_lemma=>
 have ck:Hid (Valid (Dy l k aa)):=NI aa aJ.o cK.o (by omega);have b3:=zh (Va aa aJ.o hz.o);have ks:=zh (IA l (some ⟨b,off,none⟩) cap day bs (hE.o.below aH.o) (hl.o.below aH.o) hz.o (by omega))
 go_wp2_with fail
 refine ks.o.mono ?_;rintro e af ⟨cd,bH,bc⟩;clear ks;replace aB:=zh (aB.o.below bc);have az:Hid (Below w.heap.size w af):=aH.o.trans (bc.mono aH.o.size);clear aH bc
 by_cases hd:CU day
 rotate_left
 .have e1:=bH fun h=>hd h.2;subst e1;have ag:Hid (Below af.heap.size af (af.alloc (.cells #[.slice none 0 0,.slice none 0 0,.slice none 0 0] 32))):=(zI _ af).alloc (zB _) _;have kt:=zh (IA (Dy l k aa) (some ⟨g2,0,none⟩) bF day _ ((hE.o.below az.o).below ag.o) (aB.o.below ag.o) b3.o (by rw[DY];omega));rw[DY]at kt;clear cd bH
  go_wp2_with fail
  refine kt.o.mono ?_;rintro e aj ⟨_,ch,aC⟩;have e1:=ch fun h=>hd h.2;subst e1;have av:Hid (Below w.heap.size w aj):=az.o.trans ((ag.o.trans (aC.mono ag.o.size)).mono az.o.size);clear kt ch aC;go_wp2;go_ret;exact⟨rfl,av.o.alloc av.o.size _⟩
 obtain⟨s,Ap,Ac,Av,cp,cc,cv,rfl,a3,cf,cY,c8,_⟩:=cd ⟨aJ.o,hd⟩;have ag:Hid (Below af.heap.size af (af.alloc (.cells #[.slice Ap s.ps.length cp,.slice Ac s.cap.length cc,.slice Av s.vot.length cv] 32))):=(zI _ af).alloc (zB _) _;have kt:=zh (IA (Dy l k aa) (some ⟨g2,0,none⟩) bF day _ ((hE.o.below az.o).below ag.o) (aB.o.below ag.o) b3.o (by rw[DY];omega));rw[DY]at kt;clear bH
 go_wp2_with fail
 refine kt.o.mono ?_;rintro e aj ⟨cg,_,aC⟩;obtain⟨s',Bp,Bc,Bv,dp,dc,dv,rfl,bu,ci,_⟩:=cg ⟨ck.o,hd⟩;obtain rfl:s=s':=OE aa aJ.o a3 bu;have au:Hid (Below af.heap.size af aj):=ag.o.trans (aC.mono ag.o.size);have av:Hid (Below w.heap.size w aj):=az.o.trans (au.o.mono az.o.size)
 have ae:Hid (HoldI w l (Dy l k aa) (some ⟨b,off,none⟩) (some ⟨g2,0,none⟩) Al nm s Ap Ac Av Bp Bc Bv cp cc cv dp dc dv af.heap.size aj.heap.size (aj.alloc (.cells #[.slice Bp s.ps.length dp,.slice Bc s.cap.length dc,.slice Bv s.vot.length dv] 32))):=by
  have ha:=(zI aj.heap.size aj).alloc (zB _) (.cells #[.slice Bp s.ps.length dp,.slice Bc s.cap.length dc,.slice Bv s.vot.length dv] 32);exact⟨((Bk.new af 32 (SC s Ap Ac Av cp cc cv)).below aC).below ha,Bk.new aj _ _,(cf.below au.o).below ha,ci.below ha,(hl.o.below av.o).below ha,(aB.o.below au.o).below ha,(hn.o.below av.o).below ha,av.o.trans (ha.mono av.o.size)⟩
 clear kt cg aC cf ci bu ag au aB;replace a3:=zh a3;have a0:=ae.o.x.c0;have a1:=ae.o.x.c1;have a2:=ae.o.x.c2;have a9:=ae.o.x.lt;have b0:=ae.o.y.c0;have b1:=ae.o.y.c1;have b2:=ae.o.y.c2;have b9:=ae.o.y.lt;have ksm:=zh (NJ s Ap Ac Av Bp Bc Bv cp cc cv dp dc dv (aj.alloc (.cells #[.slice Bp s.ps.length dp,.slice Bc s.cap.length dc,.slice Bv s.vot.length dv] 32)) ae.o.si ae.o.ti)
 go_wp2_with fail
 refine ksm.o.q fun cM hb=>?_;have ak:=zh (ae.o.below hb);clear ksm hb ae a0 a1 a2 a9 b0 b1 b2 b9
 as_aux_lemma=>
 have cE:s.ps.length<=60:=aJ.o.2.2.1 _ a3.o.1;have klst:=zh (NH s Ap Ac Av cp cc cv nm Al cl cM ak.o.si cE ak.o.n bp);have a0:=ak.o.x.c0;have a1:=ak.o.x.c1;have a2:=ak.o.x.c2;have a9:=ak.o.x.lt
 go_wp2_with fail
 refine klst.o.mono ?_;rintro e cN ⟨⟨Aw,cw,rfl,b7⟩,hb⟩;have al:=zh (ak.o.below hb);have hF:=zh b7;clear b7;clear klst hb ak a0 a1 a2 a9;obtain⟨F,a7⟩:∃F,F=BD nm s.ps s.ps.length:=⟨_,rfl⟩;have cX:F.length<=60:=by rw[a7];exact zS (Gk _ _ _) cE
 rw[<-a7]at hF;simp only[<-a7];replace a7:=zh a7;obtain⟨ee,bJ⟩:∃q,q=Gl s F:=⟨_,rfl⟩;obtain⟨ne,aV⟩:∃q,q=TA s F:=⟨_,rfl⟩;obtain⟨ec,bI⟩:∃q,q=WD s F:=⟨_,rfl⟩;obtain⟨nc,bo⟩:∃q,q=TB s F:=⟨_,rfl⟩;obtain⟨em,bK⟩:∃q,q=cmE s:=⟨_,rfl⟩;obtain⟨nn,bP⟩:∃q,q=cmN s:=⟨_,rfl⟩
 have kE:Hid (∀W Ax Ay Az cx cy cz,Env W->StIn W s Ax Ay Az->InInt W Aw F->Calls prog 12 #[.agg #[.slice Ax s.ps.length cx,.slice Ay s.cap.length cy,.slice Az s.vot.length cz],.slice Aw F.length cw] W fun e w'=>(∃A c,e=.returned (.tuple #[.slice A ne c,.int .i64 ee])/\RowX w' A ne (Sh.ev s F))/\Below W.heap.size W w'):=fun W Ax Ay Az cx cy cz h1 h2 h3=>by
  rw[bJ,aV];exact(Sh.K4 s Ax Ay Az Aw cx cy cz cw F W h1 h2 (by omega) h3 (by omega)).mono fun e w' h=>Vb h
 have kC:Hid (∀W Ax Ay Az cx cy cz,Env W->StIn W s Ax Ay Az->InInt W Aw F->Calls prog 13 #[.agg #[.slice Ax s.ps.length cx,.slice Ay s.cap.length cy,.slice Az s.vot.length cz],.slice Aw F.length cw] W fun e w'=>(∃A c,e=.returned (.tuple #[.slice A nc c,.int .i64 ec])/\IntX w' A nc (Co.rd (Co.VT s) (toN F)))/\Below W.heap.size W w'):=fun W Ax Ay Az cx cy cz h1 h2 h3=>by
  rw[bI,bo];exact(Co.Dw s Ax Ay Az Aw cx cy cz cw F W h1 h2 (by omega) (by omega) h3 (by omega)).mono fun e w' h=>Vc h
 have kM:Hid (∀W Ax Ay Az cx cy cz,Env W->StIn W s Ax Ay Az->Calls prog 14 #[.agg #[.slice Ax s.ps.length cx,.slice Ay s.cap.length cy,.slice Az s.vot.length cz]] W fun e w'=>(∃A c,e=.returned (.tuple #[.slice A nn c,.int .i64 em]))/\Below W.heap.size W w'):=fun W Ax Ay Az cx cy cz h1 h2=>by
  rw[bK,bP];exact(EM s Ax Ay Az cx cy cz W h1 h2 (by omega)).mono fun e w' h=>WE h
 have cJ:ne<=60:=by rw[aV];unfold TA;split<;>omega
 have cI:nc<=60:=by rw[bo];unfold TB;split<;>omega
 replace bJ:=zh bJ;replace aV:=zh aV;replace bI:=zh bI;replace bo:=zh bo;replace bK:=zh bK;replace bP:=zh bP;have k9:=zh (kE.o cN Ap Ac Av cp cc cv (hE.o.below al.o.b) al.o.si hF.o);have a0:=al.o.x.c0;have a1:=al.o.x.c1;have a2:=al.o.x.c2;have a9:=al.o.x.lt
 go_wp2_with fail
 refine k9.o.mono ?_;rintro e cP ⟨⟨Aa,ca,rfl,bx⟩,hb⟩;have am:=zh (al.o.below hb);replace hF:=zh (hF.o.below hb);have ar:=zh bx;clear bx;clear k9 hb al a0 a1 a2 a9;have k9:=zh (kE.o cP Bp Bc Bv dp dc dv (hE.o.below am.o.b) am.o.ti hF.o);have b0:=am.o.y.c0;have b1:=am.o.y.c1;have b2:=am.o.y.c2;have b9:=am.o.y.lt
 go_wp2_with fail
 refine k9.o.mono ?_;rintro e cR ⟨⟨Ab,cb,rfl,bz⟩,hb⟩;have an:=zh (am.o.below hb);replace hF:=zh (hF.o.below hb);replace ar:=zh (ar.o.below hb);have ay:=zh bz;clear bz kE;clear k9 hb am b0 b1 b2 b9;have k9:=zh (kC.o cR Ap Ac Av cp cc cv (hE.o.below an.o.b) an.o.si hF.o);have a0:=an.o.x.c0;have a1:=an.o.x.c1;have a2:=an.o.x.c2;have a9:=an.o.x.lt
 go_wp2_with fail
 refine k9.o.mono ?_;rintro e cS ⟨⟨Ax,cx,rfl,bA⟩,hb⟩;have ao:=zh (an.o.below hb);replace hF:=zh (hF.o.below hb);replace ar:=zh (ar.o.below hb);replace ay:=zh (ay.o.below hb);have aK:=zh bA;clear bA;clear k9 hb an a0 a1 a2 a9;have k9:=zh (kC.o cS Bp Bc Bv dp dc dv (hE.o.below ao.o.b) ao.o.ti hF.o);have b0:=ao.o.y.c0;have b1:=ao.o.y.c1;have b2:=ao.o.y.c2;have b9:=ao.o.y.lt
 go_wp2_with fail
 refine k9.o.mono ?_;rintro e cT ⟨⟨Ay,cy,rfl,bB⟩,hb⟩;have ap:=zh (ao.o.below hb);replace ar:=zh (ar.o.below hb);replace ay:=zh (ay.o.below hb);replace aK:=zh (aK.o.below hb);have aX:=zh bB;clear bB kC hF;clear k9 hb ao b0 b1 b2 b9;have k9:=zh (kM.o cT Ap Ac Av cp cc cv (hE.o.below ap.o.b) ap.o.si);have a0:=ap.o.x.c0;have a1:=ap.o.x.c1;have a2:=ap.o.x.c2;have a9:=ap.o.x.lt
 go_wp2_with fail
 refine k9.o.mono ?_;rintro e cU ⟨⟨Am,cm,rfl⟩,hb⟩;have aq:=zh (ap.o.below hb);replace ar:=zh (ar.o.below hb);replace ay:=zh (ay.o.below hb);replace aK:=zh (aK.o.below hb);replace aX:=zh (aX.o.below hb);clear k9 hb ap a0 a1 a2 a9;have k9:=zh (kM.o cU Bp Bc Bv dp dc dv (hE.o.below aq.o.b) aq.o.ti);have b0:=aq.o.y.c0;have b1:=aq.o.y.c1;have b2:=aq.o.y.c2;have b9:=aq.o.y.lt
 go_wp2_with fail
 refine k9.o.mono ?_;rintro e ah ⟨⟨An,cn,rfl⟩,hb⟩;have bv:=zh (aq.o.below hb);replace ar:=zh (ar.o.below hb);replace ay:=zh (ay.o.below hb);replace aK:=zh (aK.o.below hb);replace aX:=zh (aX.o.below hb);clear kM;clear k9 hb aq b0 b1 b2 b9;go_wp2
 as_aux_lemma=>
 go_loopw [30] (fun i wr=>∃y q:Nat,y<=ne/\i=.int .i64 (y:Int)/\wr=ah.drewN q) (fun i _=>ne-(intOf i).toNat)
 case atStart=>exact⟨0,0,zQ _,rfl,rfl⟩
 case round=>
  obtain⟨y,q,hy,rfl,rfl⟩:=hrel
  by_cases hlt:y<ne
  .obtain⟨ea,rfl,aQ⟩:=ar.o (by omega);obtain⟨eb,rfl,aR⟩:=ay.o (by omega);obtain⟨u1,u2,u3⟩:=aQ.cell hlt;obtain⟨v1,v2,v3⟩:=aR.cell hlt;have ul:=aQ.lt;have vl:=aR.lt;obtain⟨⟨g1,n1,d1⟩,hx⟩:∃x,x=rq (Sh.ev s F y):=⟨_,rfl⟩;rw[<-hx]at u1 u2 u3 v1 v2 v3;simp only at u1 u2 u3 v1 v2 v3;clear aQ aR hx;have hd:∀a,(ah.drewN q).cell? a=ah.cell? a:=fun a=>rfl;rw[<-hd]at u1 u2 u3 v1 v2 v3;have be:(ah.drewN q).heap.size=ah.heap.size:=rfl;rw[<-be]at ul vl;have s1:(0:Int)<=(y:Int):=by omega
   have s2:(y:Int)<(ne:Int):=by omega
   clear hd be;generalize aT:ah.drewN q=wq at u1 u2 u3 v1 v2 v3 ul vl ⊢;replace aT:=zh aT
   go_wp2_with fail
   go_quiet (fail)
   go_wp2;exact⟨⟨y+1,q+nq,by omega,by go_num,by rw[<-aT.o,World.drewN_drewN]⟩,by simp only[intOf];omega⟩
  obtain rfl:y=ne:=by omega
  as_aux_lemma=>
  go_wp2
  go_loopw [31] (fun i wr=>∃z q2:Nat,z<=nc/\i=.int .i64 (z:Int)/\wr=ah.drewN q2) (fun i _=>nc-(intOf i).toNat)
  case atStart=>exact⟨0,q,zQ _,rfl,rfl⟩
  case round=>
   obtain⟨z,q2,da,rfl,rfl⟩:=hrel
   by_cases hlt:z<nc
   .obtain⟨ra,rfl,aQ⟩:=aK.o (by omega);obtain⟨rb,rfl,aR⟩:=aX.o (by omega);have u1:=aQ.cell z hlt;have v1:=aR.cell z hlt;have ul:=aQ.lt;have vl:=aR.lt;generalize Co.rd (Co.VT s) (toN F) z=x at u1 v1;clear aQ aR;have hd:∀a,(ah.drewN q2).cell? a=ah.cell? a:=fun a=>rfl;rw[<-hd]at u1 v1;have be:(ah.drewN q2).heap.size=ah.heap.size:=rfl;rw[<-be]at ul vl;have s1:(0:Int)<=(z:Int):=by omega
    have s2:(z:Int)<(nc:Int):=by omega
    clear hd be;generalize aT:ah.drewN q2=wq at u1 v1 ul vl ⊢;replace aT:=zh aT
    go_wp2_with fail
    go_quiet (fail)
    go_wp2;exact⟨⟨z+1,q2+nq,by omega,by go_num,by rw[<-aT.o,World.drewN_drewN]⟩,by simp only[intOf];omega⟩
   obtain rfl:z=nc:=by omega
   have a8:=zh (bv.o.below (Nt.Dc (zI _ ah) q2));clear ar ay aK aX bv;generalize bE:ah.drewN q2=db at a8 ⊢;replace bE:=zh bE
   as_aux_lemma=>
   have koG:=zh (fun pa (aS:ByteArray.size pa<=140737488355328) W (h:(HoldI w l (Dy l k aa) (some ⟨b,off,none⟩) (some ⟨g2,0,none⟩) Al nm s Ap Ac Av Bp Bc Bv cp cc cv dp dc dv af.heap.size aj.heap.size W))=>GG l (some ⟨b,off,none⟩) cap day nm Al cl pa 50 W (hE.o.below h.b) h.l hz.o (by omega) h.n bg.o bp aS);have kpG:=zh (fun pa (aS:ByteArray.size pa<=140737488355328) W (h:(HoldI w l (Dy l k aa) (some ⟨b,off,none⟩) (some ⟨g2,0,none⟩) Al nm s Ap Ac Av Bp Bc Bv cp cc cv dp dc dv af.heap.size aj.heap.size W))=>GG (Dy l k aa) (some ⟨g2,0,none⟩) bF day nm Al cl pa 50 W (hE.o.below h.b) h.m b3.o (by rw[DY];omega) h.n bg.o bp aS);rw[DY]at kpG;go_wp2
   go_loopw [32] (fun i wr=>∃j:Nat,j<=s.ps.length/\i=.int .i64 (j:Int)/\Hid (HoldI w l (Dy l k aa) (some ⟨b,off,none⟩) (some ⟨g2,0,none⟩) Al nm s Ap Ac Av Bp Bc Bv cp cc cv dp dc dv af.heap.size aj.heap.size wr)) (fun i _=>s.ps.length-(intOf i).toNat)
   case atStart=>exact⟨0,zQ _,rfl,a8⟩
   case round=>
    obtain⟨j,hj,rfl,hI⟩:=hrel;clear a8;obtain⟨wz,rfl⟩:∃z,z=wr:=⟨_,rfl⟩;have a0:=hI.o.x.c0;have a9:=hI.o.x.lt
    by_cases hlt:j<s.ps.length
    .obtain ⟨pb,po,rfl,bT,bd⟩:=hI.o.si.ps (by omega);have e0:=bd j hlt;have aS:=hI.o.si.zp _ (zN hlt);have j0:(0:Int)<=(j:Int):=by omega
     have j1:(j:Int)<(s.ps.length:Int):=by omega
     have ko:=zh (koG.o s.ps[j] aS);have kp:=zh (kpG.o s.ps[j] aS);generalize s.ps[j]=pa at e0 aS ko kp;clear bd;have k5:=zh (ko.o wz hI.o)
     go_wp2_with fail
     refine k5.o.mono ?_;rintro e b4 aZ;have hb:=aZ.2.2;have aI:=zh (hI.o.below hb);have e1:=(hb.cell (p:=⟨pb,po+j,none⟩) bT).trans e0;have cC:pb<b4.heap.size:=zJ bT hb.size;have k6:=zh (kp.o b4 aI.o);clear k5 ko kp hb hI a0 a9 e0 bT
     have ai:∃(bb:Bool)(x:Int),e=.returned (.tuple #[.bool bb,.int .i64 x])/\∀f bt,DW (Dy l k aa) day nm pa 50 b4 f bt->f=.returned (.tuple #[.bool bb,.int .i64 x]):=by
      by_cases hq:Cq day nm pa 50=true
      .obtain⟨s1,b1,f1,q1,a1,o1⟩:=aZ.1 ⟨aJ.o,hq⟩;refine⟨b1,f1,q1,fun f bt h=>?_⟩;obtain⟨b2,x2,q2,q3⟩:=TC aa aJ.o ck.o a3.o aZ h;rw[q1]at q2;injection q2 with q2;rw[q3,<-q2]
      exact⟨false,1,aZ.2.1 fun h=>hq h.2,fun f bt h=>h.2.1 fun h=>hq h.2⟩
     obtain⟨bb,x,rfl,ai⟩:=ai;replace ai:=zh ai;clear aZ;have a0:=aI.o.x.c0;have a9:=aI.o.x.lt
     go_wp2_with fail
     refine k6.o.mono ?_;rintro e bt bG;have hb:=bG.2.2;have b8:=zh (aI.o.below hb);obtain rfl:=ai.o _ _ bG;clear k6 hb aI a0 a9 e1 cC bG ai;go_wp2;exact⟨⟨j+1,by omega,by go_num,b8⟩,by simp only[intOf];omega⟩
    obtain rfl:j=s.ps.length:=by omega
    go_wp2;go_ret;exact⟨rfl,hI.o.b⟩
theorem law_thold(l:List Hd)(A0:Option Addr)(cap:Nat)(day:Int)(nm:List ByteArray)(Al:Option Addr)(cl:Nat)(raw:Int)(w:World)(hE:Env w)(h0:0<=raw)(h1:raw<=255)(hl:InHd w A0 l)(hz:∀h∈l,HdSz h)(d:l.length<=140737488355328)(hn:InStr w Al nm)(ab:∀x∈nm,x.size<=140737488355328)(aa:nm.length<=140737488355328):
 Calls prog 3 #[.slice A0 l.length cap,.int .i64 day,.slice Al nm.length cl,.int .u8 raw] w fun e w'=>e=.returned (.bool true)/\Below w.heap.size w w':=by
 have h:=IV l A0 cap day nm Al cl raw.toNat w hE hl hz d hn ab aa (by omega);rw[Int.toNat_of_nonneg h0]at h;exact h
end Rg
end Go.Proofs.YtefmpngjjmddjaaGreatDoor

/- Parts of the proof. -/
import Derived.Laws.CopyOwn
import Derived.Test.YtefmpngjjmddjaaGreatDoorKhB
set_option maxHeartbeats 16000000
set_option maxRecDepth 1000000
open Go.Proofs.Tryz
namespace Go.Proofs.YtefmpngjjmddjaaGreatDoor
theorem tkhC{P:Program}{md:Region.Mode}{ops:Array Oper}{Q:Exit->Act->World->Prop}{S:World->Prop}{oi:Oper}{v:Value}{fuel:Nat}{listed:Array Bool}{a:Act}{w:World}(i:Nat)(hi:ops[i]?=some oi)(hS:S w)(hy:YieldsIf P ops S oi v a)(h:wpAnyH P md ops Q S fuel (listed.setIfInBounds i true) (a.put oi.dst v) w)(hs:Region.noSelect ops=true:=by kernel_rfl)(hf:Region.free md ops listed i=true:=by kernel_rfl)(hr:(Region.ready md ops listed).contains i=true:=by kernel_rfl)(hQ:∀c a w,Q (.panic c) (a.put oi.dst v) w->Q (.panic c) a w:=by exact fun _ _ _ h=>h):wpAnyH P md ops Q S (fuel+1) listed a w:=xZ hi hs hf hr hQ hy hS h
section
open Go.RowKit Go.Shelf
namespace Ci
open Nt
structure StIn(w:World)(s:SR)(Ap Ac Av:Option Addr):Prop where
 ps:InStr w Ap s.ps
 cap:InLk w Ac s.cap
 vot:InLk w Av s.vot
 np:s.ps.length<=140737488355328
 nc:s.cap.length<=140737488355328
 nv:s.vot.length<=140737488355328
 zp:∀x,x∈s.ps->x.size<=140737488355328
 zc:∀x,x∈s.cap->x.2.2.2.1.size<=140737488355328/\x.2.2.2.2.size<=140737488355328
 zv:∀x,x∈s.vot->x.2.2.2.1.size<=140737488355328/\x.2.2.2.2.size<=140737488355328
 ic:∀x,x∈s.cap->(-9223372036854775808<=x.1/\x.1<=9223372036854775807)/\(-9223372036854775808<=x.2.1/\x.2.1<=9223372036854775807)
 iv:∀x,x∈s.vot->(-9223372036854775808<=x.1/\x.1<=9223372036854775807)/\(-9223372036854775808<=x.2.1/\x.2.1<=9223372036854775807)
theorem StIn.below{w w':World}{s:SR}{Ap Ac Av:Option Addr}(h:StIn w s Ap Ac Av)(hb:Below w.heap.size w w'):StIn w' s Ap Ac Av :=
 ⟨h.ps.below hb,h.cap.below hb,h.vot.below hb,h.np,h.nc,h.nv,h.zp,h.zc,h.zv,h.ic,h.iv⟩
theorem OK(t:TypeId)(a b:ByteArray):binOp .leq t (.string a) (.string b)=pure (.bool (KD a b)):=by simp[binOp,Op.stringOp,KD]
abbrev SC(s:SR)(Ap Ac Av:Option Addr)(cp cc cv:Nat):List Value:=[.slice Ap s.ps.length cp,.slice Ac s.cap.length cc,.slice Av s.vot.length cv]
theorem Dk(s:SR)(Ap Ac Av:Option Addr)(cp cc cv:Nat)(w:World)(hE:Env w)(hs:StIn w s Ap Ac Av):
 Calls prog 33 #[.agg #[.slice Ap s.ps.length cp,.slice Ac s.cap.length cc,.slice Av s.vot.length cv]] w fun e w'=>e=.returned (.bool (Ak s))/\Below w.heap.size w w':=by
 have an:=hs.np;have ax:=zh (fun(k:Nat) (h:k<s.ps.length) (hb:¬BZ s.ps k h)=>J9 (l:=s.ps) h hb);have aw:=zh (JB (l:=s.ps));have ay:Hid (Bk (w.alloc (.cells #[.slice Ap s.ps.length cp,.slice Ac s.cap.length cc,.slice Av s.vot.length cv] 32)) w.heap.size 32 (SC s Ap Ac Av cp cc cv)):=Bk.new w _ _;have av:Hid (Below w.heap.size w (w.alloc (.cells #[.slice Ap s.ps.length cp,.slice Ac s.cap.length cc,.slice Av s.vot.length cv] 32))):=(zI _ w).alloc (zB _) _;have kg:=zh (fun A cap nb l W hE hl h1 h2 h3 h4 h5=>SA A cap s.ps.length nb l W hE hl h1 h2 h3 h4 h5);replace hE:=zh hE;replace hs:=zh hs;go_enter func33,ntmps33;go_wp2
 go_loopw [10] (fun i wr=>∃k:Nat,k<=s.ps.length/\i=.int .i64 (k:Int)/\Hid (Below w.heap.size w wr)/\Hid (Bk wr w.heap.size 32 (SC s Ap Ac Av cp cc cv))/\Hid (∀i (h:i<s.ps.length),i<k->BZ s.ps i h)) (fun i _=>s.ps.length-(intOf i).toNat)
 case atStart=>exact⟨0,zS _,rfl,av,ay,fun i _ h=>absurd h (yB _)⟩
 case round=>
  obtain⟨k,hk,rfl,hB,hX,hA⟩:=hrel;clear ay av
  by_cases hlt:k<s.ps.length
  .obtain ⟨b,o,rfl,az,hc⟩:=(hs.o.below hB.o).ps (by omega);have e1:=hc k hlt;have e0:Hid (0<k->wr.cell? ⟨b,o+(k-1),none⟩=some (.string (s.ps[k-1]'(by omega)))):=fun h=>hc (k-1) (by omega);have zx:=hs.o.zp s.ps[k] (zO hlt);have am:=zh (ax.o k hlt)
   have ai:Hid (BZ s.ps k hlt->∀i (h:i<s.ps.length),i<k+1->BZ s.ps i h):=fun h i hi h2=>by
    by_cases e:i=k
    .subst e;exact h
    exact hA.o i hi (by omega)
   have d:Hid (BZ s.ps k hlt<->An s.ps[k]=true/\(0<k->KD s.ps[k] (s.ps[k-1]'(by omega))=false)):=wH;obtain⟨nm,au⟩:∃x,x=s.ps[k]:=⟨_,rfl⟩;rw[<-au]at e1 zx d;replace au:=zh au;have u0:=hX.o.c0;have u9:=hX.o.lt;have i0:(0:Int)<=(k:Int):=by omega
   have i1:(k:Int)<(s.ps.length:Int):=by omega
   have kn:=Nw nm;clear hc
   cases ad:An nm with
   |false=>
    have HG:Hid (Ak s=false):=by
     have:EN s.ps=false:=am.o fun h=>by have:=(d.o.1 h).1;rw[ad]at this;cases this
     unfold Hid Ak;rw[this];rfl
    rw[ad]at kn;replace kn:=zh kn;clear ad d ai
    go_wp2_with fail
    refine(kn.o _ (by omega)).q fun w2 hb=>?_;have af:=hB.t hb;clear hb;go_wp2;go_ret;exact⟨Ad HG.o.symm,af.o⟩
   |true=>
    rw[ad]at kn;replace kn:=zh kn
    by_cases hk0:k=0
    .have m1:decide (0<(k:Int))=false:=zH (by omega);have m2:decide (0<k)=false:=zH (by omega);have HN:=zh (ai.o (d.o.2 ⟨ad,fun h=>by omega⟩));replace hk0:=zh hk0;clear ad d ai am
     go_wp2_with fail
     refine(kn.o _ (by omega)).q fun w2 hb=>?_;have af:=hB.t hb;have ae:=zh (hX.o.below hb);clear hb e1 u0 u9;go_wp2
     go_roundw
     case rel=>exact⟨k+1,by omega,by go_num,af,ae,HN⟩
     case measure=>simp[intOf];omega
    have m1:decide (0<(k:Int))=true:=zG (by omega);have m2:decide (0<k)=true:=zG (by omega);have e2:=e0.o (by omega);obtain⟨pm,ap⟩:∃x,x=s.ps[k-1]'(by omega):=⟨_,rfl⟩;rw[<-ap]at e2
    have ag:Hid (BZ s.ps k hlt<->An nm=true/\KD nm pm=false):=by
     rw[ap];exact⟨fun h=>⟨(d.o.1 h).1,(d.o.1 h).2 (by omega)⟩,fun h=>d.o.2 ⟨h.1,fun _=>h.2⟩⟩
    replace ap:=zh ap;have aq:=OK 9 nm pm;have j1:(0:Int)<=(k:Int)-1:=by omega
    have j2:(k:Int)-1<(s.ps.length:Int):=by omega
    have j3:((k:Int)-1).toNat=k-1:=by omega
    cases al:KD nm pm with
    |true=>
     have HG:Hid (Ak s=false):=by
      have:EN s.ps=false:=am.o fun h=>by have:=(ag.o.1 h).2;rw[al]at this;cases this
      unfold Hid Ak;rw[this];rfl
     rw[al]at aq;clear ad d ai ag al e0 am
     go_wp2_with fail
     refine(kn.o _ (by omega)).q fun w2 hb=>?_;have af:=hB.t hb;have ae:=zh (hX.o.below hb);replace e2:=(hb.cell (p:=⟨b,o+(k-1),none⟩) az).trans e2;clear hb e1 u0 u9;have u0:=ae.o.c0;have u9:=ae.o.lt;go_wp2;go_ret;exact⟨Ad HG.o.symm,af.o⟩
    |false=>
     have HN:=zh (ai.o (ag.o.2 ⟨ad,al⟩));rw[al]at aq;clear ad d ai ag al e0 am
     go_wp2_with fail
     refine(kn.o _ (by omega)).q fun w2 hb=>?_;have af:=hB.t hb;have ae:=zh (hX.o.below hb);replace e2:=(hb.cell (p:=⟨b,o+(k-1),none⟩) az).trans e2;clear hb e1 u0 u9;have u0:=ae.o.c0;have u9:=ae.o.lt;go_wp2
     go_roundw
     case rel=>exact⟨k+1,by omega,by go_num,af,ae,HN⟩
     case measure=>simp[intOf];omega
  obtain rfl:k=s.ps.length:=by omega
  have ah:=aw.o fun i h=>hA.o i h h
  have HG:Hid (Ak s=(decide (s.ps.length<=60)&&(EM s.ps.length s.cap&&EM s.ps.length s.vot))):=by
   unfold Hid Ak;rw[ah];rfl
  clear ah hA aw ax;have u0:=hX.o.c0;have u1:=hX.o.c1;have u2:=hX.o.c2;have u9:=hX.o.lt;have aC:=zh (hX.o.alloc (.cells #[.int .i64 (s.ps.length:Int)] 3));have ar:Hid (Bk (wr.alloc (.cells #[.int .i64 (s.ps.length:Int)] 3)) wr.heap.size 3 [.int .i64 (s.ps.length:Int)]):=Bk.new wr _ _;have aa:=zh (hB.o.alloc hB.o.size (.cells #[.int .i64 (s.ps.length:Int)] 3))
  by_cases h60:s.ps.length<=60
  .cases ak:EM s.ps.length s.cap with
   |false=>
    have kc:=zh (kg.o Ac cc wr.heap.size s.cap _ (hE.o.below aa.o) (hs.o.below aa.o).cap hs.o.nc an (ar.o.c0) hs.o.zc hs.o.ic);rw[ak]at kc;rw[ak,vJ,Bool.and_false]at HG;replace HG:=zh HG.o;clear ak kg
    go_wp2_with fail
    refine kc.o.q fun w4 hb=>?_;have aj:=aa.t hb;clear hb;go_wp2;go_ret;exact⟨Ad HG.o.symm,aj.o⟩
   |true=>
    have kc:=zh (kg.o Ac cc wr.heap.size s.cap _ (hE.o.below aa.o) (hs.o.below aa.o).cap hs.o.nc an (ar.o.c0) hs.o.zc hs.o.ic);have kv:=zh (fun W h1 h2 h3=>kg.o Av cv wr.heap.size s.vot W h1 h2 hs.o.nv an h3 hs.o.zv hs.o.iv);rw[ak]at kc;rw[ak,wg,zG h60,wg]at HG;replace HG:=zh HG.o;clear ak kg
    go_wp2_with fail
    refine kc.o.q fun w4 hb=>?_;have aj:=aa.t hb;have ao:=zh (aC.o.below hb);have aB:=zh (ar.o.below hb);clear hb u0 u1 u2 u9;have u0:=ao.o.c0;have u1:=ao.o.c1;have u2:=ao.o.c2;have u9:=ao.o.lt
    go_wp2_with fail
    refine(kv.o _ (hE.o.below aj.o) (hs.o.below aj.o).vot (aB.o.c0)).q fun w5 hb=>?_;have aA:=aj.t hb;clear hb;go_wp2;go_ret;exact⟨Ad (by rw[HG.o]),aA.o⟩
  have m1:decide ((s.ps.length:Int)<=60)=false:=zH (by omega);have m2:decide (s.ps.length<=60)=false:=zH h60;rw[m2,vJ]at HG;replace HG:=zh HG.o;go_wp2;go_ret;exact⟨Ad HG.o.symm,aa.o⟩
end Ci
end
section
open Go.ChangeShapes Go.WideShapes Go.ChangeAt Go.RowKit Go.Shelf Go.Joins Go.Deep
namespace Ci
open Nt
section
variable {H:Type}
theorem Dv{P:Program}{e:TypeId}{d:DataW H}:∀{l:List (DataW H)},d∈l->∀m∈d.weights P e,m∈DataW.weightsAll P e l:=by
 intro l
 induction l with
 |nil=>intro h;cases h
 |cons a l ih=>
  intro h m hm;rw[DataW.weightsAll,yc]
  rcases List.mem_cons.1 h with rfl|h
  .exact .inl hm
  exact .inr (ih h m hm)
theorem CJ{enc:TypeId×Value->H}{P:Program}{W W':World}{base:Nat}{sp':Nat->Bool}(hl:laidOutB P=true):∀{ts:List TypeId} {vs:List Value} {ds:List (DataW H)} {ps:List MemPlace},
 (∀t∈ts,P.readableRec t=true/\t<P.types.size)->DataW.TrodAll enc P W base (fun _=>true) true ts vs ds ps->(∀p∈ps,W.sameAt W' p)->(∀p∈ps,sp' p.block=true)->DataW.TrodAll enc P W' base sp' true ts vs ds ps
 | [],[],[],_,_,h,_,_=>h
 |_ :: _,_::_,_::_,_,hT,⟨p,q,h1,h2,e⟩,hs,hb=>
  ⟨p,q,WideElems.Trod_stays hl (hT _ (List.mem_cons.2 (.inl rfl))).1 (hT _ (List.mem_cons.2 (.inl rfl))).2 h1 (fun x hx=>hs x (by rw[e];exact yV _ hx)) (fun x hx=>hb x (by rw[e];exact yV _ hx)),
    CJ hl (fun t ht=>hT t (List.mem_cons.2 (.inr ht))) h2 (fun x hx=>hs x (by rw[e];exact yz _ hx)) (fun x hx=>hb x (by rw[e];exact yz _ hx)),e⟩
theorem Gk{ts:List TypeId}{ds:List (DataW H)}{j:Nat}{t:TypeId}{d:DataW H}(h:(DataW.weightsEach prog ts ds).all (·<=reachBytes)=true)(ht:ts[j]? = some t)(hd:ds[j]? = some d):∀m∈d.weights prog t,m<=140737488351232:=fun m hm=>
 zL (List.all_eq_true.1 h _ (DataW.weights_mem_each (P:=prog) ht hd m hm))
theorem Gl{α:Type}{f:α->DataW H}{l:List α}{d:DataW H}{t e:TypeId}(ht:prog.underlying t=some (.slice e))(hb:0<prog.bytesOf e)(h:Jp f l d)(hw:∀m∈d.weights prog t,m<=140737488351232):
 l.length<=140737488355328/\∀x∈l,∀m∈(f x).weights prog e,m<=140737488351232:=by
 rcases h with⟨_,rfl⟩|⟨rest,rfl⟩
 .exact⟨by simp,fun x h=>absurd h (by simp)⟩
 have e1:(DataW.slice (l.map f) rest).weights prog t=((l.map f).length+rest.length)*prog.bytesOf e::(DataW.weightsAll prog e (l.map f)++DataW.weightsAll prog e rest):=by
  simp[DataW.weights,ht]
 rw[e1]at hw;have h1:=hw _ (zf ..);rw[zW]at h1;refine⟨?_,fun x hx m hm=>hw _ (zY _ (yV _ (Dv (wj (f:=f) hx) m hm)))⟩;have h2:l.length<=(l.length+rest.length)*prog.bytesOf e:=zQ (Nat.le_add_right _ _) (wn _ hb);omega
theorem SB{x:ByteArray}(h:∀m∈(Sy (H:=H) x).weights prog 9,m<=140737488351232):x.size<=140737488355328:=by
 have h1:=h x.data.toList.length (by simp[Sy,DataW.weights]);have z1:x.size=x.data.toList.length:=wv _;omega
theorem OL{x:Lk}(h:∀m∈(lkD (H:=H) x).weights prog 106,m<=140737488351232):x.2.2.2.1.size<=140737488355328/\x.2.2.2.2.size<=140737488355328:=by
 have h1:=h x.2.2.2.1.data.toList.length (by simp[lkD,DataW.weights,DataW.weightsEach,underlying106,underlying48]);have h2:=h x.2.2.2.2.data.toList.length (by simp[lkD,DataW.weights,DataW.weightsEach,underlying106,underlying48]);have z1:x.2.2.2.1.size=x.2.2.2.1.data.toList.length:=wv _;have z2:x.2.2.2.2.size=x.2.2.2.2.data.toList.length:=wv _;omega
end
section
variable {H:Type} {enc:TypeId×Value->H} {w:World} {base:Nat} {held:Bool}
def WZ(s:SR)(d:DataW H):Prop:=∃dp dc dv,d=.agg [dp,dc,dv]/\Jp Sy s.ps dp/\Jp lkD s.cap dc/\Jp lkD s.vot dv
theorem SD:prog.cellsOf 32=3:=by kernel_rfl
theorem SE{r:Go.Reach}{b0:Nat}{v:Value}{d:DataW H}{p:List MemPlace}(hv:Value.okWide prog w r b0 32 v)(h:DataW.Trod enc prog w base (fun _=>true) held 32 v d p):
 ∃(Ap Ac Av:Option Addr)(cp cc cv:Nat)(s:SR),v=.agg #[.slice Ap s.ps.length cp,.slice Ac s.cap.length cc,.slice Av s.vot.length cv]/\WZ s d/\InStr w Ap s.ps/\InLk w Ac s.cap/\InLk w Av s.vot/\(∀y,y∈s.cap->DB y.1/\DB y.2.1)/\(∀y,y∈s.vot->DB y.1/\DB y.2.1)/\s.cap.length<=cc:=by
 obtain⟨c0,c1,c2,y0,y1,y2,m,rfl,rfl,_,aa,ad,ae⟩:=open_agg3 underlying32 (by kernel_rfl) SD hv h;obtain⟨Ap,cp,ps,e0,i0,m0⟩:=Nv aa;obtain⟨Ac,cc,cap,e1,i1,m1,z1,k1⟩:=JE ad;obtain⟨Av,cv,vot,e2,i2,m2,z2⟩:=S8 ae;simp only[List.cons.injEq,and_true]at e0 e1 e2;subst e0 e1 e2;exact⟨Ap,Ac,Av,cp,cc,cv,⟨ps,cap,vot⟩,rfl,⟨_,_,_,rfl,i0,i1,i2⟩,m0,m1,m2,z1,z2,k1⟩
theorem Vo{r:Go.Reach}{b0:Nat}{v:Value}{d:DataW H}{p:List MemPlace}(hv:Value.okWide prog w r b0 32 v)(h:DataW.Trod enc prog w base (fun _=>true) held 32 v d p):
 ∃(Ap Ac Av:Option Addr)(cp cc cv:Nat)(s:SR),v=.agg #[.slice Ap s.ps.length cp,.slice Ac s.cap.length cc,.slice Av s.vot.length cv]/\WZ s d/\InStr w Ap s.ps/\InLk w Ac s.cap/\InLk w Av s.vot/\(∀y,y∈s.cap->DB y.1/\DB y.2.1)/\∀y,y∈s.vot->DB y.1/\DB y.2.1:=by
 obtain⟨Ap,Ac,Av,cp,cc,cv,s,h1,h2,h3,h4,h5,h6,h7,_⟩:=SE hv h;exact⟨Ap,Ac,Av,cp,cc,cv,s,h1,h2,h3,h4,h5,h6,h7⟩
theorem Vp{s:SR}{d:DataW H}{Ap Ac Av:Option Addr}(h:WZ s d)(hw:∀m∈d.weights prog 32,m<=140737488351232)(m0:InStr w Ap s.ps)(m1:InLk w Ac s.cap)(m2:InLk w Av s.vot)
 (z1:∀y,y∈s.cap->DB y.1/\DB y.2.1)(z2:∀y,y∈s.vot->DB y.1/\DB y.2.1):StIn w s Ap Ac Av:=by
 obtain⟨dp,dc,dv,rfl,i0,i1,i2⟩:=h
 have e:(DataW.agg [dp,dc,dv]).weights prog 32=dp.weights prog 23++(dc.weights prog 30++dv.weights prog 30):=by
  simp[DataW.weights,DataW.weightsEach,underlying32]
 rw[e]at hw;obtain⟨a1,a2⟩:=Gl underlying23 (vC (by decide:0<16) (by kernel_rfl)) i0 fun m hm=>hw m (yV _ hm);obtain⟨b1,b2⟩:=Gl underlying30 (vC (by decide:0<56) (by kernel_rfl)) i1 fun m hm=>hw m (yz _ (yV _ hm));obtain⟨c1,c2⟩:=Gl underlying30 (vC (by decide:0<56) (by kernel_rfl)) i2 fun m hm=>hw m (yz _ (yz _ hm));exact⟨m0,m1,m2,a1,b1,c1,fun x hx=>SB (a2 x hx),fun x hx=>OL (b2 x hx),fun x hx=>OL (c2 x hx),z1,z2⟩
theorem Ny{r:Go.Reach}{b0:Nat}{v:Value}{d:DataW H}{p:List MemPlace}(hv:Value.okWide prog w r b0 37 v)(h:DataW.Trod enc prog w base (fun _=>true) held 37 v d p):
 ∃(A:Option Addr)(cap:Nat)(l:List Int),v=.slice A l.length cap/\Jp Vl l d/\InInt w A l/\∀y,y∈l->DB y:=by
 obtain⟨a,len,c,rfl⟩:=okWide_slice underlying37 hv;obtain⟨n,hn⟩:=h;obtain⟨A,cap,l,e,h1,h2,h3⟩:=It hn;refine⟨A,cap,l,?_,h1,h2,h3⟩
 simpa [Value.cells] using e
end
end Ci
end
section
open Go.RowKit Go.Shelf
namespace Nt
def InInt(z:Int):Prop:=-9223372036854775808<=z/\z<=9223372036854775807
end Nt
end
section
open Go.RowKit
namespace Nt
def Dg(k:Nat)(q:Rat):Prop:=q.num.natAbs<10^k/\q.den<10^k
theorem Dg.mono{k m:Nat}{q:Rat}(h:Dg k q)(hk:k<=m):Dg m q:=by
 have:10^k<=10^m:=zj (by omega) hk;exact⟨zJ h.1 this,zJ h.2 this⟩
theorem Dg.short{k:Nat}{q:Rat}(h:Dg k q)(hk:k<=140):ShortQ q:=by
 have:=h.mono (m:=mx1) (by rw[DQ];exact hk);exact this
theorem Iw(n:Int)(d:Nat)(hd:d≠0):(mkRat n d).num.natAbs<=n.natAbs/\(mkRat n d).den<=d:=by
 have e:n=sg (decide (n<0)) n.natAbs:=(Cg n).symm;rw[e,Ni _ _ _ hd,Nj _ _ _ hd,BH,BH];exact⟨wF _ _,wF _ _⟩
theorem Dg.add{k m:Nat}{p q:Rat}(hp:Dg k p)(hq:Dg m q):Dg (k+m+1) (p+q):=by
 have hd:p.den*q.den≠0:=wE p.den_nz q.den_nz;have h:=Iw (p.num*q.den+q.num*p.den) (p.den*q.den) hd;rw[KC]at h;have e:10^(k+m+1)=10^k*10^m*10:=by rw[yy,xu]
 have h1:p.num.natAbs*q.den<10^k*10^m:=xx hp.1 hq.2;have h2:q.num.natAbs*p.den<10^m*10^k:=xx hq.1 hp.2;have h3:p.den*q.den<10^k*10^m:=xx hp.2 hq.2;rw[yT (10^m)]at h2;have h4:=Int.natAbs_add_le (p.num*q.den) (q.num*p.den);rw[Int.natAbs_mul,Int.natAbs_mul,Int.natAbs_natCast,Int.natAbs_natCast]at h4;unfold Dg;rw[e];generalize 10^k*10^m=X at *;exact⟨by omega,by omega⟩
theorem Dg.neg{k:Nat}{q:Rat}(h:Dg k q):Dg k (-q):=⟨by show (-q.num).natAbs<10^k;rw[Int.natAbs_neg];exact h.1,h.2⟩
theorem Dg.sub{k m:Nat}{p q:Rat}(hp:Dg k p)(hq:Dg m q):Dg (k+m+1) (p-q):=by rw[Rat.sub_eq_add_neg];exact hp.add hq.neg
theorem Dg.mul{k m:Nat}{p q:Rat}(hp:Dg k p)(hq:Dg m q):Dg (k+m) (p*q):=by
 have hd:p.den*q.den≠0:=wE p.den_nz q.den_nz;have h:=Iw (p.num*q.num) (p.den*q.den) hd;rw[<-Rat.mul_def']at h;have h1:p.num.natAbs*q.num.natAbs<10^k*10^m:=xx hp.1 hq.1;have h3:p.den*q.den<10^k*10^m:=xx hp.2 hq.2;rw[Int.natAbs_mul]at h;unfold Dg;rw[xu];exact⟨by omega,by omega⟩
theorem Dg.div{k m:Nat}{p q:Rat}(hp:Dg k p)(hq:Dg m q)(h0:q≠0):Dg (k+m) (p/q):=by
 have hn:=CO h0;have hd:p.den*q.num.natAbs≠0:=wE p.den_nz (by omega);have h:=Iw (sg (decide (p.num<0) != decide (q.num<0)) (p.num.natAbs*q.den)) (p.den*q.num.natAbs) hd;rw[Sq,BH]at h;have h1:p.num.natAbs*q.den<10^k*10^m:=xx hp.1 hq.2;have h3:p.den*q.num.natAbs<10^k*10^m:=xx hp.2 hq.1;unfold Dg;rw[xu];exact⟨by omega,by omega⟩
end Nt
end
section
open Go.RowKit Go.Shelf
namespace Nt
abbrev YH(w:World)(g1:Bool)(n1 d1:ByteArray):World:=w.alloc (.cells #[.bool g1,.string n1,.string d1] 48)
theorem FP(w:World)(g1:Bool)(n1 d1:ByteArray):Below w.heap.size w (YH w g1 n1 d1):=(zI _ w).alloc (zB _) _
end Nt
end
section
namespace Nt
def At:Nat->(Nat->Rat)->Rat
 |0,_=>0
 |n+1,f=>At n f+f n
theorem Az{n:Nat}{f g:Nat->Rat}(h:∀i,i<n->f i=g i):At n f=At n g:=by
 induction n with
 |zero=>rfl
 |succ n ih=>unfold At;rw[ih fun i hi=>h i (by omega),h n (by omega)]
theorem CD{n:Nat}{f:Nat->Rat}(h:∀i,i<n->f i=0):At n f=0:=by
 induction n with
 |zero=>rfl
 |succ n ih=>unfold At;rw[ih fun i hi=>h i (by omega),h n (by omega)];exact ww 0
theorem CE(n:Nat)(f g:Nat->Rat):At n (fun i=>f i+g i)=At n f+At n g:=by
 induction n with
 |zero=>exact(ww 0).symm
 |succ n ih=>unfold At;rw[ih];grind
theorem AW(n:Nat)(c:Rat)(f:Nat->Rat):At n (fun i=>c*f i)=c*At n f:=by
 induction n with
 |zero=>simp[At]
 |succ n ih=>unfold At;rw[ih];grind
theorem Ck{n k:Nat}(f:Nat->Rat)(hk:k<n)(h:∀i,i<n->i≠k->f i=0):At n f=f k:=by
 induction n with
 |zero=>omega
 |succ n ih=>
  unfold At
  by_cases e:k=n
  .subst e;rw[CD fun i hi=>h i (by omega) (by omega)];grind
  rw[ih (by omega) fun i hi=>h i (by omega),h n (by omega) (by omega)];grind
abbrev Mx:=Nat->Nat->Rat
def Sol(n:Nat)(M:Mx)(y r:Nat->Rat):Prop:=∀i,i<n->At n (fun j=>M i j*y j)=r i
def Xa(n:Nat)(M:Mx):Prop:=∀r,∃y,Sol n M y r
def PZ(n:Nat)(M:Mx):Prop:=∀y,Sol n M y (fun _=>0)->∀i,i<n->y i=0
def Rel(n:Nat)(M M':Mx):Prop:=∃E:(Nat->Rat)->(Nat->Rat),(∀r s,(∀i,i<n->r i=s i)->∀i,i<n->E r i=E s i)/\(∀y r,Sol n M y r<->Sol n M' y (E r))/\(∀i,i<n->E (fun _=>0) i=0)/\(∀i,i<n->E (fun i=>M i n) i=M' i n)
theorem Sol.congr{n:Nat}{M:Mx}{y r s:Nat->Rat}(h:Sol n M y r)(e:∀i,i<n->r i=s i):Sol n M y s:=fun i hi=>(h i hi).trans (e i hi)
theorem Rel.refl(n:Nat)(M:Mx):Rel n M M:=⟨fun r=>r,fun _ _ h=>h,fun _ _=>wH,fun _ _=>rfl,fun _ _=>rfl⟩
def Bt(k p:Nat)(M:Mx):Mx:=fun i=>if i=k then M p else if i=p then M k else M i
def Bj(k:Nat)(M:Mx):Mx:=fun i j=>if i=k/\k<=j then M k j/M k k else M i j
def Dw(k i0:Nat)(M:Mx):Mx:=fun i j=>if i=i0/\k<=j then M i0 j-M i0 k*M k j else M i j
theorem SF{n k p:Nat}(M:Mx)(hk:k<n)(hp:p<n):Rel n M (Bt k p M):=by
 refine⟨fun r i=>if i=k then r p else if i=p then r k else r i,?_,?_,?_,?_⟩
 .intro r s h i hi;simp only[h p hp,h k hk,h i hi]
 .intro y r;constructor
  .intro h i hi;unfold Bt
   by_cases e1:i=k
   .simp only[e1,vG];exact h p hp
   by_cases e2:i=p
   .simp only[zE e1,zF e2];exact h k hk
   simp only[zE e1,zE e2];exact h i hi
  intro h i hi;unfold Bt at h
  by_cases e1:i=k
  .have h2:=h p hp
   by_cases e3:p=k
   .simp only[zF e3]at h2;rw[e1,<-e3];exact h2
   simp only[zE e3,vG]at h2;rw[e1];exact h2
  by_cases e2:i=p
  .have h2:=h k hk;simp only[vG]at h2;rw[e2];exact h2
  have h2:=h i hi;simp only[zE e1,zE e2]at h2;exact h2
 .intro i _;simp
 intro i _;unfold Bt
 by_cases e1:i=k
 .simp only[zF e1]
 by_cases e2:i=p
 .simp only[zE e1,zF e2]
 simp only[zE e1,zE e2]
def SH(k i:Nat)(M:Mx):Prop:=∀j,j<k->M i j=0
theorem Vr{n k:Nat}(M:Mx)(hk:k<n)(h0:M k k≠0)(hz:SH k k M):Rel n M (Bj k M):=by
 have key:∀y:Nat->Rat,At n (fun j=>Bj k M k j*y j)=(M k k)⁻¹*At n (fun j=>M k j*y j):=by
  intro y;rw[<-AW];apply Az;intro j _;unfold Bj
  by_cases e:k<=j
  .rw[zF ⟨rfl,e⟩,wT];grind
  rw[zE (fun h=>e h.2),hz j (by omega)];grind
 have other:∀i,i≠k->Bj k M i=M i:=by
  intro i hi
  funext j
  unfold Bj;rw[zE (fun h=>hi h.1)]
 refine⟨fun r i=>if i=k then r k/M k k else r i,?_,?_,?_,?_⟩
 .intro r s h i hi;simp only[h k hk,h i hi]
 .intro y r;constructor
  .intro h i hi
   by_cases e:i=k
   .subst e;rw[key,h i hi];dsimp only;rw[zF rfl,wT,ve]
   rw[other i e];dsimp only;rw[zE e];exact h i hi
  intro h i hi
  by_cases e:i=k
  .subst e;have h2:=h i hi;rw[key]at h2;dsimp only at h2;rw[zF rfl,wT,ve (r i)]at h2;have h3:=congrArg (fun t=>M i i*t) h2;simp only[<-Rat.mul_assoc,xf _ h0,wL]at h3;exact h3
  have h2:=h i hi;rw[other i e]at h2;dsimp only at h2;rw[zE e]at h2;exact h2
 .intro i _
  by_cases e:i=k
  .simp only[zF e];rw[wT,vf]
  simp only[zE e]
 intro i _;unfold Bj;dsimp only
 by_cases e:i=k
 .rw[zF e,zF ⟨e,by omega⟩]
 rw[zE e,zE fun h=>e h.1]
theorem Vs{n k i0:Nat}(M:Mx)(hk:k<n)(aa:i0<n)(d:i0≠k)(hz:SH k k M):Rel n M (Dw k i0 M):=by
 have key:∀y:Nat->Rat,At n (fun j=>Dw k i0 M i0 j*y j)=At n (fun j=>M i0 j*y j)-M i0 k*At n (fun j=>M k j*y j):=by
  intro y
  have e1:At n (fun j=>Dw k i0 M i0 j*y j)=At n (fun j=>M i0 j*y j+(- M i0 k)*(M k j*y j)):=by
   apply Az;intro j _;unfold Dw
   by_cases e:k<=j
   .rw[zF ⟨rfl,e⟩];grind
   rw[zE (fun h=>e h.2),hz j (by omega)];grind
  rw[e1,CE,AW];grind
 have other:∀i,i≠i0->Dw k i0 M i=M i:=by
  intro i hi
  funext j
  unfold Dw;rw[zE (fun h=>hi h.1)]
 refine⟨fun r i=>if i=i0 then r i0-M i0 k*r k else r i,?_,?_,?_,?_⟩
 .intro r s h i hi;simp only[h k hk,h i hi,h i0 aa]
 .intro y r;constructor
  .intro h i hi
   by_cases e:i=i0
   .subst e;rw[key,h i hi,h k hk];dsimp only;rw[zF rfl]
   rw[other i e];dsimp only;rw[zE e];exact h i hi
  intro h i hi
  by_cases e:i=i0
  .subst e;have h2:=h i hi;have h3:=h k hk;rw[key]at h2;dsimp only at h2;rw[zF rfl]at h2;rw[other k (fun e=>d e.symm)]at h3;dsimp only at h3;rw[zE (fun e=>d e.symm)]at h3;rw[h3]at h2;grind
  have h2:=h i hi;rw[other i e]at h2;dsimp only at h2;rw[zE e]at h2;exact h2
 .intro i _
  by_cases e:i=i0
  .simp only[zF e];grind
  simp only[zE e]
 intro i _;unfold Dw;dsimp only
 by_cases e:i=i0
 .rw[zF e,zF ⟨e,by omega⟩]
 rw[zE e,zE fun h=>e h.1]
theorem Rel.trans{n:Nat}{A B C:Mx}(h1:Rel n A B)(h2:Rel n B C):Rel n A C:=by
 obtain⟨E,e1,e2,e3,e4⟩:=h1;obtain⟨F,f1,f2,f3,f4⟩:=h2;refine⟨fun r=>F (E r),fun r s h=>f1 _ _ (e1 r s h),fun y r=>(e2 y r).trans (f2 y (E r)),?_,?_⟩
 .intro i hi;exact(f1 _ (fun _=>0) e3 i hi).trans (f3 i hi)
 intro i hi;exact(f1 _ (fun i=>B i n) e4 i hi).trans (f4 i hi)
def Unit(n k:Nat)(M:Mx):Prop:=∀i j,i<n->j<k->M i j=if i=j then 1 else 0
theorem Unit.zeros{n k i:Nat}{M:Mx}(h:Unit n k M)(hi:i<n)(hk:k<=i):SH k i M:=fun j hj=>by rw[h i j hi hj,zE (by omega)]
theorem SI{n k:Nat}{M0 M:Mx}(h:Rel n M0 M)(hu:Unit n k M)(hk:k<n)(hz:∀i,k<=i->i<n->M i k=0):¬PZ n M0:=by
 intro ht;obtain⟨E,e1,e2,e3,e4⟩:=h
 have hs:Sol n M (fun j=>if j<k then-M j k else if j=k then 1 else 0) (fun _=>0):=by
  intro i hi
  by_cases hik:i<k
  .have e:At n (fun j=>M i j*(if j<k then-M j k else if j=k then 1 else 0))=At n (fun j=>if j=i then-M i k else 0)+At n (fun j=>if j=k then M i k else 0):=by
    rw[<-CE];apply Az;intro j hj
    by_cases h1:j<k
    .rw[hu i j hi h1,zF h1,zE (show ¬j=k by omega)]
     by_cases h2:i=j
     .subst h2;rw[zF rfl,zF rfl];grind
     rw[zE h2,zE (fun e=>h2 e.symm)];grind
    rw[zE h1,zE (show ¬j=i by omega)]
    by_cases h2:j=k
    .subst h2;rw[zF rfl,zF rfl];grind
    rw[zE h2,zE h2];grind
   rw[e,Ck (k:=i) _ hi (fun j _ h=>zE h),Ck (k:=k) _ hk (fun j _ h=>zE h),zF rfl,zF rfl];grind
  refine CD ?_;intro j hj
  by_cases h1:j<k
  .rw[hu i j hi h1,zE (by omega)];grind
  dsimp only;rw[zE h1]
  by_cases h2:j=k
  .subst h2;rw[hz i (by omega) hi];grind
  rw[zE h2];grind
 have h0:Sol n M0 (fun j=>if j<k then-M j k else if j=k then 1 else 0) (fun _=>0):=(e2 _ _).2 (hs.congr fun i hi=>(e3 i hi).symm);have:=ht _ h0 k hk;simp at this
theorem SJ{n:Nat}{M0 M:Mx}(h:Rel n M0 M)(hu:Unit n n M):(∀y,Sol n M0 y (fun i=>M0 i n)<->∀i,i<n->y i=M i n)/\PZ n M0/\Xa n M0:=by
 obtain⟨E,e1,e2,e3,e4⟩:=h
 have key:∀y r,Sol n M y r<->∀i,i<n->y i=r i:=by
  intro y r
  have hs:∀i,i<n->At n (fun j=>M i j*y j)=y i:=by
   intro i hi;rw[Ck (k:=i) _ hi (fun j hj h=>by rw[hu i j hi hj,zE (fun e=>h e.symm)];grind),hu i i hi hi,if_pos rfl,Rat.one_mul]
  exact⟨fun h i hi=>(hs i hi).symm.trans (h i hi),fun h i hi=>(hs i hi).trans (h i hi)⟩
 refine⟨fun y=>?_,?_,?_⟩
 .rw[e2,key];exact⟨fun h i hi=>(h i hi).trans (e4 i hi),fun h i hi=>(h i hi).trans (e4 i hi).symm⟩
 .intro y h i hi;have:=(key _ _).1 ((e2 _ _).1 h) i hi;rw[this,e3 i hi]
 intro r;exact⟨E r,(e2 _ _).2 ((key _ _).2 fun _ _=>rfl)⟩
theorem Qa{n k p:Nat}{M:Mx}(h:Unit n k M)(hk:k<n)(hp:p<n)(d:k<=p):Unit n k (Bt k p M):=by
 intro i j hi hj;unfold Bt
 by_cases e1:i=k
 .simp only[zF e1];rw[h p j hp hj,zE (by omega),zE (by omega)]
 by_cases e2:i=p
 .simp only[zE e1,zF e2];rw[h k j hk hj,zE (by omega),zE (by omega)]
 simp only[zE e1,zE e2];exact h i j hi hj
theorem SK{n k:Nat}{M:Mx}(h:Unit n k M):Unit n k (Bj k M):=by
 intro i j hi hj;unfold Bj;rw[zE (by omega)];exact h i j hi hj
theorem SL{n k i0:Nat}{M:Mx}(h:Unit n k M):Unit n k (Dw k i0 M):=by
 intro i j hi hj;unfold Dw;rw[zE (by omega)];exact h i j hi hj
def CX(n k:Nat)(M:Mx):Nat->Option Nat
 |0=>none
 |f+1=>if M (n-(f+1)) k=0 then CX n k M f else some (n-(f+1))
theorem FQ{n k p:Nat}{M:Mx}:∀{f:Nat},f<=n->CX n k M f=some p->n-f<=p/\p<n/\M p k≠0/\∀i,n-f<=i->i<p->M i k=0:=by
 intro f
 induction f with
 |zero=>intro _ h;cases h
 |succ f ih=>
  intro hf h;unfold CX at h
  by_cases h0:M (n-(f+1)) k=0
  .rw[zF h0]at h;obtain⟨a,b,c,d⟩:=ih (by omega) h;refine⟨by omega,b,c,fun i h1 h2=>?_⟩
   by_cases e:i=n-(f+1)
   .rw[e];exact h0
   exact d i (by omega) h2
  rw[zE h0]at h
  cases h
  exact⟨by omega,by omega,h0,fun i h1 h2=>absurd h1 (by omega)⟩
theorem Nz{n k:Nat}{M:Mx}:∀{f:Nat},f<=n->CX n k M f=none->∀i,n-f<=i->i<n->M i k=0:=by
 intro f
 induction f with
 |zero=>intro _ _ i h1 h2;omega
 |succ f ih=>
  intro hf h i h1 h2;unfold CX at h
  by_cases h0:M (n-(f+1)) k=0
  .rw[zF h0]at h
   by_cases e:i=n-(f+1)
   .rw[e];exact h0
   exact ih (by omega) h i (by omega) h2
  rw[zE h0]at h;cases h
theorem Iy{n k p:Nat}{M:Mx}:∀{f:Nat},f<=n->n-f<=p->p<n->M p k≠0->(∀i,n-f<=i->i<p->M i k=0)->CX n k M f=some p:=by
 intro f
 induction f with
 |zero=>intro _ h1 h2;omega
 |succ f ih=>
  intro hf h1 h2 h3 h4;unfold CX
  by_cases e:p=n-(f+1)
  .subst e;rw[zE h3]
  rw[zF (h4 _ (zB _) (by omega))];exact ih (by omega) (by omega) h2 h3 fun i a b=>h4 i (by omega) b
theorem SM{n k:Nat}{M:Mx}:∀{f:Nat},f<=n->(∀i,n-f<=i->i<n->M i k=0)->CX n k M f=none:=by
 intro f
 induction f with
 |zero=>intros;rfl
 |succ f ih=>
  intro hf h;unfold CX;rw[zF (h _ (zB _) (by omega))];exact ih (by omega) fun i a b=>h i (by omega) b
variable (S:Rat->Bool)
def Iz(n k:Nat)(M:Mx):Bool:=(List.range (n+1)).all fun j=>decide (j<k)||(S (M k j)&&S (M k k))
def I0(n k i:Nat)(M:Mx):Bool:=(List.range (n+1)).all fun j=>decide (j<k)||(S (M i k)&&S (M k j)&&S (M i j)&&S (M i k*M k j))
def BJ(n k i:Nat)(M:Mx):Option Mx:=if i=k\/M i k=0 then some M else if I0 S n k i M=true then some (Dw k i M) else none
def AK(n k:Nat):Nat->Mx->Option Mx
 |0,M=>some M
 |i+1,M=>(AK n k i M).bind (BJ S n k i)
def CY(n k:Nat)(M:Mx):Except Int Mx :=
 match CX n k M (n-k) with
 |none=>.error 12
 |some p=>if Iz S n k (Bt k p M)=true then (match AK S n k n (Bj k (Bt k p M)) with|some M'=>.ok M' | none=>.error 2) else .error 2
def AB(n:Nat):Nat->Mx->Except Int Mx
 |0,M=>.ok M
 |k+1,M=>(AB n k M).bind (CY S n k)
theorem Fnq{n k:Nat}{M:Mx}:Iz S n k M=true<->∀j,k<=j->j<=n->S (M k j)=true/\S (M k k)=true:=by
 unfold Iz;simp only[wm,List.mem_range,Bool.or_eq_true,yC,zr];constructor
 .intro h j h1 h2
  rcases h j (by omega) with h3|h3
  .omega
  exact h3
 intro h j h1
 rcases vQ j k with h2|h2
 .exact .inl h2
 exact .inr (h j h2 (by omega))
theorem Fo{n k i:Nat}{M:Mx}:I0 S n k i M=true<->∀j,k<=j->j<=n->S (M i k)=true/\S (M k j)=true/\S (M i j)=true/\S (M i k*M k j)=true:=by
 unfold I0;simp only[wm,List.mem_range,Bool.or_eq_true,yC,zr];constructor
 .intro h j h1 h2
  rcases h j (by omega) with h3|h3
  .omega
  exact⟨h3.1.1.1,h3.1.1.2,h3.1.2,h3.2⟩
 intro h j h1
 rcases vQ j k with h2|h2
 .exact .inl h2
 have h3:=h j h2 (by omega);exact .inr ⟨⟨⟨h3.1,h3.2.1⟩,h3.2.2.1⟩,h3.2.2.2⟩
variable {S:Rat->Bool}
theorem N0{n k:Nat}{M:Mx}(hk:k<n)(hu:Unit n k M)(h1:M k k=1):∀{i:Nat} {M':Mx},i<=n->AK S n k i M=some M'->Rel n M M'/\Unit n k M'/\(∀j,M' k j=M k j)/\(∀i',i'<i->i'≠k->M' i' k=0):=by
 intro i
 induction i with
 |zero=>
  intro M' _ h
  cases h
  exact⟨Rel.refl _ _,hu,fun _=>rfl,fun i' h=>absurd h (by omega)⟩
 |succ i ih=>
  intro M' hi h;unfold AK at h
  cases he:AK S n k i M with
  |none=>rw[he]at h;cases h
  |some M2=>
   rw[he]at h;obtain⟨r,u,d,hz⟩:=ih (by omega) he;have h':BJ S n k i M2=some M':=h;unfold BJ at h'
   by_cases c1:i=k\/M2 i k=0
   .rw [zF c1]at h'
    cases h'
    refine⟨r,u,d,fun i' a b=>?_⟩
    by_cases e:i'=i
    .subst e
     rcases c1 with c|c
     .exact absurd c b
     exact c
    exact hz i' (by omega) b
   rw[zE c1]at h'
   by_cases c2:I0 S n k i M2=true
   .rw [zF c2]at h'
    cases h'
    have aa:i≠k:=fun e=>c1 (.inl e);refine⟨r.trans (Vs M2 hk (by omega) aa (u.zeros hk (zB _))),SL u,fun j=>?_,fun i' a b=>?_⟩
    .unfold Dw;rw[zE fun h=>aa h.1.symm];exact d j
    by_cases e:i'=i
    .subst e;unfold Dw;rw[zF ⟨rfl,zB _⟩,d,h1];grind
    unfold Dw;rw[zE fun h=>e h.1];exact hz i' (by omega) b
   rw[zE c2]at h';cases h'
theorem Qb{n k:Nat}{M M':Mx}(hk:k<n)(hu:Unit n k M)(h:CY S n k M=.ok M'):Rel n M M'/\Unit n (k+1) M':=by
 unfold CY at h
 cases hp:CX n k M (n-k) with
 |none=>rw[hp]at h;cases h
 |some p=>
  rw[hp]at h;obtain⟨a,b,c,_⟩:=FQ (by omega) hp;have u1:=Qa hu hk b (by omega:k<=p);have c1:Bt k p M k k≠0:=by unfold Bt;rw[zF rfl];exact c
  have r1:=(SF M hk b).trans (Vr _ hk c1 (u1.zeros hk (zB _)));have u2:=SK u1
  have d1:Bj k (Bt k p M) k k=1:=by
   unfold Bj;rw[zF ⟨rfl,zB _⟩,wT,xf _ c1]
  dsimp only at h
  split at h
  .cases he:AK S n k n (Bj k (Bt k p M)) with
   |none=>rw[he]at h;cases h
   |some M2=>
    rw[he]at h
    cases h
    obtain⟨r,u,d,hz⟩:=N0 hk u2 d1 (zB n) he;refine⟨r1.trans r,fun i j hi hj=>?_⟩
    by_cases e:j=k
    .subst e
     by_cases e2:i=j
     .rw[zF e2,e2,d,d1]
     rw[zE e2];exact hz i hi e2
    exact u i j hi (by omega)
  cases h
theorem Hi{n:Nat}{M:Mx}:∀{k:Nat} {M':Mx},k<=n->AB S n k M=.ok M'->Rel n M M'/\Unit n k M':=by
 intro k
 induction k with
 |zero=>
  intro M' _ h
  cases h
  exact⟨Rel.refl _ _,fun i j _ hj=>absurd hj (by omega)⟩
 |succ k ih=>
  intro M' hk h;unfold AB at h
  cases hs:AB S n k M with
  |error e=>rw[hs]at h;cases h
  |ok M2=>
   rw[hs]at h;obtain⟨r,u⟩:=ih (by omega) hs;obtain⟨r2,u2⟩:=Qb (by omega) u h;exact⟨r.trans r2,u2⟩
theorem Qc{n k:Nat}{M:Mx}{e:Int}(h:CY S n k M=.error e):(e=12/\CX n k M (n-k)=none)\/e=2:=by
 unfold CY at h
 cases hp:CX n k M (n-k) with
 |none=>rw[hp]at h;cases h;exact .inl ⟨rfl,rfl⟩
 |some p=>
  rw[hp]at h;dsimp only at h
  split at h
  .split at h
   .cases h
   cases h;exact .inr rfl
  cases h;exact .inr rfl
theorem N1{n:Nat}{M:Mx}:(∃M',AB S n n M=.ok M'/\(∀y,Sol n M y (fun i=>M i n)<->∀i,i<n->y i=M' i n)/\PZ n M/\Xa n M)\/(AB S n n M=.error 12/\¬PZ n M)\/AB S n n M=.error 2:=by
 have key:∀k,k<=n->∀e,AB S n k M=.error e->(e=12/\¬PZ n M)\/e=2:=by
  intro k
  induction k with
  |zero=>intro _ e h;cases h
  |succ k ih=>
   intro hk e h;unfold AB at h
   cases hs:AB S n k M with
   |error e' =>
    rw[hs]at h;have:e'=e:=by cases h;rfl
    subst this;exact ih (by omega) e' hs
   |ok M2=>
    rw[hs]at h;obtain⟨r,u⟩:=Hi (by omega) hs
    rcases Qc h with⟨h1,h2⟩|h1
    .refine .inl ⟨h1,SI r u (by omega) fun i a b=>?_⟩;exact Nz (by omega) h2 i (by omega) b
    .exact .inr h1
 cases hs:AB S n n M with
 |ok M' =>
  obtain⟨r,u⟩:=Hi (zB n) hs;exact .inl ⟨M',rfl,SJ r u⟩
 |error e=>
  rcases key n (zB n) e hs with⟨h1,h2⟩|h1
  .exact .inr (.inl ⟨by rw[h1],h2⟩)
  exact .inr (.inr (by rw[h1]))
section laws
variable {S:Rat->Bool} {n:Nat}
theorem Xb{M M':Mx}(h:AB S n n M=.ok M'):(∀y,Sol n M y (fun i=>M i n)<->∀i,i<n->y i=M' i n)/\PZ n M/\Xa n M:=by
 rcases N1 (S:=S) (n:=n) (M:=M) with⟨M2,h1,h2⟩|⟨h1,_⟩|h1
 .rw[h]at h1;cases h1;exact h2
 .rw[h]at h1;cases h1
 rw[h]at h1;cases h1
end laws
end Nt
end
section
open Go.RowKit Go.Shelf
namespace Nt
abbrev Raw:=Bool×ByteArray×ByteArray
def EQ(x:Raw):List Value:=[.bool x.1,.string x.2.1,.string x.2.2]
def rq(q:Rat):Raw:=(decide (q.num<0),T (some q.num.natAbs),T (some q.den))
def AM(m:Nat)(r:Nat->Raw):List Value:=(List.range m).flatMap fun j=>EQ (r j)
theorem AE(m:Nat)(r:Nat->Raw):(AM m r).length=m*3:=by
 unfold AM
 induction m with
 |zero=>rfl
 |succ m ih=>rw[xo,List.flatMap_append,zX,ih];simp[EQ];omega
theorem BX(m:Nat)(r:Nat->Raw):AM (m+1) r=AM m r++EQ (r m):=by
 unfold AM;rw[xo,List.flatMap_append];simp
theorem CP{m j:Nat}(r:Nat->Raw)(hj:j<m)(c:Nat)(hc:c<3):(AM m r)[j*3+c]? = (EQ (r j))[c]?:=by
 induction m with
 |zero=>omega
 |succ m ih=>
  rw[BX]
  by_cases e:j=m
  .subst e;rw[List.getElem?_append_right (by rw[AE];omega),AE]
   congr 1
   omega
  rw[xw (by rw[AE];omega)];exact ih (by omega)
theorem FR{m:Nat}{r s:Nat->Raw}(h:∀j,j<m->r j=s j):AM m r=AM m s:=by
 induction m with
 |zero=>rfl
 |succ m ih=>rw[BX,BX,ih fun j hj=>h j (by omega),h m (by omega)]
theorem SN{m j:Nat}(r:Nat->Raw)(hj:j<m)(x:Raw):
 (((AM m r).set (j*3) (.bool x.1)).set (j*3+1) (.string x.2.1)).set (j*3+2) (.string x.2.2)=AM m (fun i=>if i=j then x else r i):=by
 induction m with
 |zero=>omega
 |succ m ih=>
  rw[BX,BX]
  by_cases e:j=m
  .subst e;have hl:=AE j r;rw[List.set_append_right _ _ (by omega),List.set_append_right _ _ (by omega),List.set_append_right _ _ (by omega)];rw[hl,show j*3-j*3=0 by omega,show j*3+1-j*3=1 by omega,show j*3+2-j*3=2 by omega,zF rfl];rw[FR (m:=j) (r:=r) (s:=fun i=>if i=j then x else r i) fun i hi=>(zE (by omega)).symm];rfl
  have hl:=AE m r;rw[List.set_append_left _ _ (by omega),List.set_append_left _ _ (by rw[List.length_set];omega),List.set_append_left _ _ (by rw[List.length_set,List.length_set];omega),ih (by omega),zE (fun h=>e h.symm)]
def RowB(W:World)(b m:Nat)(r:Nat->Raw):Prop:=W.heap[b]? = some (.cells (AM m r).toArray 48 (0,0))
section
variable {W W':World} {b m:Nat} {r:Nat->Raw}
theorem RowB.lt(h:RowB W b m r):b<W.heap.size:=(Array.getElem?_eq_some_iff.1 h).1
theorem RowB.cell(h:RowB W b m r){j:Nat}(hj:j<m):
 W.cell? ⟨b,j*3,none⟩=some (.bool (r j).1)/\W.cell? ⟨b,j*3+1,none⟩=some (.string (r j).2.1)/\W.cell? ⟨b,j*3+2,none⟩=some (.string (r j).2.2):=by
 have hc:∀c,W.cell? ⟨b,c,none⟩=(AM m r)[c]?:=fun c=>by unfold RowB at h;simp[World.cell?,h]
 rw[hc,hc,hc];have h0:=CP r hj 0 (by omega);have h1:=CP r hj 1 (by omega);have h2:=CP r hj 2 (by omega);exact⟨h0,h1,h2⟩
theorem RowB.frozen(h:RowB W b m r)(o:Nat):W.frozen? ⟨b,o,none⟩=false:=by
 unfold RowB at h;simp[World.frozen?,h]
theorem RowB.congr(h:RowB W b m r){s:Nat->Raw}(e:∀j,j<m->r j=s j):RowB W b m s:=by
 unfold RowB at h ⊢;rw[h,FR e]
theorem RowB.alloc(h:RowB W b m r)(o:Obj):RowB (W.alloc o) b m r:=(yP W o b h.lt).trans h
theorem RowB.drew(h:RowB W b m r):RowB W.drew b m r:=h
theorem RowB.far(h:RowB W b m r){p:Addr}(hp:b≠p.block)(v:Value):RowB (W.setCell p v) b m r:=(zg _ _ _ _ hp).trans h
theorem RowB.below{B:Nat}(h:RowB W b m r)(hb:Below B W W')(hl:b<B):RowB W' b m r:=(hb.block b hl).trans h
theorem RowB.grown{row:Option Nat}(h:RowB W b m r)(hg:W.grownBy W' row)(hn:some b≠row):RowB W' b m r:=(hg.block b h.lt hn).trans h
theorem RowB.set(h:RowB W b m r){j:Nat}(hj:j<m)(x:Raw):
 RowB (((W.setCell ⟨b,j*3,none⟩ (.bool x.1)).setCell ⟨b,j*3+1,none⟩ (.string x.2.1)).setCell ⟨b,j*3+2,none⟩ (.string x.2.2)) b m (fun i=>if i=j then x else r i):=by
 have hs:=SN r hj x;have hl:=AE m r;unfold RowB at h ⊢;rw[<-hs]
 have h1:∀(V:World)(l:List Value)(o:Nat)(v:Value),V.heap[b]? = some (.cells l.toArray 48 (0,0))->(V.setCell ⟨b,o,none⟩ v).heap[b]? = some (.cells (l.set o v).toArray 48 (0,0)):=by
  intro V l o v hv;simp[World.setCell,Array.getElem?_modify,hv]
 exact h1 _ _ _ _ (h1 _ _ _ _ (h1 _ _ _ _ h))
end
theorem infoQ:(prog.info? 48).map (fun i=>(i.zero,i.size,i.bytes))=some (some (.agg #[.bool false,.string ⟨#[]⟩,.string ⟨#[]⟩]),3,40):=by kernel_rfl
def zraw:Raw:=(false,⟨#[]⟩,⟨#[]⟩)
theorem SO(m:Nat):madeCells (.agg #[.bool false,.string ⟨#[]⟩,.string ⟨#[]⟩]:Value).cells (m*3)=(AM m fun _=>zraw).toArray:=by
 have e:(.agg #[.bool false,.string ⟨#[]⟩,.string ⟨#[]⟩]:Value).cells=#[.bool false,.string ⟨#[]⟩,.string ⟨#[]⟩]:=by simp[Value.cells]
 rw[e];apply Array.ext
 .rw[size_madeCells];simp[AE]
 intro i h1 h2;rw[size_madeCells]at h1;have h3:=CP (m:=m) (j:=i/3) (fun _=>zraw) (by omega) (i%3) (by omega);rw[show i/3*3+i%3=i by omega]at h3;have h4:(AM m fun _=>zraw)[i]? = some ((AM m fun _=>zraw)[i]'(by simpa using h2)):=ze _;rw[h4]at h3
 have h5:(madeCells #[(.bool false:Value),.string ⟨#[]⟩,.string ⟨#[]⟩] (m*3))[i]'(by rw[size_madeCells];exact h1)=(#[(.bool false:Value),.string ⟨#[]⟩,.string ⟨#[]⟩]:Array Value)[i%3]!:=by
  simp[madeCells]
 rw[h5,List.getElem_toArray];have h6:i%3=0\/i%3=1\/i%3=2:=by omega
 rcases h6 with h6|h6|h6<;>rw[h6]at h3 ⊢<;>simp[EQ,zraw]at h3 ⊢<;>exact h3.symm
theorem FS(t:TypeId)(ht:prog.underlying t=some (.slice 48))(m:Nat)(hm:m<=1000)(w:World):
 (Instr.makeSlice t (.int .i64 (m:Int)) (.int .i64 (m:Int))).run prog w=.ok (.slice (some ⟨w.heap.size,0,none⟩) m m) (w.alloc (.cells (AM m fun _=>zraw).toArray 48)):=by
 obtain⟨i,hi,d⟩:=Option.map_eq_some_iff.1 infoQ;simp only[Prod.mk.injEq]at d;obtain⟨hz,hs,hb⟩:=d;have hr:=run_make (P:=prog) w t 48 i _ ht hi hz .i64 .i64 m m (by omega) (Int.le_refl _) (by rw[hb];omega) (by omega);simp only[wZ,hs]at hr;rw[SO]at hr;exact hr
theorem N7(w:World)(dT sT ty:TypeId)(g dLen dCap:Nat)(a:Addr)(n sCap:Nat)(cur cs:List Value)
 (hu:prog.underlying dT=some (.slice 48))(hg:w.heap[g]? = some (.cells cur.toArray 48 (0,0)))(hn:cs.length=n*3)(ae:n<=dLen)
 (aa:∀j v,cs[j]? = some v->w.cell? (a.add j)=some v)(d:cs.length<=cur.length)(h1:∀v∈cs,v.oneCell'=true):
 (Builtin.copy_ #[dT,sT] ty #[.slice (some ⟨g,0,none⟩) dLen dCap,.slice (some a) n sCap]).run prog w=.ok (goInt n) (w.setRow g (cs++cur.drop cs.length).toArray):=by
 have hl:=run_loadCells_list (P:=prog) w a cs aa;have af:=run_storeCells_at prog g 0 48 cs 0 cur.toArray w hg (by simpa using d) h1;obtain⟨i,hi,ad⟩:=Option.map_eq_some_iff.1 infoQ;simp only[Prod.mk.injEq]at ad;obtain⟨hz,hs,hb⟩:=ad;have h:Nat.min n dLen=n:=Nat.min_eq_left ae;simp[Builtin.copy_,run_underlying hu,Builtin.lenOf,Builtin.firstCells,sizeOf,typeInfo,hi,hs,h,<-hn,hl,af]
def InRow(W:World)(A:Option Addr)(l:List Raw):Prop :=
 0<l.length->∃b off,A=some ⟨b,off,none⟩/\b<W.heap.size/\∀j (h:j<l.length),W.cell? ⟨b,off+j*3,none⟩=some (.bool l[j].1)/\W.cell? ⟨b,off+j*3+1,none⟩=some (.string l[j].2.1)/\W.cell? ⟨b,off+j*3+2,none⟩=some (.string l[j].2.2)
theorem InRow.below{W W':World}{B:Nat}{A:Option Addr}{l:List Raw}(h:InRow W A l)(hb:Below B W W')(hB:W.heap.size<=B):InRow W' A l:=fun h0=>by
 obtain⟨b,off,e,hl,hc⟩:=h h0;refine⟨b,off,e,zJ hl hb.size,fun j hj=>?_⟩;obtain⟨c1,c2,c3⟩:=hc j hj;exact⟨(hb.cell (p:=⟨b,off+j*3,none⟩) (by show b<B;omega)).trans c1,(hb.cell (p:=⟨b,off+j*3+1,none⟩) (by show b<B;omega)).trans c2,(hb.cell (p:=⟨b,off+j*3+2,none⟩) (by show b<B;omega)).trans c3⟩
abbrev RowH:=Option Addr×Nat×List Raw
def InMat(W:World)(A:Option Addr)(l:List RowH):Prop :=
 0<l.length->∃b off,A=some ⟨b,off,none⟩/\b<W.heap.size/\∀i (h:i<l.length),W.cell? ⟨b,off+i,none⟩=some (.slice l[i].1 l[i].2.2.length l[i].2.1)/\InRow W l[i].1 l[i].2.2
theorem InMat.below{W W':World}{B:Nat}{A:Option Addr}{l:List RowH}(h:InMat W A l)(hb:Below B W W')(hB:W.heap.size<=B):InMat W' A l:=fun h0=>by
 obtain⟨b,off,e,hl,hc⟩:=h h0;refine⟨b,off,e,zJ hl hb.size,fun i hi=>?_⟩;obtain⟨c1,c2⟩:=hc i hi;exact⟨(hb.cell (p:=⟨b,off+i,none⟩) (by show b<B;omega)).trans c1,c2.below hb hB⟩
def EnvB(B:Nat)(w:World):Prop:=∀w',Below B w w'->Env w'
theorem EnvB.of{w:World}(h:Env w):EnvB w.heap.size w:=fun _ hb=>h.below hb
theorem EnvB.env{B:Nat}{w:World}(h:EnvB B w):Env w:=h w (zI B w)
theorem EnvB.below{B:Nat}{w w':World}(h:EnvB B w)(hb:Below B w w'):EnvB B w':=fun _ h2=>h _ (hb.trans h2)
end Nt
end
section
open Go.RowKit Go.Shelf
namespace Nt
def Ee(x:Raw):Bool:=A4 x.1 x.2.1 x.2.2
def EC(x:Raw):Prop:=x.2.1.size<=140737488355328/\x.2.2.size<=140737488355328
def allV(l:List Raw):Bool:=l.all Ee
theorem N8(x:Raw)(w:World)(hE:Env w)(hz:EC x):
 Calls prog 120 #[.agg #[.bool x.1,.string x.2.1,.string x.2.2]] w fun e w'=>e=.returned (.bool (!Ee x))/\Below w.heap.size w w':=by
 obtain⟨g,n,d⟩:=x;have hv:=fun W (h:Env W)=>AL g n d W h hz.1 hz.2;have e:Ee (g,n,d)=A4 g n d:=rfl;rw[e];dsimp only;clear e;generalize A4 g n d=v at *;replace hE:=zh hE;replace hv:=zh hv;clear hz;go_enter func120,ntmps120
 go_wp2_with fail
 refine(hv.o _ (hE.o.below (FP w g n d))).q fun w1 hb=>?_;have hB:=zh ((FP w g n d).trans (hb.mono (by simp)));clear hb;go_wp2;go_ret;exact⟨rfl,hB.o⟩
theorem I1(w:World):
 Calls prog 82 #[] w fun e w'=>e=.returned (.agg #[.bool false,.string ⟨#[48]⟩,.string ⟨#[49]⟩])/\Below w.heap.size w w':=by
 go_enter func82,ntmps82;go_wp2;refine zo (v:=.agg #[.bool false,.string ⟨#[48]⟩,.string ⟨#[49]⟩]) (by simp[results,results82,go_sem]) rfl ⟨rfl,?_⟩
 repeat refine yI ?_ (by simp only[];omega) _
 exact FP _ _ _ _
def KE(l:List Raw):Int:=if allV l then -1 else (l.findIdx fun x=>!Ee x:Nat)
theorem Vt{l:List Raw}{k:Nat}(hk:k<l.length)(d:∀j (h:j<l.length),j<k->Ee l[j]=true)(hb:Ee l[k]=false):KE l=k:=by
 unfold KE allV
 have h1:l.all Ee=false:=by
  rw[List.all_eq_false];exact⟨l[k],zO hk,by rw[hb];simp⟩
 rw[h1,zE (by simp)]
 congr 1
 rw[List.findIdx_eq hk];exact⟨by rw[hb];rfl,fun j hj=>by rw[d j (by omega) hj];rfl⟩
theorem SP{l:List Raw}(d:∀j (h:j<l.length),j<l.length->Ee l[j]=true):KE l=-1:=by
 unfold KE allV;rw[zF];rw[wm];intro x hx;obtain⟨j,hj,rfl⟩:=zi hx;exact d j hj hj
theorem Vu(l:List Raw):decide (0<=KE l)=!allV l:=by
 unfold KE
 cases allV l
 .rw[zE (by simp)];simp
 rw[zF rfl];rfl
theorem SS(A:Option Addr)(cap:Nat)(l:List Raw)(w:World)(hE:Env w)(hr:InRow w A l)(hl:l.length<=140737488355328)(hz:∀x∈l,EC x):
 Calls prog 151 #[.slice A l.length cap,.func (.func 120) #[] #[]] w
  fun e w'=>e=.returned (.int .i64 (KE l))/\Below w.heap.size w w':=by
 have HF:=zh (fun(k:Nat) (hk:k<l.length) h1 h2=>Vt (l:=l) hk h1 h2);have HA:=zh (SP (l:=l));generalize KE l=res at *;replace hE:=zh hE;replace hr:=zh hr;replace hz:=zh hz;go_enter func151,ntmps151;go_wp2
 go_loopw [8] (fun i wr=>∃k:Nat,k<=l.length/\i=.int .i64 (k:Int)/\Hid (∀j (h:j<l.length),j<k->Ee l[j]=true)/\Hid (Below w.heap.size w wr)) (fun i _=>l.length-(intOf i).toNat)
 case atStart=>exact⟨0,zS _,rfl,fun j _ h=>absurd h (by omega),zI _ _⟩
 case round=>
  obtain⟨k,hk,rfl,ad,hB⟩:=hrel
  by_cases hlt:k<l.length
  .obtain ⟨b,off,rfl,hb,hc⟩:=(hr.o.below hB.o (zB _)) (by omega);obtain⟨c1,c2,c3⟩:=hc k hlt;clear hc;have hx:=hz.o l[k] (zO hlt);have kv:=fun W (h:Env W)=>N8 l[k] W h hx;have HK:=zh (HF.o k hlt ad.o)
   have HL:Hid (Ee l[k]=true->∀j (h:j<l.length),j<k+1->Ee l[j]=true):=fun hv j h hj=>by
    by_cases e:j=k
    .subst e;exact hv
    exact ad.o j h (by omega)
   generalize l[k]=x at *;obtain⟨g,n,d⟩:=x;dsimp only at c1 c2 c3 kv;replace kv:=zh kv;clear hx
   cases hv:Ee (g,n,d) with
   |true=>
    have HL2:=zh (HL.o hv);rw[hv]at kv;clear HL HK hv
    go_wp2_with fail
    refine(kv.o _ (hE.o.below hB.o)).q fun w1 aa=>?_;have ae:=hB.t aa;clear aa;go_wp2
    go_roundw
    case rel=>exact⟨k+1,by omega,by go_num,HL2,ae⟩
    case measure=>simp[intOf];omega
   |false=>
    have HK2:=zh (HK.o hv);rw[hv]at kv;clear HL HK hv
    go_wp2_with fail
    refine(kv.o _ (hE.o.below hB.o)).q fun w1 aa=>?_;have ae:=hB.t aa;clear aa;go_wp2;go_ret;exact⟨by rw[HK2.o];rfl,ae.o⟩
  obtain rfl:k=l.length:=by omega
  have HE:=zh (HA.o ad.o);go_wp2;go_ret;exact⟨by rw[HE.o];rfl,hB.o⟩
theorem Qe(A:Option Addr)(cap:Nat)(l:List Raw)(w:World)(hE:Env w)(hr:InRow w A l)(hl:l.length<=140737488355328)(hz:∀x∈l,EC x):
 Calls prog 119 #[.slice A l.length cap,.func (.func 120) #[] #[]] w
  fun e w'=>e=.returned (.bool (!allV l))/\Below w.heap.size w w':=by
 have hi:=SS A cap l w hE hr hl hz;have hg:=Vu l;generalize KE l=i at *;generalize (!allV l)=v at *;go_enter func119,ntmps119
 go_wp2_with fail
 refine hi.q fun w1 hb=>?_;replace hb:=zh hb;go_wp2;go_ret;exact⟨rfl,hb.o⟩
theorem Dx(A:Option Addr)(cap:Nat)(l:List Raw)(w:World)(hE:Env w)(hr:InRow w A l)(hl:l.length<=140737488355328)(hz:∀x∈l,EC x):
 Calls prog 77 #[.slice A l.length cap] w fun e w'=>e=.returned (.bool (allV l))/\Below w.heap.size w w':=by
 have hi:=Qe A cap l w hE hr hl hz;generalize allV l=v at *;go_enter func77,ntmps77
 go_wp2_with fail
 refine hi.q fun w1 hb=>?_;replace hb:=zh hb;go_wp2;go_ret;exact⟨by first|rfl|simp,hb.o⟩
theorem A6{w w1 w2:World}{row:Option Nat}(h:w.grownBy w1 row)(hb:Below w1.heap.size w1 w2):w.grownBy w2 row :=
 ⟨hb.os.trans h.os,hb.tape.trans h.tape,hb.output.trans h.output,zQ h.size hb.size,fun k hk d=>(hb.block k (zJ hk h.size)).trans (h.block k hk d)⟩
theorem A8{w w1:World}{b:Nat}(h:w.grownBy w1 (some b))(o:Nat)(v:Value):w.grownBy (w1.setCell ⟨b,o,none⟩ v) (some b) :=
 ⟨h.os,h.tape,h.output,by simpa using h.size,fun k hk d=>(zg w1 ⟨b,o,none⟩ v k (fun e=>d (congrArg some e))).trans (h.block k hk d)⟩
theorem Ez(w:World)(row:Option Nat):w.grownBy w row:=⟨rfl,rfl,rfl,zB _,fun _ _ _=>rfl⟩
theorem Ba{B:Nat}{w w1:World}{b:Nat}(h:w.grownBy w1 (some b))(hb:B<=b)(hB:B<=w.heap.size):Below B w w1 :=
 ⟨h.os,h.tape,h.output,by have:=h.size;omega,fun k hk=>h.block k (by omega) (by intro e;cases e;omega)⟩
theorem B3.grown{W W':World}{b c:Nat}{g:Bool}{n d:ByteArray}(h:B3 W c g n d)(hg:W.grownBy W' (some b))(aa:c≠b):B3 W' c g n d :=
 (hg.block c h.lt (fun e=>aa (Option.some.inj e))).trans h
theorem STq(j:Int)(g1 g2:Bool)(n1 d1 n2 d2:ByteArray)(r:Bool)(n d:ByteArray)(E:Int)(pb:Nat)(w:World)(hE:Env w)(hp:B3 w pb g2 n2 d2)
 (kd:∀W,Env W->Calls prog 85 #[.agg #[.bool g1,.string n1,.string d1],.agg #[.bool g2,.string n2,.string d2]] W fun e w'=>e=.returned (.tuple #[.agg #[.bool r,.string n,.string d],.int .i64 E])/\Below W.heap.size W w'):
 Calls prog 84 #[.int .i64 j,.agg #[.bool g1,.string n1,.string d1],.pointer (some ⟨pb,0,none⟩)] w fun e w'=>e=.returned (.tuple #[.agg #[.bool r,.string n,.string d],.int .i64 E])/\Below w.heap.size w w':=by
 have q0:=zh ((B3.new w g1 n1 d1).alloc (.cells #[.bool false,.string ⟨#[]⟩,.string ⟨#[]⟩] 48))
 have r0:Hid (B3 ((w.alloc (.cells #[.bool g1,.string n1,.string d1] 48)).alloc (.cells #[.bool false,.string ⟨#[]⟩,.string ⟨#[]⟩] 48)) (w.heap.size+1) false ⟨#[]⟩ ⟨#[]⟩):=by
  have h:=B3.new (w.alloc (.cells #[.bool g1,.string n1,.string d1] 48)) false ⟨#[]⟩ ⟨#[]⟩
  rwa [show (w.alloc (.cells #[.bool g1,.string n1,.string d1] 48)).heap.size=w.heap.size+1 by simp]at h
 have p0:=zh ((hp.alloc (.cells #[.bool g1,.string n1,.string d1] 48)).alloc (.cells #[.bool false,.string ⟨#[]⟩,.string ⟨#[]⟩] 48));have aa:Hid (Below w.heap.size w ((w.alloc (.cells #[.bool g1,.string n1,.string d1] 48)).alloc (.cells #[.bool false,.string ⟨#[]⟩,.string ⟨#[]⟩] 48))):=((zI _ w).alloc (zB _) _).alloc (by simp) _;obtain⟨p1,p2,p3,p4,p5,p6⟩:=hp.facts;have p7:=hp.lt;replace hE:=zh hE;replace kd:=zh kd;clear hp;go_enter func84,ntmps84
 go_wp2_with fail
 refine(kd.o _ (hE.o.below aa.o)).q fun w1 hb=>?_;have r1:=zh (r0.o.below hb);have ad:=aa.t hb;clear hb p1 p2 p3 p4 p5 p6 p7;obtain⟨c1,c2,c3,c4,c5,c6⟩:=r1.o.facts;have c7:=r1.o.lt;go_wp2;refine zo (v:=.tuple #[.agg #[.bool r,.string n,.string d],.int .i64 E]) (by simp[results,results84,go_sem,c1,c2,c3]) rfl ⟨rfl,?_⟩
 repeat refine yI ?_ (by simp only[];omega) _
 exact ad.o
theorem OM(j:Int)(q p:Rat)(hq:ShortQ q)(hp:ShortQ p)(h0:p≠0)(pb:Nat)(w:World)(hE:Env w)(hb:B3 w pb (rq p).1 (rq p).2.1 (rq p).2.2):
 Calls prog 84 #[.int .i64 j,qv q,.pointer (some ⟨pb,0,none⟩)] w fun e w'=>e=.returned (.tuple #[qv (q/p),.int .i64 0])/\Below w.heap.size w w' :=
 STq j _ _ _ _ _ _ _ _ _ _ pb w hE hb fun W hW=>PU q p hq hp h0 W hW
theorem Vv(j:Int)(q p:Rat)(hq:OkQ q)(hp:OkQ p)(h0:p≠0)(hl:¬(ShortQ q/\ShortQ p))(pb:Nat)(w:World)(hE:Env w)(hb:B3 w pb (rq p).1 (rq p).2.1 (rq p).2.2):
 Calls prog 84 #[.int .i64 j,qv q,.pointer (some ⟨pb,0,none⟩)] w fun e w'=>e=.returned (.tuple #[zv,.int .i64 2])/\Below w.heap.size w w' :=
 STq j _ _ _ _ _ _ _ _ _ _ pb w hE hb fun W hW=>Sx q p hq hp h0 hl W hW
def Blk1(W:World)(b:Nat)(v:Value):Prop:=W.heap[b]? = some (.cells #[v] 39 (0,0))
theorem Blk1.lt{W:World}{b:Nat}{v:Value}(h:Blk1 W b v):b<W.heap.size:=(Array.getElem?_eq_some_iff.1 h).1
theorem Blk1.cell{W:World}{b:Nat}{v:Value}(h:Blk1 W b v):W.cell? ⟨b,0,none⟩=some v:=by unfold Blk1 at h;simp[World.cell?,h]
theorem Blk1.grown{W W':World}{b c:Nat}{v:Value}(h:Blk1 W c v)(hg:W.grownBy W' (some b))(d:c≠b):Blk1 W' c v:=(hg.block c h.lt (fun e=>d (Option.some.inj e))).trans h
theorem Blk1.alloc{W:World}{b:Nat}{v:Value}(h:Blk1 W b v)(o:Obj):Blk1 (W.alloc o) b v:=(yP W o b h.lt).trans h
theorem Blk1.below{W W':World}{b:Nat}{v:Value}(h:Blk1 W b v)(hb:Below W.heap.size W W'):Blk1 W' b v:=(hb.block b h.lt).trans h
theorem CS(q:Rat):∃g n d,rq q=(g,n,d):=⟨_,_,_,rfl⟩
theorem DR{q:Rat}{g:Bool}{n d:ByteArray}(h:rq q=(g,n,d)):qv q=.agg #[.bool g,.string n,.string d]:=by
 have h1:(rq q).1=g:=by rw[h]
 have h2:(rq q).2.1=n:=by rw[h]
 have h3:(rq q).2.2=d:=by rw[h]
 rw[<-h1,<-h2,<-h3];rfl
theorem N9(B b k N cap:Nat)(r:Nat->Rat)(p:Rat)(pb:Nat)(w:World)(hE:EnvB B w)(hB:B<=b)(hR:RowB w b N fun j=>rq (r j))(hk:k<=N)(hN:N<=1000)(hp:B3 w pb (rq p).1 (rq p).2.1 (rq p).2.2)(ai:pb≠b)(h0:p≠0)(ah:∀j,k<=j->j<N->ShortQ (r j)/\ShortQ p):
 Calls prog 83 #[.slice (some ⟨b,k*3,none⟩) ((N-k:Nat):Nat) cap,.func (.func 84) #[] #[.pointer (some ⟨pb,0,none⟩)]] w fun e w'=>e=.returned (.int .i64 0)/\w.grownBy w' (some b)/\RowB w' b N fun j=>rq (if k<=j then r j/p else r j):=by
 have aj:=zh (zQ hB (xF hR.lt));obtain⟨m,hm⟩:∃m,m=N-k:=⟨_,rfl⟩;rw[<-hm];replace hB:=zh hB;replace hE:=zh hE;replace hR:=zh hR;replace ah:=zh ah;replace hp:=zh hp;replace ai:=zh ai;replace h0:=zh h0;have HM:Hid (k+m=N):=by show k+m=N;omega
 have aq:m<=1000:=by omega
 clear hm hk hN;go_enter func83,ntmps83;go_wp2
 go_loopw [11] (fun i wr=>∃y:Nat,y<=m/\i=.int .i64 (y:Int)/\Hid (w.grownBy wr (some b))/\Hid (RowB wr b N fun j=>rq (if k<=j/\j<k+y then r j/p else r j))) (fun i _=>m-(intOf i).toNat)
 case atStart=>exact⟨0,zS _,rfl,Ez _ _,hR.o.congr fun j _=>by rw[zE (by omega)]⟩
 case round=>
  obtain⟨i,hi,rfl,hG,ad⟩:=hrel
  by_cases hlt:i<m
  .have ag:k+i<N:=by have:=HM.o;omega
   have aa:=ad.o.cell (j:=k+i) ag;have af:=ad.o.frozen;rw[zE (by omega),yo]at aa;have ap:=ad.o.lt;obtain⟨xg,xn,xd,hx⟩:=CS (r (k+i));rw[hx]at aa;obtain⟨c1,c2,c3⟩:=aa;have f1:=af (k*3+i*3);have f2:=af (k*3+i*3+1);have f3:=af (k*3+i*3+2);clear af;have ho:=ah.o (k+i) (by omega) (by omega);obtain⟨yg,yn,yd,hy⟩:=CS (r (k+i)/p);have kc:=fun W (h:Env W) (an:B3 W pb (rq p).1 (rq p).2.1 (rq p).2.2)=>OM (i:Int) (r (k+i)) p ho.1 ho.2 h0.o pb W h an;rw[DR hx,DR hy]at kc;have pw:=zh ((hp.o.grown hG.o ai.o).alloc (.cells #[.bool xg,.string xn,.string xd] 48));replace kc:=zh kc;replace hx:=zh hx;replace hy:=zh hy;clear ho;have al:=zh (Ba hG.o hB.o aj.o);have ak:Hid (Below wr.heap.size wr (wr.alloc (.cells #[.bool xg,.string xn,.string xd] 48))):=AP _ _
   go_wp2_with fail
   refine(kc.o _ ((hE.o.below (al.o.trans (ak.o.mono (zQ aj.o hG.o.size)))).env) pw.o).q fun w1 hb=>?_;have am:=zh (A6 (A6 hG.o ak.o) hb);have d:=zh ((ad.o.alloc (.cells #[.bool xg,.string xn,.string xd] 48)).below hb (by simp;omega));clear hb c1 c2 c3 f1 f2 f3;have aa:=d.o.cell (j:=k+i) ag;rw[zE (by omega),yo,hx.o]at aa;obtain⟨c1,c2,c3⟩:=aa;have f1:=d.o.frozen (k*3+i*3);have f2:=d.o.frozen (k*3+i*3+1);have f3:=d.o.frozen (k*3+i*3+2);have ao:=d.o.lt;have ae:=d.o.set ag (yg,yn,yd);rw[yo]at ae
   replace ae:=zh (ae.congr (s:=fun j=>rq (if k<=j/\j<k+(i+1) then r j/p else r j)) fun j hj=>by
    by_cases e:j=k+i
    .rw[zF e,zF (by omega),e,hy.o]
    rw[zE e]
    by_cases h1:k<=j/\j<k+i
    .rw[zF h1,zF (by omega)]
    rw[zE h1,zE (by omega)])
   go_wp2
   go_roundw
   case rel=>exact⟨i+1,by omega,by go_num,A6 (A8 (A8 (A8 am.o _ _) _ _) _ _) (AP _ _),ae.o.alloc _⟩
   case measure=>simp[intOf];omega
  obtain rfl:i=m:=by omega
  go_wp2;go_ret
  exact ⟨rfl,hG.o,ad.o.congr fun j hj=>by
   by_cases h1:k<=j
   .rw[zF h1,zF ⟨h1,by have:=HM.o;omega⟩]
   rw[zE h1,zE fun h=>h1 h.1]⟩
theorem NA(B b k N cap:Nat)(r:Nat->Rat)(p:Rat)(pb:Nat)(w:World)(hE:EnvB B w)(hB:B<=b)(hR:RowB w b N fun j=>rq (r j))(hk:k<=N)(hN:N<=1000)(hp:B3 w pb (rq p).1 (rq p).2.1 (rq p).2.2)(ak:pb≠b)(h0:p≠0)(t:Nat)(aw:k<=t)(az:t<N)(aq:∀j,k<=j->j<t->ShortQ (r j)/\ShortQ p)(ai:¬(ShortQ (r t)/\ShortQ p))(an:∀j,k<=j->j<N->OkQ (r j))(ao:OkQ p):
 Calls prog 83 #[.slice (some ⟨b,k*3,none⟩) ((N-k:Nat):Nat) cap,.func (.func 84) #[] #[.pointer (some ⟨pb,0,none⟩)]] w fun e w'=>e=.returned (.int .i64 2)/\w.grownBy w' (some b):=by
 have aj:=zh (zQ hB (xF hR.lt));obtain⟨m,hm⟩:∃m,m=N-k:=⟨_,rfl⟩;rw[<-hm];replace hB:=zh hB;replace hE:=zh hE;replace hR:=zh hR;replace aq:=zh aq;replace hp:=zh hp;replace ak:=zh ak;replace h0:=zh h0;replace ai:=zh ai;replace an:=zh an;replace ao:=zh ao;have HM:Hid (k+m=N):=by show k+m=N;omega
 have ay:m<=1000:=by omega
 clear hm hk hN;go_enter func83,ntmps83;go_wp2
 go_loopw [11] (fun i wr=>∃y:Nat,y<=t-k/\i=.int .i64 (y:Int)/\Hid (w.grownBy wr (some b))/\Hid (RowB wr b N fun j=>rq (if k<=j/\j<k+y then r j/p else r j))) (fun i _=>m-(intOf i).toNat)
 case atStart=>exact⟨0,zS _,rfl,Ez _ _,hR.o.congr fun j _=>by rw[zE (by omega)]⟩
 case round=>
  obtain⟨i,hi,rfl,hG,ad⟩:=hrel;have ax:i<m:=by have:=HM.o;omega
  by_cases he:i<t-k
  .have ag:k+i<N:=by have:=HM.o;omega
   have d:=ad.o.cell (j:=k+i) ag;have ae:=ad.o.frozen;rw[zE (by omega),yo]at d;have ar:=ad.o.lt;obtain⟨xg,xn,xd,hx⟩:=CS (r (k+i));rw[hx]at d;obtain⟨c1,c2,c3⟩:=d;have f1:=ae (k*3+i*3);have f2:=ae (k*3+i*3+1);have f3:=ae (k*3+i*3+2);clear ae;have ho:=aq.o (k+i) (by omega) (by omega);obtain⟨yg,yn,yd,hy⟩:=CS (r (k+i)/p);have kc:=fun W (h:Env W) (ap:B3 W pb (rq p).1 (rq p).2.1 (rq p).2.2)=>OM (i:Int) (r (k+i)) p ho.1 ho.2 h0.o pb W h ap;rw[DR hx,DR hy]at kc;have pw:=zh ((hp.o.grown hG.o ak.o).alloc (.cells #[.bool xg,.string xn,.string xd] 48));replace kc:=zh kc;replace hx:=zh hx;replace hy:=zh hy;clear ho;have al:=zh (Ba hG.o hB.o aj.o);have ah:Hid (Below wr.heap.size wr (wr.alloc (.cells #[.bool xg,.string xn,.string xd] 48))):=AP _ _
   go_wp2_with fail
   refine(kc.o _ ((hE.o.below (al.o.trans (ah.o.mono (zQ aj.o hG.o.size)))).env) pw.o).q fun w1 hb=>?_;have am:=zh (A6 (A6 hG.o ah.o) hb);have aa:=zh ((ad.o.alloc (.cells #[.bool xg,.string xn,.string xd] 48)).below hb (by simp;omega));clear hb c1 c2 c3 f1 f2 f3;have d:=aa.o.cell (j:=k+i) ag;rw[zE (by omega),yo,hx.o]at d;obtain⟨c1,c2,c3⟩:=d;have f1:=aa.o.frozen (k*3+i*3);have f2:=aa.o.frozen (k*3+i*3+1);have f3:=aa.o.frozen (k*3+i*3+2);have av:=aa.o.lt;have af:=aa.o.set ag (yg,yn,yd);rw[yo]at af
   replace af:=zh (af.congr (s:=fun j=>rq (if k<=j/\j<k+(i+1) then r j/p else r j)) fun j hj=>by
    by_cases e:j=k+i
    .rw[zF e,zF (by omega),e,hy.o]
    rw[zE e]
    by_cases h1:k<=j/\j<k+i
    .rw[zF h1,zF (by omega)]
    rw[zE h1,zE (by omega)])
   go_wp2
   go_roundw
   case rel=>exact⟨i+1,by omega,by go_num,A6 (A8 (A8 (A8 am.o _ _) _ _) _ _) (AP _ _),af.o.alloc _⟩
   case measure=>simp[intOf];omega
  have au:k+i=t:=by omega
  obtain rfl:=au;clear he hi;have ag:k+i<N:=by have:=HM.o;omega
  have d:=ad.o.cell (j:=k+i) ag;have ae:=ad.o.frozen;rw[zE (by omega),yo]at d;have ar:=ad.o.lt;obtain⟨xg,xn,xd,hx⟩:=CS (r (k+i));rw[hx]at d;obtain⟨c1,c2,c3⟩:=d;have f1:=ae (k*3+i*3);have f2:=ae (k*3+i*3+1);have f3:=ae (k*3+i*3+2);clear ae;have kc:=fun W (h:Env W) (ap:B3 W pb (rq p).1 (rq p).2.1 (rq p).2.2)=>Vv (i:Int) (r (k+i)) p (an.o (k+i) (by omega) ag) ao.o h0.o ai.o pb W h ap;rw[DR hx]at kc;simp only[zv]at kc;have pw:=zh ((hp.o.grown hG.o ak.o).alloc (.cells #[.bool xg,.string xn,.string xd] 48));replace kc:=zh kc;replace hx:=zh hx;have al:=zh (Ba hG.o hB.o aj.o);have ah:Hid (Below wr.heap.size wr (wr.alloc (.cells #[.bool xg,.string xn,.string xd] 48))):=AP _ _
  go_wp2_with fail
  refine(kc.o _ ((hE.o.below (al.o.trans (ah.o.mono (zQ aj.o hG.o.size)))).env) pw.o).q fun w1 hb=>?_;have am:=zh (A6 (A6 hG.o ah.o) hb);clear hb c1 c2 c3 f1 f2 f3;go_wp2;go_ret;exact⟨rfl,A6 am.o (AP _ _)⟩
def SAt(W:World)(fb vb c o:Nat)(fg:Bool)(fn fd:ByteArray)(sv:Value)(sg:Bool)(sn sd:ByteArray):Prop :=
 B3 W fb fg fn fd/\Blk1 W vb sv/\c<W.heap.size/\W.cell? ⟨c,o,none⟩=some (.bool sg)/\W.cell? ⟨c,o+1,none⟩=some (.string sn)/\W.cell? ⟨c,o+2,none⟩=some (.string sd)
theorem NB{q:Rat}{k:Nat}(h:Dg k q)(hk:k<=300):OkQ q:=by
 have h1:10^k<=Lim:=by
  unfold Lim;exact zj (by omega) (by rw[Et];exact hk)
 exact⟨zJ h.1 h1,zJ h.2 h1⟩
theorem Vw{p q:Rat}(hp:ShortQ p)(hq:ShortQ q):OkQ (p*q):=NB (Dg.mul (k:=mx1) (m:=mx1) hp hq) (by rw[DQ];omega)
theorem ON{p q:Rat}(hp:ShortQ p)(hq:ShortQ q):OkQ (p-q):=NB (Dg.sub (k:=mx1) (m:=mx1) hp hq) (by rw[DQ];omega)
theorem OO{p q:Rat}(hp:ShortQ p)(hq:ShortQ q)(h0:q≠0):OkQ (p/q):=NB (Dg.div (k:=mx1) (m:=mx1) hp hq h0) (by rw[DQ];omega)
section
variable {W W':World} {fb vb c o Bx:Nat} {fg sg:Bool} {fn fd sn sd:ByteArray} {sv:Value}
theorem SAt.below(h:SAt W fb vb c o fg fn fd sv sg sn sd)(hb:Below W.heap.size W W'):SAt W' fb vb c o fg fn fd sv sg sn sd :=
 ⟨h.1.below hb,h.2.1.below hb,zJ h.2.2.1 hb.size,(hb.cell (p:=⟨c,o,none⟩) h.2.2.1).trans h.2.2.2.1,(hb.cell (p:=⟨c,o+1,none⟩) h.2.2.1).trans h.2.2.2.2.1,(hb.cell (p:=⟨c,o+2,none⟩) h.2.2.1).trans h.2.2.2.2.2⟩
theorem SAt.alloc(h:SAt W fb vb c o fg fn fd sv sg sn sd)(x:Obj):SAt (W.alloc x) fb vb c o fg fn fd sv sg sn sd:=h.below ((zI _ W).alloc (zB _) x)
theorem SAt.seven(h:SAt W fb vb c o fg fn fd sv sg sn sd):
 W.cell? ⟨fb,0,none⟩=some (.bool fg)/\W.cell? ⟨fb,1,none⟩=some (.string fn)/\W.cell? ⟨fb,2,none⟩=some (.string fd)/\W.cell? ⟨vb,0,none⟩=some sv /\
 W.cell? ⟨c,o,none⟩=some (.bool sg)/\W.cell? ⟨c,o+1,none⟩=some (.string sn)/\W.cell? ⟨c,o+2,none⟩=some (.string sd) :=
 ⟨h.1.facts.1,h.1.facts.2.1,h.1.facts.2.2.1,h.2.1.cell,h.2.2.2⟩
theorem SAt.seven_set(h:SAt W fb vb c o fg fn fd sv sg sn sd)(h1:fb≠Bx)(h2:vb≠Bx)(h3:c≠Bx)(x y z:Value):
 (((W.setCell ⟨Bx,0,none⟩ x).setCell ⟨Bx,1,none⟩ y).setCell ⟨Bx,2,none⟩ z).cell? ⟨fb,0,none⟩=some (.bool fg)/\(((W.setCell ⟨Bx,0,none⟩ x).setCell ⟨Bx,1,none⟩ y).setCell ⟨Bx,2,none⟩ z).cell? ⟨fb,1,none⟩=some (.string fn)/\(((W.setCell ⟨Bx,0,none⟩ x).setCell ⟨Bx,1,none⟩ y).setCell ⟨Bx,2,none⟩ z).cell? ⟨fb,2,none⟩=some (.string fd)/\(((W.setCell ⟨Bx,0,none⟩ x).setCell ⟨Bx,1,none⟩ y).setCell ⟨Bx,2,none⟩ z).cell? ⟨vb,0,none⟩=some sv /\
 (((W.setCell ⟨Bx,0,none⟩ x).setCell ⟨Bx,1,none⟩ y).setCell ⟨Bx,2,none⟩ z).cell? ⟨c,o,none⟩=some (.bool sg)/\(((W.setCell ⟨Bx,0,none⟩ x).setCell ⟨Bx,1,none⟩ y).setCell ⟨Bx,2,none⟩ z).cell? ⟨c,o+1,none⟩=some (.string sn)/\(((W.setCell ⟨Bx,0,none⟩ x).setCell ⟨Bx,1,none⟩ y).setCell ⟨Bx,2,none⟩ z).cell? ⟨c,o+2,none⟩=some (.string sd):=by
 obtain⟨k0,k1,k2,k3,k4,k5,k6⟩:=h.seven;exact⟨(AD _ _ _ _ _ _ _ h1).trans k0,(AD _ _ _ _ _ _ _ h1).trans k1,(AD _ _ _ _ _ _ _ h1).trans k2,(AD _ _ _ _ _ _ _ h2).trans k3,(AD _ _ _ _ _ _ _ h3).trans k4,(AD _ _ _ _ _ _ _ h3).trans k5,(AD _ _ _ _ _ _ _ h3).trans k6⟩
end
theorem sub4_er(j k m cap2:Nat)(xg fg sg:Bool)(xn xd fn fd sn sd:ByteArray)(fb vb c:Nat)(w:World)(hE:Env w)(hj:j<m)
 (hs:SAt w fb vb c (k*3+j*3) fg fn fd (.slice (some ⟨c,k*3,none⟩) m cap2) sg sn sd)
 (km:∀W,Env W->Calls prog 51 #[.agg #[.bool fg,.string fn,.string fd],.agg #[.bool sg,.string sn,.string sd]] W fun e w'=>e=.returned (.tuple #[.agg #[.bool false,.string ⟨#[]⟩,.string ⟨#[]⟩],.int .i64 2])/\Below W.heap.size W w'):
 Calls prog 86 #[.int .i64 (j:Int),.agg #[.bool xg,.string xn,.string xd],.pointer (some ⟨fb,0,none⟩),.pointer (some ⟨vb,0,none⟩)] w fun e w'=>e=.returned (.tuple #[.agg #[.bool false,.string ⟨#[]⟩,.string ⟨#[]⟩],.int .i64 2])/\Below w.heap.size w w':=by
 have aj:Hid (B3 ((w.alloc (.cells #[.bool xg,.string xn,.string xd] 48)).alloc (.cells #[.bool false,.string ⟨#[]⟩,.string ⟨#[]⟩] 48)) w.heap.size xg xn xd):=(B3.new w _ _ _).alloc _
 have ak:Hid (B3 ((w.alloc (.cells #[.bool xg,.string xn,.string xd] 48)).alloc (.cells #[.bool false,.string ⟨#[]⟩,.string ⟨#[]⟩] 48)) (w.heap.size+1) false ⟨#[]⟩ ⟨#[]⟩):=by
  have h:=B3.new (w.alloc (.cells #[.bool xg,.string xn,.string xd] 48)) false ⟨#[]⟩ ⟨#[]⟩
  rwa [show (w.alloc (.cells #[.bool xg,.string xn,.string xd] 48)).heap.size=w.heap.size+1 by simp]at h
 have q0:=zh ((hs.alloc (.cells #[.bool xg,.string xn,.string xd] 48)).alloc (.cells #[.bool false,.string ⟨#[]⟩,.string ⟨#[]⟩] 48));have ae:Hid (Below w.heap.size w ((w.alloc (.cells #[.bool xg,.string xn,.string xd] 48)).alloc (.cells #[.bool false,.string ⟨#[]⟩,.string ⟨#[]⟩] 48))):=((zI _ w).alloc (zB _) _).alloc (by simp) _;obtain⟨W0,ai⟩:∃W,W=(w.alloc (.cells #[.bool xg,.string xn,.string xd] 48)).alloc (.cells #[.bool false,.string ⟨#[]⟩,.string ⟨#[]⟩] 48):=⟨_,rfl⟩;rw[<-ai]at aj ak q0 ae;have i0:(0:Int)<=(j:Int):=by omega
 have i1:(j:Int)<(m:Int):=by omega
 replace ai:=zh ai;replace hE:=zh hE;replace km:=zh km;clear hs;go_enter func86,ntmps86
 go_wp2_with fail
 rw[<-ai.o];have q0d:Hid (SAt (W0.alloc (.cells #[.bool false,.string ⟨#[]⟩,.string ⟨#[]⟩] 48)).drew fb vb c (k*3+j*3) fg fn fd (.slice (some ⟨c,k*3,none⟩) m cap2) sg sn sd):=q0.o.alloc _;have x0d:Hid (B3 (W0.alloc (.cells #[.bool false,.string ⟨#[]⟩,.string ⟨#[]⟩] 48)).drew W0.heap.size false ⟨#[]⟩ ⟨#[]⟩):=B3.new W0 _ _ _;have an:Hid (B3 (W0.alloc (.cells #[.bool false,.string ⟨#[]⟩,.string ⟨#[]⟩] 48)).drew w.heap.size xg xn xd):=aj.o.alloc _;have ap:Hid (B3 (W0.alloc (.cells #[.bool false,.string ⟨#[]⟩,.string ⟨#[]⟩] 48)).drew (w.heap.size+1) false ⟨#[]⟩ ⟨#[]⟩):=ak.o.alloc _;have af:Hid (Below w.heap.size w (W0.alloc (.cells #[.bool false,.string ⟨#[]⟩,.string ⟨#[]⟩] 48)).drew):=(ae.o.alloc ae.o.size _).drew;have q0e:Hid (SAt W0.drew fb vb c (k*3+j*3) fg fn fd (.slice (some ⟨c,k*3,none⟩) m cap2) sg sn sd):=q0.o;have ao:Hid (B3 W0.drew w.heap.size xg xn xd):=aj.o;have aq:Hid (B3 W0.drew (w.heap.size+1) false ⟨#[]⟩ ⟨#[]⟩):=ak.o;have ag:Hid (Below w.heap.size w W0.drew):=ae.o.drew;have ad:Hid (fb≠W0.heap.size/\vb≠W0.heap.size/\c≠W0.heap.size/\w.heap.size≠W0.heap.size/\w.heap.size+1≠W0.heap.size):=⟨xK q0.o.1.lt,xK q0.o.2.1.lt,xK q0.o.2.2.1,xK aj.o.lt,xK ak.o.lt⟩;obtain⟨a1,a2,a3,b1,c1,c2,c3⟩:=q0.o.seven
 go_region_held3 (fun w'=>w'.cell? ⟨fb,0,none⟩=some (.bool fg)/\w'.cell? ⟨fb,1,none⟩=some (.string fn)/\w'.cell? ⟨fb,2,none⟩=some (.string fd)/\w'.cell? ⟨vb,0,none⟩=some (.slice (some ⟨c,k*3,none⟩) m cap2)/\w'.cell? ⟨c,k*3+j*3,none⟩=some (.bool sg)/\w'.cell? ⟨c,k*3+j*3+1,none⟩=some (.string sn)/\w'.cell? ⟨c,k*3+j*3+2,none⟩=some (.string sd)) (first|(with_reducible exact q0.o.seven)|(with_reducible exact(q0.o.alloc _).seven)|(with_reducible exact q0d.o.seven)|(with_reducible exact q0e.o.seven)|(with_reducible exact q2.o.seven)|(with_reducible exact(q2.o.alloc _).seven)|(with_reducible exact q2.o.seven_set ad.o.1 ad.o.2.1 ad.o.2.2.1 _ _ _)|go_keep)
  (first
    |(go_at_call 51;refine(km.o _ ?_).mono ?_;(with_reducible exact hE.o.below af.o);rintro e w2 ⟨rfl,d⟩;have q2:=zh (q0d.o.below d);have ah:=af.t d;have x2:=zh (x0d.o.below d);have al:=zh (an.o.below d);have am:=zh (ap.o.below d);obtain⟨y1,y2,y3,y4,y5,y6⟩:=x2.o.facts;have y7:=x2.o.lt;clear d)
    |(go_at_call 51;refine(km.o _ ?_).mono ?_;(with_reducible exact hE.o.below ag.o);rintro e w2 ⟨rfl,d⟩;have q2:=zh (q0e.o.below d);have ah:=ag.t d;have al:=zh (ao.o.below d);have am:=zh (aq.o.below d);clear d))
 all_goals (
  skip
  first
   |(obtain⟨w3,aa⟩:∃W,W=w2.alloc (.cells #[.bool false,.string ⟨#[]⟩,.string ⟨#[]⟩] 48):=⟨_,rfl⟩;rw[<-aa];have av:Hid (B3 w3 w.heap.size xg xn xd):=(by rw[aa];exact al.o.alloc _);have ar:Hid (B3 w3 (w.heap.size+1) false ⟨#[]⟩ ⟨#[]⟩):=(by rw[aa];exact am.o.alloc _);have aw:Hid (B3 w3 w2.heap.size false ⟨#[]⟩ ⟨#[]⟩):=(by rw[aa];exact B3.new w2 _ _ _);have au:Hid (Below w.heap.size w w3):=(by rw[aa];exact ah.o.alloc ah.o.size _))
   |(obtain⟨w3,aa⟩:∃W,W=((w2.setCell ⟨W0.heap.size,0,none⟩ (.bool false)).setCell ⟨W0.heap.size,1,none⟩ (.string ⟨#[]⟩)).setCell ⟨W0.heap.size,2,none⟩ (.string ⟨#[]⟩):=⟨_,rfl⟩;rw[<-aa];have av:Hid (B3 w3 w.heap.size xg xn xd):=(by rw[aa];exact((al.o.other ad.o.2.2.2.1 _).other ad.o.2.2.2.1 _).other ad.o.2.2.2.1 _);have ar:Hid (B3 w3 (w.heap.size+1) false ⟨#[]⟩ ⟨#[]⟩):=(by rw[aa];exact((am.o.other ad.o.2.2.2.2 _).other ad.o.2.2.2.2 _).other ad.o.2.2.2.2 _);have aw:Hid (B3 w3 W0.heap.size false ⟨#[]⟩ ⟨#[]⟩):=(by rw[aa];exact((x2.o.set0 false).set1 ⟨#[]⟩).set2 ⟨#[]⟩);have au:Hid (Below w.heap.size w w3):=(by rw[aa];exact((ah.o.setCell ae.o.size _).setCell ae.o.size _).setCell ae.o.size _);clear x2 y1 y2 y3 y4 y5 y6 y7)
  clear aa q2 ah al am q0 q0d q0e x0d aj ak an ap ao aq ae af ag ad ai a1 a2 a3 b1 c1 c2 c3 km i0 i1;obtain⟨x1,x2,x3,x4,x5,x6⟩:=av.o.facts;obtain⟨z1,z2,z3,z4,z5,z6⟩:=ar.o.facts;have z7:=ar.o.lt;obtain⟨y1,y2,y3,y4,y5,y6⟩:=aw.o.facts;go_wp2;refine zo (v:=.tuple #[.agg #[.bool false,.string ⟨#[]⟩,.string ⟨#[]⟩],.int .i64 2]) (by simp[results,results86,go_sem,z1,z2,z3]) rfl ⟨rfl,?_⟩
  repeat refine yI ?_ (by simp only[];omega) _
  exact au.o
  )
theorem OP(j k m cap2:Nat)(xg fg sg r1 r2:Bool)(xn xd fn fd sn sd n1 d1 n2 d2:ByteArray)(E:Int)(fb vb c:Nat)(w:World)(hE:Env w)(hj:j<m)
 (hs:SAt w fb vb c (k*3+j*3) fg fn fd (.slice (some ⟨c,k*3,none⟩) m cap2) sg sn sd)
 (km:∀W,Env W->Calls prog 51 #[.agg #[.bool fg,.string fn,.string fd],.agg #[.bool sg,.string sn,.string sd]] W fun e w'=>e=.returned (.tuple #[.agg #[.bool r1,.string n1,.string d1],.int .i64 0])/\Below W.heap.size W w')
 (ks:∀W,Env W->Calls prog 87 #[.agg #[.bool xg,.string xn,.string xd],.agg #[.bool r1,.string n1,.string d1]] W fun e w'=>e=.returned (.tuple #[.agg #[.bool r2,.string n2,.string d2],.int .i64 E])/\Below W.heap.size W w'):
 Calls prog 86 #[.int .i64 (j:Int),.agg #[.bool xg,.string xn,.string xd],.pointer (some ⟨fb,0,none⟩),.pointer (some ⟨vb,0,none⟩)] w fun e w'=>e=.returned (.tuple #[.agg #[.bool r2,.string n2,.string d2],.int .i64 E])/\Below w.heap.size w w':=by
 have aj:Hid (B3 ((w.alloc (.cells #[.bool xg,.string xn,.string xd] 48)).alloc (.cells #[.bool false,.string ⟨#[]⟩,.string ⟨#[]⟩] 48)) w.heap.size xg xn xd):=(B3.new w _ _ _).alloc _
 have ak:Hid (B3 ((w.alloc (.cells #[.bool xg,.string xn,.string xd] 48)).alloc (.cells #[.bool false,.string ⟨#[]⟩,.string ⟨#[]⟩] 48)) (w.heap.size+1) false ⟨#[]⟩ ⟨#[]⟩):=by
  have h:=B3.new (w.alloc (.cells #[.bool xg,.string xn,.string xd] 48)) false ⟨#[]⟩ ⟨#[]⟩
  rwa [show (w.alloc (.cells #[.bool xg,.string xn,.string xd] 48)).heap.size=w.heap.size+1 by simp]at h
 have q0:=zh ((hs.alloc (.cells #[.bool xg,.string xn,.string xd] 48)).alloc (.cells #[.bool false,.string ⟨#[]⟩,.string ⟨#[]⟩] 48));have ae:Hid (Below w.heap.size w ((w.alloc (.cells #[.bool xg,.string xn,.string xd] 48)).alloc (.cells #[.bool false,.string ⟨#[]⟩,.string ⟨#[]⟩] 48))):=((zI _ w).alloc (zB _) _).alloc (by simp) _;obtain⟨W0,ai⟩:∃W,W=(w.alloc (.cells #[.bool xg,.string xn,.string xd] 48)).alloc (.cells #[.bool false,.string ⟨#[]⟩,.string ⟨#[]⟩] 48):=⟨_,rfl⟩;rw[<-ai]at aj ak q0 ae;have i0:(0:Int)<=(j:Int):=by omega
 have i1:(j:Int)<(m:Int):=by omega
 replace ai:=zh ai;replace hE:=zh hE;replace km:=zh km;replace ks:=zh ks;clear hs;go_enter func86,ntmps86
 go_wp2_with fail
 rw[<-ai.o];have q0d:Hid (SAt (W0.alloc (.cells #[.bool false,.string ⟨#[]⟩,.string ⟨#[]⟩] 48)).drew fb vb c (k*3+j*3) fg fn fd (.slice (some ⟨c,k*3,none⟩) m cap2) sg sn sd):=q0.o.alloc _;have x0d:Hid (B3 (W0.alloc (.cells #[.bool false,.string ⟨#[]⟩,.string ⟨#[]⟩] 48)).drew W0.heap.size false ⟨#[]⟩ ⟨#[]⟩):=B3.new W0 _ _ _;have ap:Hid (B3 (W0.alloc (.cells #[.bool false,.string ⟨#[]⟩,.string ⟨#[]⟩] 48)).drew w.heap.size xg xn xd):=aj.o.alloc _;have ar:Hid (B3 (W0.alloc (.cells #[.bool false,.string ⟨#[]⟩,.string ⟨#[]⟩] 48)).drew (w.heap.size+1) false ⟨#[]⟩ ⟨#[]⟩):=ak.o.alloc _;have af:Hid (Below w.heap.size w (W0.alloc (.cells #[.bool false,.string ⟨#[]⟩,.string ⟨#[]⟩] 48)).drew):=(ae.o.alloc ae.o.size _).drew;have q0e:Hid (SAt W0.drew fb vb c (k*3+j*3) fg fn fd (.slice (some ⟨c,k*3,none⟩) m cap2) sg sn sd):=q0.o;have aq:Hid (B3 W0.drew w.heap.size xg xn xd):=aj.o;have au:Hid (B3 W0.drew (w.heap.size+1) false ⟨#[]⟩ ⟨#[]⟩):=ak.o;have ag:Hid (Below w.heap.size w W0.drew):=ae.o.drew;have ad:Hid (fb≠W0.heap.size/\vb≠W0.heap.size/\c≠W0.heap.size/\w.heap.size≠W0.heap.size/\w.heap.size+1≠W0.heap.size):=⟨xK q0.o.1.lt,xK q0.o.2.1.lt,xK q0.o.2.2.1,xK aj.o.lt,xK ak.o.lt⟩;obtain⟨a1,a2,a3,b1,c1,c2,c3⟩:=q0.o.seven
 go_region_held3 (fun w'=>w'.cell? ⟨fb,0,none⟩=some (.bool fg)/\w'.cell? ⟨fb,1,none⟩=some (.string fn)/\w'.cell? ⟨fb,2,none⟩=some (.string fd)/\w'.cell? ⟨vb,0,none⟩=some (.slice (some ⟨c,k*3,none⟩) m cap2)/\w'.cell? ⟨c,k*3+j*3,none⟩=some (.bool sg)/\w'.cell? ⟨c,k*3+j*3+1,none⟩=some (.string sn)/\w'.cell? ⟨c,k*3+j*3+2,none⟩=some (.string sd)) (first|(with_reducible exact q0.o.seven)|(with_reducible exact(q0.o.alloc _).seven)|(with_reducible exact q0d.o.seven)|(with_reducible exact q0e.o.seven)|(with_reducible exact q2.o.seven)|(with_reducible exact(q2.o.alloc _).seven)|(with_reducible exact q2.o.seven_set ad.o.1 ad.o.2.1 ad.o.2.2.1 _ _ _)|go_keep)
  (first
    |(go_at_call 51;refine(km.o _ ?_).mono ?_;(with_reducible exact hE.o.below af.o);rintro e w2 ⟨rfl,d⟩;have q2:=zh (q0d.o.below d);have ah:=af.t d;have x2:=zh (x0d.o.below d);have am:=zh (ap.o.below d);have an:=zh (ar.o.below d);obtain⟨y1,y2,y3,y4,y5,y6⟩:=x2.o.facts;have y7:=x2.o.lt;clear d)
    |(go_at_call 51;refine(km.o _ ?_).mono ?_;(with_reducible exact hE.o.below ag.o);rintro e w2 ⟨rfl,d⟩;have q2:=zh (q0e.o.below d);have ah:=ag.t d;have am:=zh (aq.o.below d);have an:=zh (au.o.below d);clear d))
 all_goals (
  skip
  first
   |(obtain⟨w3,aa⟩:∃W,W=w2.alloc (.cells #[.bool r1,.string n1,.string d1] 48):=⟨_,rfl⟩;rw[<-aa];have av:Hid (B3 w3 w.heap.size xg xn xd):=(by rw[aa];exact am.o.alloc _);have ao:Hid (B3 w3 (w.heap.size+1) false ⟨#[]⟩ ⟨#[]⟩):=(by rw[aa];exact an.o.alloc _);have aw:Hid (B3 w3 w2.heap.size r1 n1 d1):=(by rw[aa];exact B3.new w2 _ _ _);have al:Hid (Below w.heap.size w w3):=(by rw[aa];exact ah.o.alloc ah.o.size _))
   |(obtain⟨w3,aa⟩:∃W,W=((w2.setCell ⟨W0.heap.size,0,none⟩ (.bool r1)).setCell ⟨W0.heap.size,1,none⟩ (.string n1)).setCell ⟨W0.heap.size,2,none⟩ (.string d1):=⟨_,rfl⟩;rw[<-aa];have av:Hid (B3 w3 w.heap.size xg xn xd):=(by rw[aa];exact((am.o.other ad.o.2.2.2.1 _).other ad.o.2.2.2.1 _).other ad.o.2.2.2.1 _);have ao:Hid (B3 w3 (w.heap.size+1) false ⟨#[]⟩ ⟨#[]⟩):=(by rw[aa];exact((an.o.other ad.o.2.2.2.2 _).other ad.o.2.2.2.2 _).other ad.o.2.2.2.2 _);have aw:Hid (B3 w3 W0.heap.size r1 n1 d1):=(by rw[aa];exact((x2.o.set0 r1).set1 n1).set2 d1);have al:Hid (Below w.heap.size w w3):=(by rw[aa];exact((ah.o.setCell ae.o.size _).setCell ae.o.size _).setCell ae.o.size _);clear x2 y1 y2 y3 y4 y5 y6 y7)
  clear aa q2 ah am an q0 q0d q0e x0d aj ak ap ar aq au ae af ag ad ai a1 a2 a3 b1 c1 c2 c3 km i0 i1;obtain⟨x1,x2,x3,x4,x5,x6⟩:=av.o.facts;obtain⟨z1,z2,z3,z4,z5,z6⟩:=ao.o.facts;have z7:=ao.o.lt;obtain⟨y1,y2,y3,y4,y5,y6⟩:=aw.o.facts
  go_wp2_with fail
  refine(ks.o _ (hE.o.below al.o)).q fun w4 hb=>?_;have ax:=zh (ao.o.below hb);have ay:=al.t hb;clear hb x1 x2 x3 x4 x5 x6 y1 y2 y3 y4 y5 y6 z1 z2 z3 z4 z5 z6 z7;obtain⟨z1,z2,z3,z4,z5,z6⟩:=ax.o.facts;have z7:=ax.o.lt;go_wp2;refine zo (v:=.tuple #[.agg #[.bool r2,.string n2,.string d2],.int .i64 E]) (by simp[results,results86,go_sem,z1,z2,z3]) rfl ⟨rfl,?_⟩
  repeat refine yI ?_ (by simp only[];omega) _
  exact ay.o
  )
theorem JI(j k m cap2:Nat)(q f s:Rat)(hf:ShortQ f)(hs:ShortQ s)(hq:ShortQ q)(d:ShortQ (f*s))(fb vb c:Nat)(w:World)(hE:Env w)(hj:j<m)
 (h:SAt w fb vb c (k*3+j*3) (rq f).1 (rq f).2.1 (rq f).2.2 (.slice (some ⟨c,k*3,none⟩) m cap2) (rq s).1 (rq s).2.1 (rq s).2.2):
 Calls prog 86 #[.int .i64 (j:Int),qv q,.pointer (some ⟨fb,0,none⟩),.pointer (some ⟨vb,0,none⟩)] w fun e w'=>e=.returned (.tuple #[qv (q-f*s),.int .i64 0])/\Below w.heap.size w w' :=
 OP j k m cap2 _ _ _ _ _ _ _ _ _ _ _ _ _ _ _ _ fb vb c w hE hj h (fun W hW=>Fl f s hf hs W hW) (fun W hW=>JD q (f*s) hq d W hW)
theorem Qf(j k m cap2:Nat)(q f s:Rat)(hf:OkQ f)(hs:OkQ s)(hq:OkQ q)(d:¬(ShortQ f/\ShortQ s/\ShortQ q/\ShortQ (f*s)))(fb vb c:Nat)(w:World)(hE:Env w)(hj:j<m)
 (h:SAt w fb vb c (k*3+j*3) (rq f).1 (rq f).2.1 (rq f).2.2 (.slice (some ⟨c,k*3,none⟩) m cap2) (rq s).1 (rq s).2.1 (rq s).2.2):
 Calls prog 86 #[.int .i64 (j:Int),qv q,.pointer (some ⟨fb,0,none⟩),.pointer (some ⟨vb,0,none⟩)] w fun e w'=>e=.returned (.tuple #[zv,.int .i64 2])/\Below w.heap.size w w':=by
 by_cases h1:ShortQ f/\ShortQ s
 .exact OP j k m cap2 _ _ _ _ _ _ _ _ _ _ _ _ _ _ _ _ fb vb c w hE hj h (fun W hW=>Fl f s h1.1 h1.2 W hW) (fun W hW=>Sv q (f*s) hq (Vw h1.1 h1.2) (fun h2=>d ⟨h1.1,h1.2,h2.1,h2.2⟩) W hW)
 exact sub4_er j k m cap2 _ _ _ _ _ _ _ _ _ fb vb c w hE hj h (fun W hW=>Sw f s hf hs h1 W hW)
end Nt
end
section
open Go.RowKit Go.Shelf
namespace Nt
theorem NC(B b k N cap:Nat)(r:Nat->Rat)(f:Rat)(s:Nat->Rat)(fb vb c cap2:Nat)(w:World)(hE:EnvB B w)(hB:B<=b)(hR:RowB w b N fun j=>rq (r j))(hk:k<=N)(hN:N<=1000)(hf:B3 w fb (rq f).1 (rq f).2.1 (rq f).2.2)(ak:fb≠b)(hv:Blk1 w vb (.slice (some ⟨c,k*3,none⟩) (N-k) cap2))(am:vb≠b)(hS:RowB w c N fun j=>rq (s j))(ai:c≠b)(al:∀j,k<=j->j<N->ShortQ f/\ShortQ (s j)/\ShortQ (r j)/\ShortQ (f*s j)):
 Calls prog 83 #[.slice (some ⟨b,k*3,none⟩) ((N-k:Nat):Nat) cap,.func (.func 86) #[] #[.pointer (some ⟨fb,0,none⟩),.pointer (some ⟨vb,0,none⟩)]] w fun e w'=>e=.returned (.int .i64 0)/\w.grownBy w' (some b)/\RowB w' b N fun j=>rq (if k<=j then r j-f*s j else r j):=by
 have an:=zh (zQ hB (xF hR.lt));obtain⟨m,hm⟩:∃m,m=N-k:=⟨_,rfl⟩;rw[<-hm]at hv ⊢;replace hB:=zh hB;replace hE:=zh hE;replace hR:=zh hR;replace al:=zh al;replace hf:=zh hf;replace ak:=zh ak;replace hv:=zh hv;replace am:=zh am;replace hS:=zh hS;replace ai:=zh ai;have HM:Hid (k+m=N):=by show k+m=N;omega
 have aw:m<=1000:=by omega
 clear hm hk hN;go_enter func83,ntmps83;go_wp2
 go_loopw [11] (fun i wr=>∃y:Nat,y<=m/\i=.int .i64 (y:Int)/\Hid (w.grownBy wr (some b))/\Hid (RowB wr b N fun j=>rq (if k<=j/\j<k+y then r j-f*s j else r j))) (fun i _=>m-(intOf i).toNat)
 case atStart=>exact⟨0,zS _,rfl,Ez _ _,hR.o.congr fun j _=>by rw[zE (by omega)]⟩
 case round=>
  obtain⟨i,hi,rfl,hG,ad⟩:=hrel
  by_cases hlt:i<m
  .have ag:k+i<N:=by have:=HM.o;omega
   have aa:=ad.o.cell (j:=k+i) ag;have af:=ad.o.frozen;rw[zE (by omega),yo]at aa;have av:=ad.o.lt;obtain⟨xg,xn,xd,hx⟩:=CS (r (k+i));rw[hx]at aa;obtain⟨c1,c2,c3⟩:=aa;have f1:=af (k*3+i*3);have f2:=af (k*3+i*3+1);have f3:=af (k*3+i*3+2);clear af;have ah:=hS.o.grown hG.o (fun e=>ai.o (Option.some.inj e));have aj:=ah.cell (j:=k+i) ag;rw[yo]at aj
   have ar:Hid (SAt (wr.alloc (.cells #[.bool xg,.string xn,.string xd] 48)) fb vb c (k*3+i*3) (rq f).1 (rq f).2.1 (rq f).2.2 (.slice (some ⟨c,k*3,none⟩) m cap2) (rq (s (k+i))).1 (rq (s (k+i))).2.1 (rq (s (k+i))).2.2) :=
    SAt.alloc ⟨hf.o.grown hG.o ak.o,hv.o.grown hG.o am.o,ah.lt,aj⟩ _
   clear ah aj;have ho:=al.o (k+i) (by omega) (by omega);obtain⟨yg,yn,yd,hy⟩:=CS (r (k+i)-f*s (k+i));have kc:=fun W (h:Env W) h3=>JI i k m cap2 (r (k+i)) f (s (k+i)) ho.1 ho.2.1 ho.2.2.1 ho.2.2.2 fb vb c W h (by omega) h3;rw[DR hx,DR hy]at kc;replace kc:=zh kc;replace hx:=zh hx;replace hy:=zh hy;clear ho;have ap:=zh (Ba hG.o hB.o an.o);have ao:Hid (Below wr.heap.size wr (wr.alloc (.cells #[.bool xg,.string xn,.string xd] 48))):=AP _ _
   go_wp2_with fail
   refine(kc.o _ ((hE.o.below (ap.o.trans (ao.o.mono (zQ an.o hG.o.size)))).env) ar.o).q fun w1 hb=>?_;have aq:=zh (A6 (A6 hG.o ao.o) hb);have d:=zh ((ad.o.alloc (.cells #[.bool xg,.string xn,.string xd] 48)).below hb (by simp;omega));clear hb c1 c2 c3 f1 f2 f3;have aa:=d.o.cell (j:=k+i) ag;rw[zE (by omega),yo,hx.o]at aa;obtain⟨c1,c2,c3⟩:=aa;have f1:=d.o.frozen (k*3+i*3);have f2:=d.o.frozen (k*3+i*3+1);have f3:=d.o.frozen (k*3+i*3+2);have au:=d.o.lt;have ae:=d.o.set ag (yg,yn,yd);rw[yo]at ae
   replace ae:=zh (ae.congr (s:=fun j=>rq (if k<=j/\j<k+(i+1) then r j-f*s j else r j)) fun j hj=>by
    by_cases e:j=k+i
    .rw[zF e,zF (by omega),e,hy.o]
    rw[zE e]
    by_cases h1:k<=j/\j<k+i
    .rw[zF h1,zF (by omega)]
    rw[zE h1,zE (by omega)])
   go_wp2
   go_roundw
   case rel=>exact⟨i+1,by omega,by go_num,A6 (A8 (A8 (A8 aq.o _ _) _ _) _ _) (AP _ _),ae.o.alloc _⟩
   case measure=>simp[intOf];omega
  obtain rfl:i=m:=by omega
  go_wp2;go_ret
  exact ⟨rfl,hG.o,ad.o.congr fun j hj=>by
   by_cases h1:k<=j
   .rw[zF h1,zF ⟨h1,by have:=HM.o;omega⟩]
   rw[zE h1,zE fun h=>h1 h.1]⟩
theorem ND(B b k N cap:Nat)(r:Nat->Rat)(f:Rat)(s:Nat->Rat)(fb vb c cap2:Nat)(w:World)(hE:EnvB B w)(hB:B<=b)(hR:RowB w b N fun j=>rq (r j))(hk:k<=N)(hN:N<=1000)(hf:B3 w fb (rq f).1 (rq f).2.1 (rq f).2.2)(an:fb≠b)(hv:Blk1 w vb (.slice (some ⟨c,k*3,none⟩) (N-k) cap2))(ao:vb≠b)(hS:RowB w c N fun j=>rq (s j))(am:c≠b)(t:Nat)(aA:k<=t)(aD:t<N)(aw:∀j,k<=j->j<t->ShortQ f/\ShortQ (s j)/\ShortQ (r j)/\ShortQ (f*s j))(ak:¬(ShortQ f/\ShortQ (s t)/\ShortQ (r t)/\ShortQ (f*s t)))(ar:∀j,k<=j->j<N->OkQ (r j)/\OkQ (s j))(au:OkQ f):
 Calls prog 83 #[.slice (some ⟨b,k*3,none⟩) ((N-k:Nat):Nat) cap,.func (.func 86) #[] #[.pointer (some ⟨fb,0,none⟩),.pointer (some ⟨vb,0,none⟩)]] w fun e w'=>e=.returned (.int .i64 2)/\w.grownBy w' (some b):=by
 have al:=zh (zQ hB (xF hR.lt));obtain⟨m,hm⟩:∃m,m=N-k:=⟨_,rfl⟩;rw[<-hm]at hv ⊢;replace hB:=zh hB;replace hE:=zh hE;replace hR:=zh hR;replace aw:=zh aw;replace hf:=zh hf;replace an:=zh an;replace hv:=zh hv;replace ao:=zh ao;replace hS:=zh hS;replace am:=zh am;replace ak:=zh ak;replace ar:=zh ar;replace au:=zh au;have HM:Hid (k+m=N):=by show k+m=N;omega
 have aC:m<=1000:=by omega
 clear hm hk hN;go_enter func83,ntmps83;go_wp2
 go_loopw [11] (fun i wr=>∃y:Nat,y<=t-k/\i=.int .i64 (y:Int)/\Hid (w.grownBy wr (some b))/\Hid (RowB wr b N fun j=>rq (if k<=j/\j<k+y then r j-f*s j else r j))) (fun i _=>m-(intOf i).toNat)
 case atStart=>exact⟨0,zS _,rfl,Ez _ _,hR.o.congr fun j _=>by rw[zE (by omega)]⟩
 case round=>
  obtain⟨i,hi,rfl,hG,ad⟩:=hrel;have aB:i<m:=by have:=HM.o;omega
  by_cases he:i<t-k
  .have af:k+i<N:=by have:=HM.o;omega
   have d:=ad.o.cell (j:=k+i) af;have ae:=ad.o.frozen;rw[zE (by omega),yo]at d;have ax:=ad.o.lt;obtain⟨xg,xn,xd,hx⟩:=CS (r (k+i));rw[hx]at d;obtain⟨c1,c2,c3⟩:=d;have f1:=ae (k*3+i*3);have f2:=ae (k*3+i*3+1);have f3:=ae (k*3+i*3+2);clear ae;have ag:=hS.o.grown hG.o (fun e=>am.o (Option.some.inj e));have ah:=ag.cell (j:=k+i) af;rw[yo]at ah
   have av:Hid (SAt (wr.alloc (.cells #[.bool xg,.string xn,.string xd] 48)) fb vb c (k*3+i*3) (rq f).1 (rq f).2.1 (rq f).2.2 (.slice (some ⟨c,k*3,none⟩) m cap2) (rq (s (k+i))).1 (rq (s (k+i))).2.1 (rq (s (k+i))).2.2) :=
    SAt.alloc ⟨hf.o.grown hG.o an.o,hv.o.grown hG.o ao.o,ag.lt,ah⟩ _
   clear ag ah;have ho:=aw.o (k+i) (by omega) (by omega);obtain⟨yg,yn,yd,hy⟩:=CS (r (k+i)-f*s (k+i));have kc:=fun W (h:Env W) h3=>JI i k m cap2 (r (k+i)) f (s (k+i)) ho.1 ho.2.1 ho.2.2.1 ho.2.2.2 fb vb c W h (by omega) h3;rw[DR hx,DR hy]at kc;replace kc:=zh kc;replace hx:=zh hx;replace hy:=zh hy;clear ho;have ap:=zh (Ba hG.o hB.o al.o);have aj:Hid (Below wr.heap.size wr (wr.alloc (.cells #[.bool xg,.string xn,.string xd] 48))):=AP _ _
   go_wp2_with fail
   refine(kc.o _ ((hE.o.below (ap.o.trans (aj.o.mono (zQ al.o hG.o.size)))).env) av.o).q fun w1 hb=>?_;have aq:=zh (A6 (A6 hG.o aj.o) hb);have aa:=zh ((ad.o.alloc (.cells #[.bool xg,.string xn,.string xd] 48)).below hb (by simp;omega));clear hb c1 c2 c3 f1 f2 f3;have d:=aa.o.cell (j:=k+i) af;rw[zE (by omega),yo,hx.o]at d;obtain⟨c1,c2,c3⟩:=d;have f1:=aa.o.frozen (k*3+i*3);have f2:=aa.o.frozen (k*3+i*3+1);have f3:=aa.o.frozen (k*3+i*3+2);have az:=aa.o.lt;have ai:=aa.o.set af (yg,yn,yd);rw[yo]at ai
   replace ai:=zh (ai.congr (s:=fun j=>rq (if k<=j/\j<k+(i+1) then r j-f*s j else r j)) fun j hj=>by
    by_cases e:j=k+i
    .rw[zF e,zF (by omega),e,hy.o]
    rw[zE e]
    by_cases h1:k<=j/\j<k+i
    .rw[zF h1,zF (by omega)]
    rw[zE h1,zE (by omega)])
   go_wp2
   go_roundw
   case rel=>exact⟨i+1,by omega,by go_num,A6 (A8 (A8 (A8 aq.o _ _) _ _) _ _) (AP _ _),ai.o.alloc _⟩
   case measure=>simp[intOf];omega
  have ay:k+i=t:=by omega
  obtain rfl:=ay;clear he hi;have af:k+i<N:=by have:=HM.o;omega
  have d:=ad.o.cell (j:=k+i) af;have ae:=ad.o.frozen;rw[zE (by omega),yo]at d;have ax:=ad.o.lt;obtain⟨xg,xn,xd,hx⟩:=CS (r (k+i));rw[hx]at d;obtain⟨c1,c2,c3⟩:=d;have f1:=ae (k*3+i*3);have f2:=ae (k*3+i*3+1);have f3:=ae (k*3+i*3+2);clear ae;have ag:=hS.o.grown hG.o (fun e=>am.o (Option.some.inj e));have ah:=ag.cell (j:=k+i) af;rw[yo]at ah
  have av:Hid (SAt (wr.alloc (.cells #[.bool xg,.string xn,.string xd] 48)) fb vb c (k*3+i*3) (rq f).1 (rq f).2.1 (rq f).2.2 (.slice (some ⟨c,k*3,none⟩) m cap2) (rq (s (k+i))).1 (rq (s (k+i))).2.1 (rq (s (k+i))).2.2) :=
   SAt.alloc ⟨hf.o.grown hG.o an.o,hv.o.grown hG.o ao.o,ag.lt,ah⟩ _
  clear ag ah;have hO:=ar.o (k+i) (by omega) af;have kc:=fun W (h:Env W) h3=>Qf i k m cap2 (r (k+i)) f (s (k+i)) au.o hO.2 hO.1 ak.o fb vb c W h (by omega) h3;rw[DR hx]at kc;simp only[zv]at kc;clear hO;replace kc:=zh kc;replace hx:=zh hx;have ap:=zh (Ba hG.o hB.o al.o);have aj:Hid (Below wr.heap.size wr (wr.alloc (.cells #[.bool xg,.string xn,.string xd] 48))):=AP _ _
  go_wp2_with fail
  refine(kc.o _ ((hE.o.below (ap.o.trans (aj.o.mono (zQ al.o hG.o.size)))).env) av.o).q fun w1 hb=>?_;have aq:=zh (A6 (A6 hG.o aj.o) hb);clear hb c1 c2 c3 f1 f2 f3;go_wp2;go_ret;exact⟨rfl,A6 aq.o (AP _ _)⟩
def Int1(W:World)(b:Nat)(z:Int):Prop:=W.heap[b]? = some (.cells #[.int .i64 z] 3 (0,0))
section
variable {W W':World} {b:Nat} {z:Int}
theorem Int1.lt(h:Int1 W b z):b<W.heap.size:=(Array.getElem?_eq_some_iff.1 h).1
theorem Int1.cell(h:Int1 W b z):W.cell? ⟨b,0,none⟩=some (.int .i64 z):=by unfold Int1 at h;simp[World.cell?,h]
theorem Int1.grown{c:Nat}(h:Int1 W b z)(hg:W.grownBy W' (some c))(d:b≠c):Int1 W' b z:=(hg.block b h.lt (fun e=>d (Option.some.inj e))).trans h
theorem Int1.alloc(h:Int1 W b z)(o:Obj):Int1 (W.alloc o) b z:=(yP W o b h.lt).trans h
theorem Int1.below(h:Int1 W b z)(hb:Below W.heap.size W W'):Int1 W' b z:=(hb.block b h.lt).trans h
theorem Int1.new(w:World)(z:Int):Int1 (w.alloc (.cells #[.int .i64 z] 3)) w.heap.size z:=ym _ _
theorem Int1.far(h:Int1 W b z){p:Addr}(hp:b≠p.block)(v:Value):Int1 (W.setCell p v) b z:=(zg _ _ _ _ hp).trans h
theorem Int1.ne_row{c m:Nat}{r:Nat->Raw}(h:Int1 W b z)(h2:RowB W c m r):b≠c:=by
 rintro rfl;unfold Int1 at h;unfold RowB at h2;rw[h]at h2;injection h2 with h2;injection h2 with _ h3;exact absurd h3 (by decide)
theorem B3.ne_row{c m:Nat}{r:Nat->Raw}{g:Bool}{n d:ByteArray}(h:B3 W b g n d)(h2:RowB W c m r)(hm:m≠1):b≠c:=by
 rintro rfl;unfold B3 at h;unfold RowB at h2;rw[h]at h2;injection h2 with h2;injection h2 with h3 _;have h4:=congrArg Array.size h3;simp[AE]at h4;omega
theorem Blk1.ne_row{c m:Nat}{r:Nat->Raw}{v:Value}(h:Blk1 W b v)(h2:RowB W c m r):b≠c:=by
 rintro rfl;unfold Blk1 at h;unfold RowB at h2;rw[h]at h2;injection h2 with h2;injection h2 with _ h3;exact absurd h3 (by decide)
end
def rowOk(n:Nat)(l:List Raw):Bool:=decide (l.length=n)&&allV l
def DI(n:Nat)(l:List RowH):Bool:=l.all fun x=>rowOk n x.2.2
theorem NE(n:Nat)(A:Option Addr)(cap:Nat)(l:List Raw)(nb:Nat)(w:World)(hE:Env w)(hn:Int1 w nb n)(hr:InRow w A l)(hl:l.length<=140737488355328)(hz:∀x∈l,EC x):
 Calls prog 79 #[.slice A l.length cap,.pointer (some ⟨nb,0,none⟩)] w fun e w'=>e=.returned (.bool (!rowOk n l))/\Below w.heap.size w w':=by
 have kv:=Dx A cap l w hE hr hl hz;have c1:=hn.cell;have c2:=hn.lt
 by_cases h:l.length=n
 .have e:(!rowOk n l)=!allV l:=by unfold rowOk;rw[zG h,wg]
  have h1:(!((l.length:Int)==(n:Int)))=false:=by rw[h];simp
  rw[e];generalize allV l=v at *;rw[<-h]at c1;replace h:=zh h;replace e:=zh e;go_enter func79,ntmps79
  go_wp2_with fail
  refine kv.q fun w1 hb=>?_;replace hb:=zh hb;go_wp2;go_ret;exact⟨rfl,hb.o⟩
 have e:(!rowOk n l)=true:=by unfold rowOk;rw[zH h,vJ];rfl
 have h1:((l.length:Int)==(n:Int))=false:=by rw[zN];omega
 have h2:((l.length:Int) != (n:Int))=true:=by rw[zm];omega
 have h3:(l.length==n)=false:=by rw[zN];exact h
 have h4:¬l.length=n:=h;rw[e];clear kv e h;go_enter func79,ntmps79;go_wp2;go_ret;exact⟨rfl,zI _ _⟩
def KF(n:Nat)(l:List RowH):Int:=if DI n l then -1 else (l.findIdx fun x=>!rowOk n x.2.2:Nat)
theorem Vx{n:Nat}{l:List RowH}{k:Nat}(hk:k<l.length)(d:∀j (h:j<l.length),j<k->rowOk n l[j].2.2=true)(hb:rowOk n l[k].2.2=false):KF n l=k:=by
 unfold KF DI
 have h1:(l.all fun x=>rowOk n x.2.2)=false:=by
  rw[List.all_eq_false];exact⟨l[k],zO hk,by rw[hb];simp⟩
 rw[h1,zE (by simp)]
 congr 1
 rw[List.findIdx_eq hk];exact⟨by rw[hb];rfl,fun j hj=>by rw[d j (by omega) hj];rfl⟩
theorem SU{n:Nat}{l:List RowH}(d:∀j (h:j<l.length),j<l.length->rowOk n l[j].2.2=true):KF n l=-1:=by
 unfold KF DI;rw[zF];rw[wm];intro x hx;obtain⟨j,hj,rfl⟩:=zi hx;exact d j hj hj
theorem Vy(n:Nat)(l:List RowH):decide (0<=KF n l)=!DI n l:=by
 unfold KF
 cases DI n l
 .rw[zE (by simp)];simp
 rw[zF rfl];rfl
theorem SV(n:Nat)(A:Option Addr)(cap:Nat)(l:List RowH)(nb:Nat)(w:World)(hE:Env w)(hn:Int1 w nb n)(hr:InMat w A l)(hl:l.length<=140737488355328)(hz:∀x∈l,x.2.2.length<=140737488355328/\∀y∈x.2.2,EC y):
 Calls prog 80 #[.slice A l.length cap,.func (.func 79) #[] #[.pointer (some ⟨nb,0,none⟩)]] w
  fun e w'=>e=.returned (.int .i64 (KF n l))/\Below w.heap.size w w':=by
 have HF:=zh (fun(k:Nat) (hk:k<l.length) h1 h2=>Vx (n:=n) (l:=l) hk h1 h2);have HA:=zh (SU (n:=n) (l:=l));generalize KF n l=res at *;replace hE:=zh hE;replace hr:=zh hr;replace hz:=zh hz;replace hn:=zh hn;go_enter func80,ntmps80;go_wp2
 go_loopw [8] (fun i wr=>∃k:Nat,k<=l.length/\i=.int .i64 (k:Int)/\Hid (∀j (h:j<l.length),j<k->rowOk n l[j].2.2=true)/\Hid (Below w.heap.size w wr)) (fun i _=>l.length-(intOf i).toNat)
 case atStart=>exact⟨0,zS _,rfl,fun j _ h=>absurd h (by omega),zI _ _⟩
 case round=>
  obtain⟨k,hk,rfl,aa,hB⟩:=hrel
  by_cases hlt:k<l.length
  .obtain ⟨b,off,rfl,hb,hc⟩:=(hr.o.below hB.o (zB _)) (by omega);obtain⟨c1,ad⟩:=hc k hlt;clear hc;have hx:=hz.o l[k] (zO hlt);have kv:=NE n l[k].1 l[k].2.1 l[k].2.2 nb wr (hE.o.below hB.o) (hn.o.below hB.o) ad hx.1 hx.2;have HK:=zh (HF.o k hlt aa.o)
   have HL:Hid (rowOk n l[k].2.2=true->∀j (h:j<l.length),j<k+1->rowOk n l[j].2.2=true):=fun hv j h hj=>by
    by_cases e:j=k
    .subst e;exact hv
    exact aa.o j h (by omega)
   generalize l[k]=x at *;obtain⟨xa,xc,xl⟩:=x;dsimp only at c1 kv HK HL;replace kv:=zh kv;have af:=hx.1;dsimp only at af;clear hx ad
   cases hv:rowOk n xl with
   |true=>
    have HL2:=zh (HL.o hv);rw[hv]at kv;clear HL HK hv
    go_wp2_with fail
    refine kv.o.q fun w1 d=>?_;have ae:=hB.t d;clear d;go_wp2
    go_roundw
    case rel=>exact⟨k+1,by omega,by go_num,HL2,ae⟩
    case measure=>simp[intOf];omega
   |false=>
    have HK2:=zh (HK.o hv);rw[hv]at kv;clear HL HK hv
    go_wp2_with fail
    refine kv.o.q fun w1 d=>?_;have ae:=hB.t d;clear d;go_wp2;go_ret;exact⟨by rw[HK2.o];rfl,ae.o⟩
  obtain rfl:k=l.length:=by omega
  have HE:=zh (HA.o aa.o);go_wp2;go_ret;exact⟨by rw[HE.o];rfl,hB.o⟩
theorem GH(n:Nat)(A:Option Addr)(cap:Nat)(l:List RowH)(nb:Nat)(w:World)(hE:Env w)(hn:Int1 w nb n)(hr:InMat w A l)(hl:l.length<=140737488355328)(hz:∀x∈l,x.2.2.length<=140737488355328/\∀y∈x.2.2,EC y):
 Calls prog 78 #[.slice A l.length cap,.func (.func 79) #[] #[.pointer (some ⟨nb,0,none⟩)]] w
  fun e w'=>e=.returned (.bool (!DI n l))/\Below w.heap.size w w':=by
 have hi:=SV n A cap l nb w hE hn hr hl hz;have hg:=Vy n l;generalize KF n l=i at *;generalize (!DI n l)=v at *;replace hn:=zh hn;replace hr:=zh hr;replace hz:=zh hz;go_enter func78,ntmps78
 go_wp2_with fail
 refine hi.q fun w1 hb=>?_;replace hb:=zh hb;go_wp2;go_ret;exact⟨rfl,hb.o⟩
theorem Qg(k N cap b kb:Nat)(w:World)(aa:k<N)(hk:Int1 w kb k)(hb:b<w.heap.size)
 (e1:w.cell? ⟨b,k*3,none⟩=some (.bool false))(e2:w.cell? ⟨b,k*3+1,none⟩=some (.string ⟨#[48]⟩))(e3:w.cell? ⟨b,k*3+2,none⟩=some (.string ⟨#[49]⟩)):
 Calls prog 81 #[.slice (some ⟨b,0,none⟩) N cap,.pointer (some ⟨kb,0,none⟩)] w fun e w'=>e=.returned (.bool false)/\Below w.heap.size w w':=by
 have c1:=hk.cell;have h:=zh hk.lt;have i0:(0:Int)<=(k:Int):=by omega
 have i1:(k:Int)<(N:Int):=by omega
 have hc:Hid (w.cell? ⟨kb,0,none⟩=some (.int .i64 (k:Int))/\w.cell? ⟨b,k*3,none⟩=some (.bool false)/\w.cell? ⟨b,k*3+1,none⟩=some (.string ⟨#[48]⟩)/\w.cell? ⟨b,k*3+2,none⟩=some (.string ⟨#[49]⟩)):=⟨c1,e1,e2,e3⟩;have kz:=zh I1;replace hb:=zh hb;clear hk;go_enter func81,ntmps81
 go_wp2_with fail
 go_region_held3 (fun w'=>w'.cell? ⟨kb,0,none⟩=some (.int .i64 (k:Int))/\w'.cell? ⟨b,k*3,none⟩=some (.bool false)/\w'.cell? ⟨b,k*3+1,none⟩=some (.string ⟨#[48]⟩)/\w'.cell? ⟨b,k*3+2,none⟩=some (.string ⟨#[49]⟩)) (first|(with_reducible exact hc.o)|(exact⟨(d.o.cell (p:=⟨kb,0,none⟩) h.o).trans hc.o.1,(d.o.cell (p:=⟨b,k*3,none⟩) hb.o).trans hc.o.2.1,(d.o.cell (p:=⟨b,k*3+1,none⟩) hb.o).trans hc.o.2.2.1,(d.o.cell (p:=⟨b,k*3+2,none⟩) hb.o).trans hc.o.2.2.2⟩)|go_keep)
  (first
    |(go_at_call 82;refine(kz.o _).q fun w1 d=>?_;replace d:Hid (Below w.heap.size w.drew w1):=d))
 all_goals (
  go_wp2;go_ret;exact⟨rfl,(zI _ w).drew.trans d.o⟩
  )
theorem NF(g:Bool)(x d:ByteArray)(k N cap b kb:Nat)(w:World)(ad:k<N)(hk:Int1 w kb k)(hb:b<w.heap.size)
 (e1:w.cell? ⟨b,k*3,none⟩=some (.bool g))(e2:w.cell? ⟨b,k*3+1,none⟩=some (.string x))(e3:w.cell? ⟨b,k*3+2,none⟩=some (.string d))(hz:(x.toList==[48])=false):
 Calls prog 81 #[.slice (some ⟨b,0,none⟩) N cap,.pointer (some ⟨kb,0,none⟩)] w fun e w'=>e=.returned (.bool true)/\Below w.heap.size w w':=by
 have c1:=hk.cell;have aa:=zh hk.lt;have i0:(0:Int)<=(k:Int):=by omega
 have i1:(k:Int)<(N:Int):=by omega
 have hc:Hid (w.cell? ⟨kb,0,none⟩=some (.int .i64 (k:Int))/\w.cell? ⟨b,k*3,none⟩=some (.bool g)/\w.cell? ⟨b,k*3+1,none⟩=some (.string x)/\w.cell? ⟨b,k*3+2,none⟩=some (.string d)):=⟨c1,e1,e2,e3⟩;have kz:=zh I1;replace hb:=zh hb;clear hk;go_enter func81,ntmps81
 go_wp2_with fail
 go_region_held3 (fun w'=>w'.cell? ⟨kb,0,none⟩=some (.int .i64 (k:Int))/\w'.cell? ⟨b,k*3,none⟩=some (.bool g)/\w'.cell? ⟨b,k*3+1,none⟩=some (.string x)/\w'.cell? ⟨b,k*3+2,none⟩=some (.string d)) (first|(with_reducible exact hc.o)|(exact⟨(h.o.cell (p:=⟨kb,0,none⟩) aa.o).trans hc.o.1,(h.o.cell (p:=⟨b,k*3,none⟩) hb.o).trans hc.o.2.1,(h.o.cell (p:=⟨b,k*3+1,none⟩) hb.o).trans hc.o.2.2.1,(h.o.cell (p:=⟨b,k*3+2,none⟩) hb.o).trans hc.o.2.2.2⟩)|go_keep)
  (first
    |(go_at_call 82;refine(kz.o _).q fun w1 h=>?_;replace h:Hid (Below w.heap.size w.drew w1):=h))
 all_goals (
  go_wp2;go_ret;exact⟨rfl,(zI _ w).drew.trans h.o⟩
  )
end Nt
end
section
open Go.RowKit Go.Shelf
namespace Nt
structure MatW(W:World)(B R n:Nat)(bl:Nat->Nat)(M:Mx):Prop where
 lt:R<W.heap.size
 hd:∀i,i<n->W.cell? ⟨R,i,none⟩=some (.slice (some ⟨bl i,0,none⟩) (n+1) (n+1))
 fr:∀i,W.frozen? ⟨R,i,none⟩=false
 rows:∀i,i<n->RowB W (bl i) (n+1) fun j=>rq (M i j)
 inj:∀i j,i<n->j<n->bl i=bl j->i=j
 ne:∀i,i<n->bl i≠R
 lowR:B<=R
 low:∀i,i<n->B<=bl i
section
variable {W W':World} {B R n:Nat} {bl:Nat->Nat} {M:Mx}
theorem MatW.below(h:MatW W B R n bl M)(hb:Below W.heap.size W W'):MatW W' B R n bl M :=
 ⟨zJ h.lt hb.size,fun i hi=>(hb.cell (p:=⟨R,i,none⟩) h.lt).trans (h.hd i hi),fun i=>(hb.frozen (p:=⟨R,i,none⟩) h.lt).trans (h.fr i),
  fun i hi=>(h.rows i hi).below hb (h.rows i hi).lt,h.inj,h.ne,h.lowR,h.low⟩
theorem MatW.alloc(h:MatW W B R n bl M)(o:Obj):MatW (W.alloc o) B R n bl M:=h.below ((zI _ W).alloc (zB _) o)
theorem MatW.drew(h:MatW W B R n bl M):MatW W.drew B R n bl M:=⟨h.lt,h.hd,h.fr,h.rows,h.inj,h.ne,h.lowR,h.low⟩
theorem MatW.change(h:MatW W B R n bl M){k:Nat}(hk:k<n)(hg:W.grownBy W' (some (bl k))){M':Mx}(hr:RowB W' (bl k) (n+1) fun j=>rq (M' k j))(he:∀i,i<n->i≠k->M' i=M i):MatW W' B R n bl M':=by
 have hR:some R≠some (bl k):=fun e=>h.ne k hk (Option.some.inj e).symm;have hb:=hg.block R h.lt hR;refine⟨zJ h.lt hg.size,fun i hi=>(zU (a:=⟨R,i,none⟩) hb).trans (h.hd i hi),fun i=>(yF (a:=⟨R,i,none⟩) hb).trans (h.fr i),fun i hi=>?_,h.inj,h.ne,h.lowR,h.low⟩
 by_cases e:i=k
 .rw[e];exact hr
 rw[he i hi e];exact(h.rows i hi).grown hg fun e2=>e (h.inj i k hi hk (Option.some.inj e2))
def Hj(k p:Nat)(bl:Nat->Nat):Nat->Nat:=fun i=>if i=k then bl p else if i=p then bl k else bl i
theorem MatW.swap(h:MatW W B R n bl M){k p:Nat}(hk:k<n)(hp:p<n):
 MatW ((W.setCell ⟨R,k,none⟩ (.slice (some ⟨bl p,0,none⟩) (n+1) (n+1))).setCell ⟨R,p,none⟩ (.slice (some ⟨bl k,0,none⟩) (n+1) (n+1))) B R n (Hj k p bl) (Bt k p M):=by
 have far:∀i,i<n->∀x y v u,RowB ((W.setCell ⟨R,x,none⟩ v).setCell ⟨R,y,none⟩ u) (bl i) (n+1) fun j=>rq (M i j):=fun i hi x y v u=>((h.rows i hi).far (p:=⟨R,x,none⟩) (h.ne i hi) v).far (p:=⟨R,y,none⟩) (h.ne i hi) u;refine⟨by simpa using h.lt,fun i hi=>?_,fun i=>by simpa using h.fr i,fun i hi=>?_,fun i j hi hj e=>?_,fun i hi=>?_,h.lowR,fun i hi=>?_⟩
 .unfold Hj
  have c1:(W.setCell ⟨R,k,none⟩ (.slice (some ⟨bl p,0,none⟩) (n+1) (n+1))).cell? ⟨R,i,none⟩=if i=k then some (.slice (some ⟨bl p,0,none⟩) (n+1) (n+1)) else some (.slice (some ⟨bl i,0,none⟩) (n+1) (n+1)):=by
   by_cases e:i=k
   .rw[zF e,e];exact xN W _ _ (h.hd k hk)
   rw[zE e,yu _ _ _ _ (by intro e2;injection e2 with _ e3;first|exact e e3|exact e e3.symm)];exact h.hd i hi
  by_cases e:i=p
  .subst e
   have:((W.setCell ⟨R,k,none⟩ (.slice (some ⟨bl i,0,none⟩) (n+1) (n+1))).setCell ⟨R,i,none⟩ (.slice (some ⟨bl k,0,none⟩) (n+1) (n+1))).cell? ⟨R,i,none⟩=some (.slice (some ⟨bl k,0,none⟩) (n+1) (n+1)) :=
    xN _ _ _ (by rw[c1];split<;>rfl)
   rw[this]
   by_cases e2:i=k
   .rw[zF e2,e2]
   rw[zE e2,zF rfl]
  rw[yu _ _ _ _ (by intro e2;injection e2 with _ e3;first|exact e e3|exact e e3.symm),c1]
  by_cases e2:i=k
  .rw[zF e2,zF e2]
  rw[zE e2,zE e2,zE e]
 .unfold Hj Bt
  by_cases e1:i=k
  .simp only[zF e1];exact far p hp _ _ _ _
  by_cases e2:i=p
  .simp only[zE e1,zF e2];exact far k hk _ _ _ _
  simp only[zE e1,zE e2];exact far i hi _ _ _ _
 .unfold Hj at e
  by_cases a1:i=k
  .rw[zF a1]at e
   by_cases b1:j=k
   .omega
   rw[zE b1]at e
   by_cases b2:j=p
   .rw[zF b2]at e;have:=h.inj p k hp hk e;omega
   rw[zE b2]at e;have:=h.inj p j hp hj e;omega
  rw[zE a1]at e
  by_cases a2:i=p
  .rw[zF a2]at e
   by_cases b1:j=k
   .rw[zF b1]at e;have:=h.inj k p hk hp e;omega
   rw[zE b1]at e
   by_cases b2:j=p
   .omega
   rw[zE b2]at e;have:=h.inj k j hk hj e;omega
  rw[zE a2]at e
  by_cases b1:j=k
  .rw[zF b1]at e;have:=h.inj i p hi hp e;omega
  rw[zE b1]at e
  by_cases b2:j=p
  .rw[zF b2]at e;have:=h.inj i k hi hk e;omega
  rw[zE b2]at e;exact h.inj i j hi hj e
 .unfold Hj
  split
  .exact h.ne p hp
  split
  .exact h.ne k hk
  exact h.ne i hi
 unfold Hj
 split
 .exact h.low p hp
 split
 .exact h.low k hk
 exact h.low i hi
end
theorem rq_zero:rq 0=(false,⟨#[48]⟩,⟨#[49]⟩):=by
 have h1:rq 0=(false,T (some 0),T (some 1)):=rfl;rw[h1,Si,Wo]
theorem SWq{q:Rat}(h:q≠0):((rq q).2.1.toList==[48])=false:=by
 show ((T (some q.num.natAbs)).toList==[48])=false
 rw[Bp];have:=CO h;exact zH (by omega)
def Jq(n k:Nat)(M:Mx):Int:=match CX n k M (n-k) with|some p=>((p-k:Nat):Int)|none=>-1
theorem Vz{n k i:Nat}{M:Mx}(hi:k+i<n)(h0:M (k+i) k≠0)(d:∀j,j<i->M (k+j) k=0):Jq n k M=i:=by
 unfold Jq
 rw [Iy (p:=k+i) (by omega) (by omega) hi h0 fun j h1 h2=>by
  have:=d (j-k) (by omega)
  rwa [show k+(j-k)=j by omega]at this]
 show ((k+i-k:Nat):Int)=i
 rw[Nat.add_sub_cancel_left]
theorem V0{n k:Nat}{M:Mx}(d:∀j,j<n-k->M (k+j) k=0):Jq n k M=-1:=by
 unfold Jq
 rw [SM (by omega) fun j h1 h2=>by
  have:=d (j-k) (by omega)
  rwa [show k+(j-k)=j by omega]at this]
theorem SX(B R n k capR kb:Nat)(bl:Nat->Nat)(M:Mx)(w:World)(hk:k<n)(hn:n<=1000)(hM:MatW w B R n bl M)(ah:Int1 w kb k):
 Calls prog 80 #[.slice (some ⟨R,k,none⟩) (n-k) capR,.func (.func 81) #[] #[.pointer (some ⟨kb,0,none⟩)]] w
  fun e w'=>e=.returned (.int .i64 (Jq n k M))/\Below w.heap.size w w':=by
 have HF:=zh (fun(i:Nat) (hi:k+i<n) h0 h1=>Vz (n:=n) (k:=k) (i:=i) (M:=M) hi h0 h1);have HA:=zh (V0 (n:=n) (k:=k) (M:=M));generalize Jq n k M=res at *;replace hM:=zh hM;replace ah:=zh ah;obtain⟨m,hm⟩:∃m,m=n-k:=⟨_,rfl⟩;rw[<-hm]at HA ⊢;have HM:Hid (k+m=n):=by show k+m=n;omega
 have am:m<=1000:=by omega
 clear hm hn;go_enter func80,ntmps80;go_wp2
 go_loopw [8] (fun i wr=>∃y:Nat,y<=m/\i=.int .i64 (y:Int)/\Hid (∀j,j<y->M (k+j) k=0)/\Hid (Below w.heap.size w wr)) (fun i _=>m-(intOf i).toNat)
 case atStart=>exact⟨0,zS _,rfl,fun j h=>absurd h (by omega),zI _ _⟩
 case round=>
  obtain⟨i,hi,rfl,ae,hB⟩:=hrel
  by_cases hlt:i<m
  .have ai:k+i<n:=by have:=HM.o;omega
   have aa:=hM.o.below hB.o;have af:=ah.o.below hB.o;have c1:=aa.hd (k+i) ai;have al:=aa.lt;have d:=aa.rows (k+i) ai;obtain⟨e1,e2,e3⟩:=d.cell (j:=k) (by omega);have ak:=d.lt
   by_cases h0:M (k+i) k=0
   .rw [h0,rq_zero]at e1 e2 e3;have kc:=zh (Qg k (n+1) (n+1) (bl (k+i)) kb wr (by omega) af ak e1 e2 e3)
    have aj:Hid (∀j,j<i+1->M (k+j) k=0):=fun j hj=>by
     by_cases e:j=i
     .rw[e];exact h0
     exact ae.o j (by omega)
    clear e1 e2 e3 h0 d aa af
    go_wp2_with fail
    refine kc.o.q fun w1 ad=>?_;have ag:=hB.t ad;clear ad;go_wp2
    go_roundw
    case rel=>exact⟨i+1,by omega,by go_num,aj,ag⟩
    case measure=>simp[intOf];omega
   have hz:=SWq h0;have kc:=zh (NF _ _ _ k (n+1) (n+1) (bl (k+i)) kb wr (by omega) af ak e1 e2 e3 hz);have HE:=zh (HF.o i ai h0 ae.o);clear e1 e2 e3 h0 d aa af hz
   go_wp2_with fail
   refine kc.o.q fun w1 ad=>?_;have ag:=hB.t ad;clear ad;go_wp2;go_ret;exact⟨by rw[HE.o];rfl,ag.o⟩
  obtain rfl:i=m:=by omega
  have HE:=zh (HA.o ae.o);go_wp2;go_ret;exact⟨by rw[HE.o];rfl,hB.o⟩
end Nt
end
section
open Go.RowKit Go.Shelf
namespace Nt
structure SysIn(w:World)(Aa Ab:Option Addr)(la:List RowH)(lb:List Raw):Prop where
 ma:InMat w Aa la
 mb:InRow w Ab lb
 na:la.length<=140737488355328
 nb:lb.length<=140737488355328
 za:∀x∈la,x.2.2.length<=140737488355328/\∀y∈x.2.2,EC y
 zb:∀x∈lb,EC x
theorem SysIn.below{w w':World}{Aa Ab:Option Addr}{la:List RowH}{lb:List Raw}(h:SysIn w Aa Ab la lb)(hb:Below w.heap.size w w'):SysIn w' Aa Ab la lb :=
 ⟨h.ma.below hb (zB _),h.mb.below hb (zB _),h.na,h.nb,h.za,h.zb⟩
abbrev nW(w:World)(n:Nat):World:=w.alloc (.cells #[.int .i64 (n:Int)] 3)
theorem B7(w:World)(n:Nat):Below w.heap.size w (nW w n):=AP _ _
theorem Qh(Aa Ab:Option Addr)(ca cb:Nat)(la:List RowH)(lb:List Raw)(w:World)(h:la.length≠lb.length)(hs:SysIn w Aa Ab la lb):
 Calls prog 39 #[.slice Aa la.length ca,.slice Ab lb.length cb] w fun e w'=>e=.returned (.tuple #[.slice none 0 0,.int .i64 1])/\Below w.heap.size w w':=by
 have h1:((la.length:Int)==(lb.length:Int))=false:=by rw[zN];omega
 have h2:((la.length:Int) != (lb.length:Int))=true:=by rw[zm];omega
 have h3:(la.length==lb.length)=false:=by rw[zN];exact h
 have h4:¬la.length=lb.length:=h;have n1:=hs.na;have n2:=hs.nb;clear h;replace hs:=zh hs;go_enter func39,ntmps39;go_wp2;go_ret2;exact⟨rfl,B7 _ _⟩
theorem SY(Aa Ab:Option Addr)(ca cb:Nat)(la:List RowH)(lb:List Raw)(w:World)(hE:Env w)(h:la.length=lb.length)(hs:SysIn w Aa Ab la lb)(hv:allV lb=false):
 Calls prog 39 #[.slice Aa la.length ca,.slice Ab lb.length cb] w fun e w'=>e=.returned (.tuple #[.slice none 0 0,.int .i64 1])/\Below w.heap.size w w':=by
 have n2:=hs.nb;rw[h];have kv:=Dx Ab cb lb (nW w lb.length) (hE.below (B7 _ _)) (hs.below (B7 _ _)).mb hs.nb hs.zb;rw[hv]at kv;replace kv:=zh kv;clear h hs hv hE;go_enter func39,ntmps39
 go_wp2_with fail
 refine kv.o.q fun w1 hb=>?_;have hB:=zh ((B7 w lb.length).trans (hb.mono (by simp)));clear hb;go_wp2;go_ret2;exact⟨rfl,hB.o⟩
theorem SZ(Aa Ab:Option Addr)(ca cb:Nat)(la:List RowH)(lb:List Raw)(w:World)(hE:Env w)(h:la.length=lb.length)(hs:SysIn w Aa Ab la lb)(hv:allV lb=true)(hm:DI lb.length la=false):
 Calls prog 39 #[.slice Aa la.length ca,.slice Ab lb.length cb] w fun e w'=>e=.returned (.tuple #[.slice none 0 0,.int .i64 1])/\Below w.heap.size w w':=by
 have n2:=hs.nb;have kv:=Dx Ab cb lb (nW w lb.length) (hE.below (B7 _ _)) (hs.below (B7 _ _)).mb hs.nb hs.zb;have ka:=fun W (h1:Env W) (h2:Int1 W w.heap.size lb.length) (h3:SysIn W Aa Ab la lb)=>GH lb.length Aa ca la w.heap.size W h1 h2 h3.ma h3.na h3.za;rw[hv]at kv;rw[hm,h]at ka;rw[h];replace kv:=zh kv;replace ka:=zh ka;replace hs:=zh hs;replace hE:=zh hE;clear h hv hm;go_enter func39,ntmps39
 go_wp2_with fail
 refine kv.o.q fun w1 hb=>?_;have hB:=zh ((B7 w lb.length).trans (hb.mono (by simp)));have hn:=zh ((Int1.new w lb.length).below hb);clear hb
 go_wp2_with fail
 refine(ka.o _ (hE.o.below hB.o) hn.o (hs.o.below hB.o)).q fun w2 hb=>?_;have d:=hB.t hb;clear hb;go_wp2;go_ret2;exact⟨rfl,d.o⟩
theorem Qi(Aa Ab:Option Addr)(ca cb:Nat)(la:List RowH)(lb:List Raw)(w:World)(hE:Env w)(h:la.length=lb.length)(hs:SysIn w Aa Ab la lb)(hv:allV lb=true)(hm:DI lb.length la=true)(ad:8<lb.length):
 Calls prog 39 #[.slice Aa la.length ca,.slice Ab lb.length cb] w fun e w'=>e=.returned (.tuple #[.slice none 0 0,.int .i64 2])/\Below w.heap.size w w':=by
 have n2:=hs.nb;have kv:=Dx Ab cb lb (nW w lb.length) (hE.below (B7 _ _)) (hs.below (B7 _ _)).mb hs.nb hs.zb;have ka:=fun W (h1:Env W) (h2:Int1 W w.heap.size lb.length) (h3:SysIn W Aa Ab la lb)=>GH lb.length Aa ca la w.heap.size W h1 h2 h3.ma h3.na h3.za;rw[hv]at kv;rw[hm,h]at ka;rw[h];replace kv:=zh kv;replace ka:=zh ka;replace hs:=zh hs;replace hE:=zh hE;clear h hv hm;go_enter func39,ntmps39
 go_wp2_with fail
 refine kv.o.q fun w1 hb=>?_;have hB:=zh ((B7 w lb.length).trans (hb.mono (by simp)));have hn:=zh ((Int1.new w lb.length).below hb);clear hb
 go_wp2_with fail
 refine(ka.o _ (hE.o.below hB.o) hn.o (hs.o.below hB.o)).q fun w2 hb=>?_;have aa:=hB.t hb;have d:=hn.o.below hb;have c1:=d.cell;have c2:=d.lt;clear hb;go_wp2;go_ret2;exact⟨rfl,aa.o⟩
def Dc:Code->List Code
 |.loop c=>c::Dc c
 |.seq a b=>Dc a++Dc b
 |.block _ c=>Dc c
 |.scope c=>Dc c
 |.cond _ a b=>Dc a++Dc b
 |_=>[]
noncomputable def Yg:Code:=((Tryz.f39.body.map Dc).bind fun l=>l[2]?).getD .skip
def SQ(q:Rat):Bool:=decide (ShortQ q)
def JJ(n:Nat)(M0:Mx)(w:World)(e:Ending)(w':World):Prop :=
 Below w.heap.size w w'/\((∃M v,AB SQ n n M0=.ok M/\e=.returned (.tuple #[v,.int .i64 0])/\w'.ownsRow w.heap.size 48 3 v n (AM n fun i=>rq (M i n)))\/(∃er:Int,AB SQ n n M0=.error er/\e=.returned (.tuple #[.slice none 0 0,.int .i64 er])))
theorem GI{S:Rat->Bool}{n k:Nat}{M0 M:Mx}{e:Int}(h:AB S n k M0=.ok M)(hs:CY S n k M=.error e)(hk:k<n):AB S n n M0=.error e:=by
 have key:∀m,k+1<=m->AB S n m M0=.error e:=by
  intro m
  induction m with
  |zero=>intro h;omega
  |succ m ih=>
   intro hm;unfold AB
   by_cases e1:m=k
   .rw[e1,h];exact hs
   rw[ih (by omega)];rfl
 exact key n hk
theorem JK{P:Nat->Prop}{k n:Nat}(h:¬∀j,k<=j->j<=n->P j):∃t,k<=t/\t<=n/\(∀j,k<=j->j<t->P j)/\¬P t:=by
 have key : ∀m,(∀j,k<=j->j<m->P j)\/∃t,k<=t/\t<m/\(∀j,k<=j->j<t->P j)/\¬P t:=by
  intro m
  induction m with
  |zero=>exact .inl fun j _ h=>absurd h (by omega)
  |succ m ih=>
   rcases ih with ih|⟨t,a,b,c,d⟩
   .by_cases hm:k<=m
    .by_cases hp:P m
     .refine .inl fun j h1 h2=>?_
      by_cases e:j=m
      .rw[e];exact hp
      exact ih j h1 (by omega)
     exact .inr ⟨m,hm,by omega,ih,hp⟩
    exact .inl fun j h1 h2=>ih j h1 (by omega)
   exact .inr ⟨t,a,by omega,c,d⟩
 rcases key (n+1) with h1|⟨t,a,b,c,d⟩
 .exact absurd (fun j a b=>h1 j a (by omega)) h
 exact⟨t,a,by omega,c,d⟩
theorem Qj{n k:Nat}{M:Mx}(h:Iz SQ n k M=false):∃t,k<=t/\t<=n/\(∀j,k<=j->j<t->ShortQ (M k j)/\ShortQ (M k k))/\¬(ShortQ (M k t)/\ShortQ (M k k)):=by
 refine JK fun h2=>?_;have:Iz SQ n k M=true:=(Fnq SQ).2 fun j a b=>⟨zG (h2 j a b).1,zG (h2 j a b).2⟩;rw[h]at this;cases this
theorem Qk{n k i:Nat}{M:Mx}(h:I0 SQ n k i M=false):∃t,k<=t/\t<=n/\(∀j,k<=j->j<t->ShortQ (M i k)/\ShortQ (M k j)/\ShortQ (M i j)/\ShortQ (M i k*M k j))/\¬(ShortQ (M i k)/\ShortQ (M k t)/\ShortQ (M i t)/\ShortQ (M i k*M k t)):=by
 refine JK fun h2=>?_;have:I0 SQ n k i M=true:=(Fo SQ).2 fun j a b=>⟨zG (h2 j a b).1,zG (h2 j a b).2.1,zG (h2 j a b).2.2.1,zG (h2 j a b).2.2.2⟩;rw[h]at this;cases this
theorem MatW.drewN{W:World}{B R n:Nat}{bl:Nat->Nat}{M:Mx}(h:MatW W B R n bl M)(q:Nat):MatW (W.drewN q) B R n bl M:=⟨h.lt,h.hd,h.fr,h.rows,h.inj,h.ne,h.lowR,h.low⟩
theorem Ql{S:Rat->Bool}{n k i m:Nat}{M:Mx}(d:i<=m)(h:AK S n k i M=none):AK S n k m M=none:=by
 induction m with
 |zero=>rw[show i=0 by omega]at h;exact h
 |succ m ih=>
  by_cases e:i=m+1
  .rw[<-e];exact h
  unfold AK;rw[ih (by omega)];rfl
def Ta(w:World)(R n k kb vb:Nat)(bl:Nat->Nat)(M2:Mx)(y:Nat)(wq:World):Prop :=
 ∃M3:Mx,Hid (AK SQ n k y M2=some M3)/\Hid (MatW wq w.heap.size R n bl M3)/\Hid (∀i j,i<n->j<=n->OkQ (M3 i j))/\Hid (Below w.heap.size w wq)/\Hid (Int1 wq w.heap.size n)/\Hid (Int1 wq kb k)/\Hid (Blk1 wq vb (.slice (some ⟨bl k,k*3,none⟩) (n+1-k) (n+1-k)))
theorem NH{c0 c1 c2 c3 c6 c7 c8 be bf bg bh bi bj bk bm bn bo bp bq br bs bt bu bv bw bx bz bA bB bC bD bE bF bG bH bI bJ bK bL bM bN bO bP bQ bR bS bT bU bW bX bY bZ b0 b1 b2 b3 b4 b5 b6 b7 b8 b9 cb cd cf cg ch ci cj ck cm cn cq cr ct cu cx cy cz cA cB cC cD cE cF cG cH cI cJ cK cL cM am an ao ap aq ar au av aw ax ay az aA aB aC aD aE aF aG aH aI aJ aK aL aM aN aO aP aQ aR aS aT aU a4 a5 dH dI dJ a17 cU cV cW cX cY cZ c9 da db dc dd de dh di dj dk dl dq dr ds dt du dv dw dx:Value}{Q:Exit->Act->World->Prop}(R n k kb vb:Nat)(bl:Nat->Nat)(M2:Mx)(w w0:World)(hE:Env w)(dR:n<=8)(hk:k<n)(cT:Ta w R n k kb vb bl M2 0 w0)
 (hx:∀(u4 u5 u14 u15 u16 u17 u119 u120 u121 u122 u123 u124 u125 u126 u127 u128 u129 u130 u131 u132 u133 u134 u135 u136 u137 u138 u139 u140 u141 u142 u143 u144:Value)(wq:World),Ta w R n k kb vb bl M2 n wq->Q (.exit 4) ⟨#[c0,c1,c2,c3,u4,u5,c6,c7,c8,.pointer (some ⟨kb,0,none⟩),be,.pointer (some ⟨vb,0,none⟩),bf,bg,u14,u15,u16,u17,bh,bi,bj,bk,bm,bn,bo,bp,bq,br,bs,bt,bu,bv,bw,bx,bz,bA,bB,bC,bD,bE,bF,bG,bH,bI,bJ,bK,bL,bM,bN,bO,bP,bQ,bR,bS,bT,bU,bW,bX,bY,bZ,b0,b1,b2,b3,b4,b5,b6,b7,b8,b9,cb,cd,cf,cg,ch,ci,cj,ck,cm,cn,cq,cr,ct,cu,cx,cy,cz,cA,cB,cC,cD,cE,cF,cG,cH,cI,cJ,cK,cL,cM,am,an,ao,ap,aq,ar,au,av,aw,ax,ay,az,aA,aB,aC,aD,aE,.slice (some ⟨R,0,none⟩) n n,.int .i64 (n:Int),u119,u120,u121,u122,u123,u124,u125,u126,u127,u128,u129,u130,u131,u132,u133,u134,u135,u136,u137,u138,u139,u140,u141,u142,u143,u144,aF,aG,aH,aI,aJ,aK,aL,aM,aN,aO,aP,aQ,aR,aS,aT,aU],[]⟩ wq)
 (hr:∀(u14 u15 u16 u17 u119 u120 u121 u122 u123 u124 u125 u126 u127 u128 u129 u130 u131 u132 u133 u134 u135 u136 u137 u138 u139 u140 u141 u142 u143 u144:Value)(wq:World),Below w.heap.size w wq->AK SQ n k n M2=none->Q .ret ⟨#[c0,c1,c2,c3,.slice none 0 0,.int .i64 2,c6,c7,c8,.pointer (some ⟨kb,0,none⟩),be,.pointer (some ⟨vb,0,none⟩),bf,bg,u14,u15,u16,u17,bh,bi,bj,bk,bm,bn,bo,bp,bq,br,bs,bt,bu,bv,bw,bx,bz,bA,bB,bC,bD,bE,bF,bG,bH,bI,bJ,bK,bL,bM,bN,bO,bP,bQ,bR,bS,bT,bU,bW,bX,bY,bZ,b0,b1,b2,b3,b4,b5,b6,b7,b8,b9,cb,cd,cf,cg,ch,ci,cj,ck,cm,cn,cq,cr,ct,cu,cx,cy,cz,cA,cB,cC,cD,cE,cF,cG,cH,cI,cJ,cK,cL,cM,am,an,ao,ap,aq,ar,au,av,aw,ax,ay,az,aA,aB,aC,aD,aE,.slice (some ⟨R,0,none⟩) n n,.int .i64 (n:Int),u119,u120,u121,u122,u123,u124,u125,u126,u127,u128,u129,u130,u131,u132,u133,u134,u135,u136,u137,u138,u139,u140,u141,u142,u143,u144,aF,aG,aH,aI,aJ,aK,aL,aM,aN,aO,aP,aQ,aR,aS,aT,aU],[]⟩ wq):
 Code.wp prog (Code.loop Yg) Q ⟨#[c0,c1,c2,c3,a4,a5,c6,c7,c8,.pointer (some ⟨kb,0,none⟩),be,.pointer (some ⟨vb,0,none⟩),bf,bg,dH,dI,dJ,a17,bh,bi,bj,bk,bm,bn,bo,bp,bq,br,bs,bt,bu,bv,bw,bx,bz,bA,bB,bC,bD,bE,bF,bG,bH,bI,bJ,bK,bL,bM,bN,bO,bP,bQ,bR,bS,bT,bU,bW,bX,bY,bZ,b0,b1,b2,b3,b4,b5,b6,b7,b8,b9,cb,cd,cf,cg,ch,ci,cj,ck,cm,cn,cq,cr,ct,cu,cx,cy,cz,cA,cB,cC,cD,cE,cF,cG,cH,cI,cJ,cK,cL,cM,am,an,ao,ap,aq,ar,au,av,aw,ax,ay,az,aA,aB,aC,aD,aE,.slice (some ⟨R,0,none⟩) n n,.int .i64 (n:Int),.int .i64 0,cU,cV,cW,cX,cY,cZ,c9,da,db,dc,dd,de,dh,di,dj,dk,dl,dq,dr,ds,dt,du,dv,dw,dx,aF,aG,aH,aI,aJ,aK,aL,aM,aN,aO,aP,aQ,aR,aS,aT,aU],[]⟩ w0:=by
 conv=>arg 2;arg 1;whnf
 conv=>arg 4;zeta
 have dQ:k<=8:=by omega
 replace hE:=zh hE;replace cT:=zh cT;replace hx:=zh hx;replace hr:=zh hr
 go_loopw [119] (fun i wq=>∃y:Nat,y<=n/\i=.int .i64 (y:Int)/\Hid (Ta w R n k kb vb bl M2 y wq)) (fun i _=>n-(intOf i).toNat)
 case atStart=>exact⟨0,zS _,rfl,cT.o⟩
 case round=>
  obtain⟨i,hi,rfl,hI⟩:=hrel
  by_cases hlt2:i<n
  .obtain ⟨M3,a9,hM,hO,cP,dB,ba,dG⟩:=hI.o;clear hI;have c1:=hM.o.hd i hlt2;have c2:=hM.o.lt;have c3:=ba.o.cell;have c4:=ba.o.lt;obtain⟨e1,e2,e3⟩:=(hM.o.rows i hlt2).cell (j:=k) (by omega);have e4:=(hM.o.rows i hlt2).lt;have s2:(k:Int)<(n:Int)+1:=by omega
   have s3:(0:Int)<=(k:Int):=by omega
   obtain⟨fg,fn,fd,ad⟩:=CS (M3 i k);rw[ad]at e1 e2 e3;have aW:=zh (hM.o.alloc (.cells #[.bool fg,.string fn,.string fd] 48));have ak:=zh (ba.o.alloc (.cells #[.bool fg,.string fn,.string fd] 48));have aV:=zh (dB.o.alloc (.cells #[.bool fg,.string fn,.string fd] 48));have a0:=zh (dG.o.alloc (.cells #[.bool fg,.string fn,.string fd] 48));have ag:=zh (cP.o.alloc cP.o.size (.cells #[.bool fg,.string fn,.string fd] 48));have aj:=zh (B3.new wr fg fn fd)
   by_cases hik:i=k
   .have h1:(i==k)=true:=by rw[xQ];exact hik
    have h2:((i:Int)==(k:Int))=true:=by rw[xQ];omega
    have aa:Hid (AK SQ n k (i+1) M2=some M3):=by
     show AK SQ n k (i+1) M2=some M3
     unfold AK;rw[a9.o]
     show BJ SQ n k i M3=some M3
     unfold BJ;rw[zF (.inl hik)]
    replace hik:=zh hik;replace ad:=zh ad
    go_wp2_with fail
    go_quiet (fail)
    go_wp2
    go_roundw
    case rel=>exact⟨i+1,by omega,by go_num,M3,aa,aW.o.drewN nq,hO,Fk ag.o nq,aV.o,ak.o,a0.o⟩
    case measure=>simp[intOf];omega
   have h1:(i==k)=false:=by rw[zN];exact hik
   have h2:((i:Int)==(k:Int))=false:=by rw[zN];omega
   have kz:=zh I1;obtain⟨g1,g2,g3,g4,g5,g6⟩:=aj.o.facts;have k1:=ak.o.cell;have k2:=ak.o.lt;have k3:=aj.o.lt;have aX:Hid ((wr.alloc (.cells #[.bool fg,.string fn,.string fd] 48)).cell? ⟨kb,0,none⟩=some (.int .i64 (k:Int))/\(wr.alloc (.cells #[.bool fg,.string fn,.string fd] 48)).cell? ⟨wr.heap.size,0,none⟩=some (.bool fg)/\(wr.alloc (.cells #[.bool fg,.string fn,.string fd] 48)).cell? ⟨wr.heap.size,1,none⟩=some (.string fn)/\(wr.alloc (.cells #[.bool fg,.string fn,.string fd] 48)).cell? ⟨wr.heap.size,2,none⟩=some (.string fd)):=⟨k1,g1,g2,g3⟩;obtain⟨w4,a7⟩:∃W,W=wr.alloc (.cells #[.bool fg,.string fn,.string fd] 48):=⟨_,rfl⟩;rw[<-a7]at aW ak aV a0 ag aj aX k1 k2 k3 g1 g2 g3 g4 g5 g6;obtain⟨fb,aY⟩:∃x,x=wr.heap.size:=⟨_,rfl⟩;rw[<-aY]at aj aX k3 g1 g2 g3 g4 g5 g6;replace a7:=zh a7;replace aY:=zh aY;replace hik:=zh hik
   go_wp2_with fail
   rw[<-a7.o,<-aY.o];clear c1 c2 c3 c4 e1 e2 e3 e4 hM ba dG dB cP a7 aY
   by_cases h0:M3 i k=0
   .have aa:Hid (AK SQ n k (i+1) M2=some M3):=by
     show AK SQ n k (i+1) M2=some M3
     unfold AK;rw[a9.o]
     show BJ SQ n k i M3=some M3
     unfold BJ;rw[zF (.inr h0)]
    obtain ⟨rfl,rfl,rfl⟩:fg=false/\fn=⟨#[48]⟩/\fd=⟨#[49]⟩:=by
     rw[h0,rq_zero]at ad;injection ad with a1 a2;injection a2 with a3 a4;exact⟨a1.symm,a3.symm,a4.symm⟩
    replace ad:=zh ad;replace h0:=zh h0
    go_region_held3 (fun w'=>w'.cell? ⟨kb,0,none⟩=some (.int .i64 (k:Int))/\w'.cell? ⟨fb,0,none⟩=some (.bool false)/\w'.cell? ⟨fb,1,none⟩=some (.string ⟨#[48]⟩)/\w'.cell? ⟨fb,2,none⟩=some (.string ⟨#[49]⟩)) (first|(with_reducible exact aX.o)|(exact⟨(d.cell (p:=⟨kb,0,none⟩) k2).trans k1,(d.cell (p:=⟨fb,0,none⟩) k3).trans g1,(d.cell (p:=⟨fb,1,none⟩) k3).trans g2,(d.cell (p:=⟨fb,2,none⟩) k3).trans g3⟩)|go_keep)
     (first
       |(go_at_call 82;refine(kz.o _).q fun w5 d=>?_;replace d:Below w4.heap.size w4 w5:=(zI _ w4).drew.trans d;have ai:=zh (aW.o.below d);have aZ:=zh (ak.o.below d);have a8:=zh (aV.o.below d);have al:=zh (a0.o.below d);have cR:=zh (aj.o.below d);have ah:=ag.t d))
    all_goals (
     go_wp2
     go_roundw
     case rel=>exact⟨i+1,by omega,by go_num,M3,aa,ai.o,hO,ah.o,a8.o,aZ.o,al.o⟩
     case measure=>simp[intOf];omega
     )
   have hz:(fn.toList==[48])=false:=by
    have:=SWq h0
    rwa [ad]at this
   replace ad:=zh ad
   go_region_held3 (fun w'=>w'.cell? ⟨kb,0,none⟩=some (.int .i64 (k:Int))/\w'.cell? ⟨fb,0,none⟩=some (.bool fg)/\w'.cell? ⟨fb,1,none⟩=some (.string fn)/\w'.cell? ⟨fb,2,none⟩=some (.string fd)) (first|(with_reducible exact aX.o)|(exact⟨(d.cell (p:=⟨kb,0,none⟩) k2).trans k1,(d.cell (p:=⟨fb,0,none⟩) k3).trans g1,(d.cell (p:=⟨fb,1,none⟩) k3).trans g2,(d.cell (p:=⟨fb,2,none⟩) k3).trans g3⟩)|go_keep)
    (first
      |(go_at_call 82;refine(kz.o _).q fun w5 d=>?_;replace d:Below w4.heap.size w4 w5:=(zI _ w4).drew.trans d;have ai:=zh (aW.o.below d);have aZ:=zh (ak.o.below d);have a8:=zh (aV.o.below d);have al:=zh (a0.o.below d);have cR:=zh (aj.o.below d);have ah:=ag.t d))
   clear g1 g2 g3 g4 g5 g6 k1 k2 k3 aX aW ak aV a0 ag aj h1 h2;have ae:=zh (ai.o.rows i hlt2);have bb:=zh (ai.o.low i hlt2);have bd:=zh (cR.o.ne_row ae.o (by omega));have a6:=zh (al.o.ne_row ae.o);have dE:=zh (aZ.o.ne_row ae.o);have dz:=zh (a8.o.ne_row ae.o);have dC:Hid (bl k≠bl i):=fun e=>hik.o (ai.o.inj k i hk hlt2 e).symm;have hS:=zh (ai.o.rows k hk);have dy:=zh ((EnvB.of hE.o).below ah.o);have bc:Hid (B3 w5 fb (rq (M3 i k)).1 (rq (M3 i k)).2.1 (rq (M3 i k)).2.2):=by rw[ad.o];exact cR.o
   have k1:=aZ.o.cell;have s4:¬n+1=k:=by omega
   cases af:I0 SQ n k i M3 with
   |true=>
    have cS:=(Fo SQ).1 af
    have kd:=zh (fun cap=>NC w.heap.size (bl i) k (n+1) cap (fun j=>M3 i j) (M3 i k) (fun j=>M3 k j) fb vb (bl k) (n+1-k) w5 dy.o bb.o ae.o (by omega) (by omega) bc.o bd.o al.o a6.o hS.o dC.o fun j a b=>by
     obtain⟨x1,x2,x3,x4⟩:=cS j a (by omega);exact⟨zL x1,zL x2,zL x3,zL x4⟩)
    have aa:Hid (AK SQ n k (i+1) M2=some (Dw k i M3)):=by
     show AK SQ n k (i+1) M2=some (Dw k i M3)
     unfold AK;rw[a9.o]
     show BJ SQ n k i M3=some (Dw k i M3)
     unfold BJ;rw[zE (by rintro(h|h);(· exact hik.o h);(· exact h0 h)),zF af]
    have dM:Hid (∀i' j,i'<n->j<=n->OkQ (Dw k i M3 i' j)):=fun i' j dD hj=>by
     unfold Dw
     split
     .rename_i hc;obtain⟨x1,x2,x3,x4⟩:=cS j hc.2 hj;exact ON (zL x3) (zL x4)
     exact hO.o i' j dD hj
    replace h0:=zh h0;clear cS af hz
    all_goals (
     go_wp2_with fail
     refine(kd.o _).q fun w6 ⟨hg,dF⟩=>?_;have cN:=zh (ah.o.trans (Ba hg bb.o ah.o.size))
     have dL:=zh (ai.o.change hlt2 hg (M':=Dw k i M3) (dF.congr fun j hj=>by
      unfold Dw
      by_cases a1:k<=j
      .rw[zF a1,zF ⟨rfl,a1⟩]
      rw[zE a1,zE fun h=>a1 h.2]) (fun i' dD dO=>by funext j;unfold Dw;rw[zE fun h=>dO h.1]))
     have dN:=zh (aZ.o.grown hg dE.o);have dK:=zh (a8.o.grown hg dz.o);have dP:=zh (al.o.grown hg a6.o);clear hg dF k1;go_wp2
     go_roundw
     case rel=>exact⟨i+1,by omega,by go_num,_,aa,dL,dM,cN,dK,dN,dP⟩
     case measure=>simp[intOf];omega
     )
   |false=>
    obtain⟨t,t1,t2,t3,t4⟩:=Qk af;have kd:=zh (fun cap=>ND w.heap.size (bl i) k (n+1) cap (fun j=>M3 i j) (M3 i k) (fun j=>M3 k j) fb vb (bl k) (n+1-k) w5 dy.o bb.o ae.o (by omega) (by omega) bc.o bd.o al.o a6.o hS.o dC.o t t1 (by omega) t3 t4 (fun j a b=>⟨hO.o i j hlt2 (by omega),hO.o k j hk (by omega)⟩) (hO.o i k hlt2 (by omega)))
    have aa:Hid (AK SQ n k n M2=none):=by
     refine Ql (i:=i+1) (by omega) ?_;unfold AK;rw[a9.o]
     show BJ SQ n k i M3=none
     unfold BJ;rw[zE (by rintro(h|h);(· exact hik.o h);(· exact h0 h)),zE (by rw[af];simp)]
    replace h0:=zh h0;clear t1 t2 t3 t4 af hz
    all_goals (
     go_wp2_with fail
     refine(kd.o _).q fun w6 hg=>?_;have cN:=zh (ah.o.trans (Ba hg bb.o ah.o.size));clear hg k1;go_wp2;apply hr.o
     .exact cN.o
     .exact aa.o
     )
  obtain rfl:n=i:=by omega
  go_wp2;apply hx.o;exact hI.o
def Bl:Code->List Code
 |.loop c=>Bl c
 |.seq a b=>Bl a++Bl b
 |.block _ c=>Bl c
 |.scope c=>Bl c
 |.cond _ a b=>Bl a++Bl b
 |.region a b c=>[.region a b c]
 |_=>[]
noncomputable def Yh:Code:=((Tryz.f39.body.map Bl).bind fun l=>l[20]?).getD .skip
theorem Gm{w:World}{p q:Addr}{x y:Value}(hp:w.cell? p=some x)(hq:w.cell? q=some y)(v:Value):∃u,(w.setCell p v).cell? q=some u:=by
 by_cases e:q=p
 .rw[e];exact⟨v,xN w _ _ hp⟩
 exact⟨y,(yu w _ _ _ (fun e2=>e (by first|exact e2|exact e2.symm))).trans hq⟩
theorem Tb{c0 d1 d2 d3 d4 d5 c6 c8 bf bg bh bi bj bk bm bn bo bp bq br bs bt bu bv bw bx bz bA bB bC bD bE bF bG bH bI bJ bK bL bM bN bO bP bQ bR bS bT bU bW bX bY bZ b0 b1 b2 b3 b4 b5 b6 b7 b8 b9 cb cd cf cg ch ci cj ck cm cn cq cr ct cu cx cy cz cA cB cD cE cF cG cH cI cJ cK cL cM cN cP cR cS cT cU bd be ae af ag ah ai aj ak al am an ao ap aq ar au av aw ax ay az aA aB aC aD aE aF aG aH aI aJ aK aL aM aN aO aP aQ aR aS aT aU aV aW aX aY aZ a0 a1 a2 a3 a4 a5 a6 a7 a8 a9 ba bb bc:Value}{Q:Exit->Act->World->Prop}(R n k f kb:Nat)(bl:Nat->Nat)(w3:World)
 (c1:w3.cell? ⟨kb,0,none⟩=some (.int .i64 (k:Int)))
 (c2:w3.cell? ⟨R,k+f,none⟩=some (.slice (some ⟨bl (k+f),0,none⟩) (n+1) (n+1)))
 (c3:w3.cell? ⟨R,k,none⟩=some (.slice (some ⟨bl k,0,none⟩) (n+1) (n+1)))
 (c4:w3.frozen? ⟨R,k+f,none⟩=false)(c5:w3.frozen? ⟨R,k,none⟩=false)
 (cC:kb≠R)(cX:n<=8)(cW:k<n)(cY:k+f<n)
 (h:∀u84 u85 u86 u87 u88 u89 u90 u91 u92 u93 u94 u95 u96 u97 u98 u99 u100 u101:Value,Q .normal ⟨#[c0,d1,d2,d3,d4,d5,c6,.slice (some ⟨R,0,none⟩) n n,c8,.pointer (some ⟨kb,0,none⟩),.int .i64 (f:Int),bf,bg,bh,bi,bj,bk,bm,bn,bo,bp,bq,br,bs,bt,bu,bv,bw,bx,bz,bA,bB,bC,bD,bE,bF,bG,bH,bI,bJ,bK,bL,bM,bN,bO,bP,bQ,bR,bS,bT,bU,bW,bX,bY,bZ,b0,b1,b2,b3,b4,b5,b6,b7,b8,b9,cb,cd,cf,cg,ch,ci,cj,ck,cm,cn,cq,cr,ct,cu,cx,cy,cz,cA,cB,u84,u85,u86,u87,u88,u89,u90,u91,u92,u93,u94,u95,u96,u97,u98,u99,u100,u101,ae,af,ag,ah,ai,aj,ak,al,am,an,ao,ap,aq,ar,au,av,aw,ax,ay,az,aA,aB,aC,aD,aE,aF,aG,aH,aI,aJ,aK,aL,aM,aN,aO,aP,aQ,aR,aS,aT,aU,aV,aW,aX,aY,aZ,a0,a1,a2,a3,a4,a5,a6,a7,a8,a9,ba,bb,bc],[]⟩ (((w3.setCell ⟨R,k,none⟩ (.slice (some ⟨bl (k+f),0,none⟩) (n+1) (n+1))).setCell ⟨R,k+f,none⟩ (.slice (some ⟨bl k,0,none⟩) (n+1) (n+1))).drew)):
 Code.wp prog Yh Q ⟨#[c0,d1,d2,d3,d4,d5,c6,.slice (some ⟨R,0,none⟩) n n,c8,.pointer (some ⟨kb,0,none⟩),.int .i64 (f:Int),bf,bg,bh,bi,bj,bk,bm,bn,bo,bp,bq,br,bs,bt,bu,bv,bw,bx,bz,bA,bB,bC,bD,bE,bF,bG,bH,bI,bJ,bK,bL,bM,bN,bO,bP,bQ,bR,bS,bT,bU,bW,bX,bY,bZ,b0,b1,b2,b3,b4,b5,b6,b7,b8,b9,cb,cd,cf,cg,ch,ci,cj,ck,cm,cn,cq,cr,ct,cu,cx,cy,cz,cA,cB,cD,cE,cF,cG,cH,cI,cJ,cK,cL,cM,cN,cP,cR,cS,cT,cU,bd,be,ae,af,ag,ah,ai,aj,ak,al,am,an,ao,ap,aq,ar,au,av,aw,ax,ay,az,aA,aB,aC,aD,aE,aF,aG,aH,aI,aJ,aK,aL,aM,aN,aO,aP,aQ,aR,aS,aT,aU,aV,aW,aX,aY,aZ,a0,a1,a2,a3,a4,a5,a6,a7,a8,a9,ba,bb,bc],[]⟩ w3:=by
 have s0:(0:Int)<=(f:Int):=by omega
 have s7:(0:Int)<=(k:Int):=by omega
 have s1:(0:Int)<=(k:Int)+(f:Int):=by omega
 have s2:(k:Int)+(f:Int)<(n:Int):=by omega
 have s3:(k:Int)<(n:Int):=by omega
 have s4:IntKind.i64.wrap ((k:Int)+(f:Int))=(k:Int)+(f:Int):=wN _ (by omega);have s5:((k:Int)+(f:Int)).toNat=k+f:=by omega
 obtain⟨v1,cZ⟩:∃u,(w3.setCell ⟨R,k,none⟩ (.slice (some ⟨bl (k+f),0,none⟩) (n+1) (n+1))).cell? ⟨R,k+f,none⟩=some u:=Gm c3 c2 _;obtain⟨v2,c9⟩:∃u,(w3.setCell ⟨R,k+f,none⟩ (.slice (some ⟨bl k,0,none⟩) (n+1) (n+1))).cell? ⟨R,k,none⟩=some u:=Gm c2 c3 _
 conv=>arg 2;whnf
 conv=>arg 4;zeta
 replace h:=zh h;have y1:(w3.setCell ⟨R,k,none⟩ (.slice (some ⟨bl (k+f),0,none⟩) (n+1) (n+1))).cell? ⟨kb,0,none⟩=some (.int .i64 (k:Int)):=(yu w3 _ _ _ (fun e=>cC (congrArg Addr.block e).symm)).trans c1;have y2:((w3.setCell ⟨R,k,none⟩ (.slice (some ⟨bl (k+f),0,none⟩) (n+1) (n+1))).setCell ⟨R,k+f,none⟩ (.slice (some ⟨bl k,0,none⟩) (n+1) (n+1))).cell? ⟨kb,0,none⟩=some (.int .i64 (k:Int)):=(yu _ _ _ _ (fun e=>cC (congrArg Addr.block e).symm)).trans y1;have cV:Hid (w3.cell? ⟨kb,0,none⟩=some (.int .i64 (k:Int))/\(w3.setCell ⟨R,k,none⟩ (.slice (some ⟨bl (k+f),0,none⟩) (n+1) (n+1))).cell? ⟨kb,0,none⟩=some (.int .i64 (k:Int))/\((w3.setCell ⟨R,k,none⟩ (.slice (some ⟨bl (k+f),0,none⟩) (n+1) (n+1))).setCell ⟨R,k+f,none⟩ (.slice (some ⟨bl k,0,none⟩) (n+1) (n+1))).cell? ⟨kb,0,none⟩=some (.int .i64 (k:Int))):=⟨c1,y1,y2⟩;have z0:w3.drew.cell? ⟨kb,0,none⟩=some (.int .i64 (k:Int)):=c1;have z1:(w3.setCell ⟨R,k,none⟩ (.slice (some ⟨bl (k+f),0,none⟩) (n+1) (n+1))).drew.cell? ⟨kb,0,none⟩=some (.int .i64 (k:Int)):=y1;have z2:((w3.setCell ⟨R,k,none⟩ (.slice (some ⟨bl (k+f),0,none⟩) (n+1) (n+1))).setCell ⟨R,k+f,none⟩ (.slice (some ⟨bl k,0,none⟩) (n+1) (n+1))).drew.cell? ⟨kb,0,none⟩=some (.int .i64 (k:Int)):=y2;clear y1 y2;refine xR ?_;refine xG (S:=(fun w'=>w'.cell? ⟨kb,0,none⟩=some (.int .i64 (k:Int)))) (by kernel_rfl) z0 (fun ad=>?_);refine tkhC (v:=?_) 0 rfl (by assumption) (Or.inl ⟨by rfl,?_⟩) ?_;rotate_left
 . (intro w aa;(try dsimp only at aa);go_simp<;>with_reducible rfl)
 simp only[Act.put,zA];refine tkhC (v:=?_) 1 rfl (by assumption) (Or.inl ⟨by rfl,?_⟩) ?_;rotate_left
 . (intro w aa;(try dsimp only at aa);go_simp<;>with_reducible rfl)
 simp only[Act.put];refine tkhC (v:=?_) 2 rfl (by assumption) (Or.inl ⟨by rfl,?_⟩) ?_;rotate_left
 . (intro w aa;(try dsimp only at aa);go_simp<;>with_reducible rfl)
 simp only[Act.put];refine tkhC (v:=?_) 3 rfl (by assumption) (Or.inl ⟨by rfl,?_⟩) ?_;rotate_left
 . (intro w aa;(try dsimp only at aa);go_simp<;>with_reducible rfl)
 simp only[Act.put];refine tkhC (v:=?_) 4 rfl (by assumption) (Or.inl ⟨by rfl,?_⟩) ?_;rotate_left
 . (intro w aa;(try dsimp only at aa);go_simp<;>with_reducible rfl)
 simp only[Act.put];refine tkhC (v:=?_) 5 rfl (by assumption) (Or.inl ⟨by rfl,?_⟩) ?_;rotate_left
 . (intro w aa;(try dsimp only at aa);go_simp<;>with_reducible rfl)
 simp only[Act.put];refine tkhC (v:=?_) 6 rfl (by assumption) (Or.inl ⟨by rfl,?_⟩) ?_;rotate_left
 . (intro w aa;(try dsimp only at aa);go_simp<;>with_reducible rfl)
 simp only[Act.put];refine tkhC (v:=?_) 7 rfl (by assumption) (Or.inl ⟨by rfl,?_⟩) ?_;rotate_left
 . (intro w aa;(try dsimp only at aa);go_simp<;>with_reducible rfl)
 simp only[Act.put];refine tkhC (v:=?_) 8 rfl (by assumption) (Or.inl ⟨by rfl,?_⟩) ?_;rotate_left
 . (intro w aa;(try dsimp only at aa);go_simp<;>with_reducible rfl)
 simp only[Act.put];refine tkhC (v:=?_) 9 rfl (by assumption) (Or.inl ⟨by rfl,?_⟩) ?_;rotate_left
 . (intro w aa;(try dsimp only at aa);go_simp<;>with_reducible rfl)
 simp only[Act.put];refine tkhC (v:=?_) 10 rfl (by assumption) (Or.inl ⟨by rfl,?_⟩) ?_;rotate_left
 . (intro w aa;(try dsimp only at aa);go_simp<;>with_reducible rfl)
 simp only[Act.put];refine tkhC (v:=?_) 12 rfl (by assumption) (Or.inl ⟨by rfl,?_⟩) ?_;rotate_left
 . (intro w aa;(try dsimp only at aa);go_simp<;>with_reducible rfl)
 simp only[Act.put];refine tkhC (v:=?_) 13 rfl (by assumption) (Or.inl ⟨by rfl,?_⟩) ?_;rotate_left
 . (intro w aa;(try dsimp only at aa);go_simp<;>with_reducible rfl)
 simp only[Act.put];refine tkhC (v:=?_) 14 rfl (by assumption) (Or.inl ⟨by rfl,?_⟩) ?_;rotate_left
 . (intro w aa;(try dsimp only at aa);go_simp<;>with_reducible rfl)
 simp only[Act.put];refine zT (rs:=[11,15]) (by kernel_rfl) (by simp) ?_;refine zK (o:=_) rfl (fun K hK=>?_) ?_
 .go_simp;refine hK.o _ _ (by with_reducible exact z0) (fun d=>?_);clear hK K ad;have ad:=d;clear d
  try simp only[Act.put,zA,zD,zC]
  refine zT (rs:=[15]) (by kernel_rfl) (by simp) ?_;refine zK (o:=_) rfl (fun K hK=>?_) ?_
  .go_simp;refine hK.o _ _ (by with_reducible exact z0) (fun d=>?_);clear hK K ad;have ad:=d;clear d
   try simp only[Act.put,zA,zD,zC]
   refine tkhC (v:=?_) 16 rfl (by assumption) (Or.inl ⟨by rfl,?_⟩) ?_;rotate_left
   . (intro w aa;(try dsimp only at aa);go_simp<;>with_reducible rfl)
   simp only[Act.put,zA];refine zT (rs:=[17]) (by kernel_rfl) (by simp) ?_;refine zK (o:=_) rfl (fun K hK=>?_) ?_
   .go_simp;refine hK.o _ _ (by with_reducible exact z1) (fun d=>?_);clear hK K ad;have ad:=d;clear d
    try simp only[Act.put,zA,zD,zC]
    refine tkhC (v:=?_) 18 rfl (by assumption) (Or.inl ⟨by rfl,?_⟩) ?_;rotate_left
    . (intro w aa;(try dsimp only at aa);go_simp<;>with_reducible rfl)
    simp only[Act.put,zA];refine zT (rs:=[19]) (by kernel_rfl) (by simp) ?_;refine zK (o:=_) rfl (fun K hK=>?_) ?_
    .go_simp;refine hK.o _ _ (by with_reducible exact z2) (fun d=>?_);clear hK K ad;have ad:=d;clear d
     try simp only[Act.put,zA,zD,zC]
     refine xJ (by kernel_rfl) ?_ _;refine yx ?_;exact h.o ..
    exact zR
   exact zR
  exact zR
 refine zK (o:=_) rfl (fun K hK=>?_) ?_
 .go_simp;refine hK.o _ _ (by with_reducible exact z0) (fun d=>?_);clear hK K ad;have ad:=d;clear d
  try simp only[Act.put,zA,zD,zC]
  refine zT (rs:=[11]) (by kernel_rfl) (by simp) ?_;refine zK (o:=_) rfl (fun K hK=>?_) ?_
  .go_simp;refine hK.o _ _ (by with_reducible exact z0) (fun d=>?_);clear hK K ad;have ad:=d;clear d
   try simp only[Act.put,zA,zD,zC]
   refine tkhC (v:=?_) 16 rfl (by assumption) (Or.inl ⟨by rfl,?_⟩) ?_;rotate_left
   . (intro w aa;(try dsimp only at aa);go_simp<;>with_reducible rfl)
   simp only[Act.put,zA];refine zT (rs:=[17]) (by kernel_rfl) (by simp) ?_;refine zK (o:=_) rfl (fun K hK=>?_) ?_
   .go_simp;refine hK.o _ _ (by with_reducible exact z1) (fun d=>?_);clear hK K ad;have ad:=d;clear d
    try simp only[Act.put,zA,zD,zC]
    refine tkhC (v:=?_) 18 rfl (by assumption) (Or.inl ⟨by rfl,?_⟩) ?_;rotate_left
    . (intro w aa;(try dsimp only at aa);go_simp<;>with_reducible rfl)
    simp only[Act.put,zA];refine zT (rs:=[19]) (by kernel_rfl) (by simp) ?_;refine zK (o:=_) rfl (fun K hK=>?_) ?_
    .go_simp;refine hK.o _ _ (by with_reducible exact z2) (fun d=>?_);clear hK K ad;have ad:=d;clear d
     try simp only[Act.put,zA,zD,zC]
     refine xJ (by kernel_rfl) ?_ _;refine yx ?_;exact h.o ..
    exact zR
   exact zR
  exact zR
 exact zR
noncomputable def Yi:Code:=((Tryz.f39.body.map Dc).bind fun l=>l[1]?).getD .skip
def NI(w:World)(R n:Nat)(M0:Mx)(y:Nat)(wq:World):Prop :=
 ∃(bl:Nat->Nat)(M:Mx),Hid (AB SQ n y M0=.ok M)/\Hid (MatW wq w.heap.size R n bl M)/\Hid (∀i j,i<n->j<=n->OkQ (M i j))/\Hid (Below w.heap.size w wq)/\Hid (Int1 wq w.heap.size n)
theorem NJ{c0 c1 c2 c3 c6 c8 aT aU aV aW aX aY aZ a0 a1 a2 a3 a6 a7 a8 ba bb bc bd be bf bg bh bi bj bk bm bn bo bp bq br bs bt bu bv bw bx bz bA bB bC bD bE bF bG bH bI bJ bK bL bM bN bO bP bQ aj ak al am an ao ap aq ar au av aw ax ay az a4 a5 a9 dS dT dU dV dW dX dY a17 dZ d0 d1 a78 a79 d2 d3 d4 d5 d6 d7 d8 d9 ea a89 eb ec ed ee ef eg eh ei ej ek cb cd cf cg ch ci cj ck cm cn cq cr ct cu cx cy cz cA cB cC cD cE cF cG cH cI cJ cK cL cM cN cP cR cS cT cU cV cW cX cY cZ c9 da db dc dd:Value}{Q:Exit->Act->World->Prop}(R n:Nat)(M0:Mx)(w w0:World)(hE:Env w)(dj:n<=8)(b6:w.heap.size≠R)(aI:NI w R n M0 0 w0)
 (hx:∀(u4 u5 u9 u10 u11 u12 u13 u14 u15 u16 u17 u74 u75 u76 u77 u78 u79 u80 u81 u82 u83 u84 u85 u86 u87 u88 u89 u90 u91 u92 u93 u94 u95 u96 u97 u98 u99 u100 u101 u102 u103 u104 u105 u106 u107 u108 u109 u110 u111 u112 u113 u114 u115 u116 u117 u118 u119 u120 u121 u122 u123 u124 u125 u126 u127 u128 u129 u130 u131 u132 u133 u134 u135 u136 u137 u138 u139 u140 u141 u142 u143 u144 u145:Value) (wq:World),NI w R n M0 n wq->Q (.exit 2) ⟨#[c0,c1,c2,c3,u4,u5,c6,.slice (some ⟨R,0,none⟩) n n,c8,u9,u10,u11,u12,u13,u14,u15,u16,u17,aT,aU,aV,aW,aX,aY,aZ,a0,a1,a2,a3,a6,a7,a8,ba,bb,bc,bd,be,bf,bg,bh,bi,bj,bk,bm,bn,bo,bp,bq,br,bs,bt,bu,bv,bw,bx,bz,bA,bB,bC,bD,bE,bF,bG,bH,bI,bJ,bK,bL,bM,bN,bO,bP,bQ,.int .i64 (n:Int),u74,u75,u76,u77,u78,u79,u80,u81,u82,u83,u84,u85,u86,u87,u88,u89,u90,u91,u92,u93,u94,u95,u96,u97,u98,u99,u100,u101,u102,u103,u104,u105,u106,u107,u108,u109,u110,u111,u112,u113,u114,u115,u116,u117,u118,u119,u120,u121,u122,u123,u124,u125,u126,u127,u128,u129,u130,u131,u132,u133,u134,u135,u136,u137,u138,u139,u140,u141,u142,u143,u144,u145,aj,ak,al,am,an,ao,ap,aq,ar,au,av,aw,ax,ay,az],[]⟩ wq)
 (hr:∀(er:Int)(u9 u10 u11 u12 u13 u14 u15 u16 u17 u74 u75 u76 u77 u78 u79 u80 u81 u82 u83 u84 u85 u86 u87 u88 u89 u90 u91 u92 u93 u94 u95 u96 u97 u98 u99 u100 u101 u102 u103 u104 u105 u106 u107 u108 u109 u110 u111 u112 u113 u114 u115 u116 u117 u118 u119 u120 u121 u122 u123 u124 u125 u126 u127 u128 u129 u130 u131 u132 u133 u134 u135 u136 u137 u138 u139 u140 u141 u142 u143 u144 u145:Value)(wq:World),Below w.heap.size w wq->AB SQ n n M0=.error er->Q .ret ⟨#[c0,c1,c2,c3,.slice none 0 0,.int .i64 er,c6,.slice (some ⟨R,0,none⟩) n n,c8,u9,u10,u11,u12,u13,u14,u15,u16,u17,aT,aU,aV,aW,aX,aY,aZ,a0,a1,a2,a3,a6,a7,a8,ba,bb,bc,bd,be,bf,bg,bh,bi,bj,bk,bm,bn,bo,bp,bq,br,bs,bt,bu,bv,bw,bx,bz,bA,bB,bC,bD,bE,bF,bG,bH,bI,bJ,bK,bL,bM,bN,bO,bP,bQ,.int .i64 (n:Int),u74,u75,u76,u77,u78,u79,u80,u81,u82,u83,u84,u85,u86,u87,u88,u89,u90,u91,u92,u93,u94,u95,u96,u97,u98,u99,u100,u101,u102,u103,u104,u105,u106,u107,u108,u109,u110,u111,u112,u113,u114,u115,u116,u117,u118,u119,u120,u121,u122,u123,u124,u125,u126,u127,u128,u129,u130,u131,u132,u133,u134,u135,u136,u137,u138,u139,u140,u141,u142,u143,u144,u145,aj,ak,al,am,an,ao,ap,aq,ar,au,av,aw,ax,ay,az],[]⟩ wq):
 Code.wp prog (Code.loop Yi) Q ⟨#[c0,c1,c2,c3,a4,a5,c6,.slice (some ⟨R,0,none⟩) n n,c8,a9,dS,dT,dU,dV,dW,dX,dY,a17,aT,aU,aV,aW,aX,aY,aZ,a0,a1,a2,a3,a6,a7,a8,ba,bb,bc,bd,be,bf,bg,bh,bi,bj,bk,bm,bn,bo,bp,bq,br,bs,bt,bu,bv,bw,bx,bz,bA,bB,bC,bD,bE,bF,bG,bH,bI,bJ,bK,bL,bM,bN,bO,bP,bQ,.int .i64 (n:Int),.int .i64 0,dZ,d0,d1,a78,a79,d2,d3,d4,d5,d6,d7,d8,d9,ea,a89,eb,ec,ed,ee,ef,eg,eh,ei,ej,ek,cb,cd,cf,cg,ch,ci,cj,ck,cm,cn,cq,cr,ct,cu,cx,cy,cz,cA,cB,cC,cD,cE,cF,cG,cH,cI,cJ,cK,cL,cM,cN,cP,cR,cS,cT,cU,cV,cW,cX,cY,cZ,c9,da,db,dc,dd,aj,ak,al,am,an,ao,ap,aq,ar,au,av,aw,ax,ay,az],[]⟩ w0:=by
 conv=>arg 2;arg 1;whnf
 conv=>arg 4;zeta
 replace hE:=zh hE;replace aI:=zh aI;replace hx:=zh hx;replace hr:=zh hr;replace b6:=zh b6
 go_loopw [74] (fun i wq=>∃y:Nat,y<=n/\i=.int .i64 (y:Int)/\Hid (NI w R n M0 y wq)) (fun i _=>n-(intOf i).toNat)
 case atStart=>exact⟨0,zS _,rfl,aI.o⟩
 case round=>
  obtain⟨k,hk,rfl,hI⟩:=hrel;have em:=hI.o;obtain⟨bl,M,hS,hM,hO,af,dh⟩:=em
  by_cases hlt:k<n
  .have b5:Hid (Int1 (wr.alloc (.cells #[.int .i64 (k:Int)] 3)) wr.heap.size k):=Int1.new wr k;have bX:=zh (hM.o.alloc (.cells #[.int .i64 (k:Int)] 3));have kx:=zh (fun c=>SX w.heap.size R n k c wr.heap.size bl M (wr.alloc (.cells #[.int .i64 (k:Int)] 3)) hlt (by omega) bX.o b5.o);have k0:(0:Int)<=(k:Int):=by omega
   have k1:(k:Int)<=(n:Int):=by omega
   have k2:¬n=k:=by omega
   cases hp:CX n k M (n-k) with
   |none=>
    have aG:Jq n k M=-1:=by unfold Jq;rw[hp]
    have ae:CY SQ n k M=.error 12:=by unfold CY;rw[hp]
    have aB:=zh (GI hS.o ae hlt);replace kx:=kx.o;rw[aG]at kx;replace kx:=zh kx;clear hp aG ae
    go_wp2_with fail
    refine(kx.o _).q fun w3 hb=>?_;have aK:=zh ((af.o.alloc af.o.size _).trans (hb.mono (af.o.alloc af.o.size _).size));clear hb;go_wp2;apply hr.o 12
    .exact aK.o
    exact aB.o
   |some p=>
    obtain⟨eD,aQ,aR,_⟩:=FQ (by omega) hp;obtain⟨f,rfl⟩:∃f,p=k+f:=⟨p-k,by omega⟩;have aG:Jq n k M=(f:Int):=by unfold Jq;rw[hp];show ((k+f-k:Nat):Int)=f;rw[Nat.add_sub_cancel_left]
    replace kx:=kx.o;rw[aG]at kx;replace kx:=zh kx;replace hp:=zh hp;replace aR:=zh aR;clear aG
    go_wp2_with fail
    refine(kx.o _).q fun w3 hb=>?_;have aK:=zh ((af.o.alloc af.o.size _).trans (hb.mono (af.o.alloc af.o.size _).size));have ad:=zh (bX.o.below hb);have b0:=zh (b5.o.below hb);have de:=zh ((dh.o.alloc (.cells #[.int .i64 (k:Int)] 3)).below hb);clear hb;have c1:=b0.o.cell;have c2:=ad.o.hd (k+f) aQ;have c3:=ad.o.hd k hlt;have c4:=ad.o.fr (k+f);have c5:=ad.o.fr k;have c6:=ad.o.lt;have s0:(0:Int)<=(f:Int):=by omega
    have s1:(0:Int)<=(k:Int)+(f:Int):=by omega
    have s2:(k:Int)+(f:Int)<(n:Int):=by omega
    have s3:(k:Int)<(n:Int):=by omega
    have s4:IntKind.i64.wrap ((k:Int)+(f:Int))=(k:Int)+(f:Int):=wN _ (by omega);have s5:((k:Int)+(f:Int)).toNat=k+f:=by omega
    have b4:wr.heap.size≠R:=vd hM.o.lt;obtain⟨u1,et⟩:∃u,(w3.setCell ⟨R,k,none⟩ (.slice (some ⟨bl (k+f),0,none⟩) (n+1) (n+1))).cell? ⟨R,k+f,none⟩=some u:=Gm c3 c2 _;obtain⟨u2,eu⟩:∃u,(w3.setCell ⟨R,k+f,none⟩ (.slice (some ⟨bl k,0,none⟩) (n+1) (n+1))).cell? ⟨R,k,none⟩=some u:=Gm c2 c3 _
    go_wp2_with fail
    refine Tb R n k f wr.heap.size bl w3 c1 c2 c3 c4 c5 b4 dj hlt aQ ?_;intro eF eG eH eI eJ eK eL eM eN eO eP eQ eR eS eT eU eA eB;have aO:Hid (wr.heap.size≠R/\w.heap.size≠R):=⟨b4,b6.o⟩;have aC:Hid (MatW (((w3.setCell ⟨R,k,none⟩ (.slice (some ⟨bl (k+f),0,none⟩) (n+1) (n+1))).setCell ⟨R,k+f,none⟩ (.slice (some ⟨bl k,0,none⟩) (n+1) (n+1))).drew) w.heap.size R n (Hj k (k+f) bl) (Bt k (k+f) M)):=(ad.o.swap hlt aQ).drew;have aE:Hid (Int1 (((w3.setCell ⟨R,k,none⟩ (.slice (some ⟨bl (k+f),0,none⟩) (n+1) (n+1))).setCell ⟨R,k+f,none⟩ (.slice (some ⟨bl k,0,none⟩) (n+1) (n+1))).drew) wr.heap.size k):=(b0.o.far (p:=⟨R,k,none⟩) aO.o.1 _).far (p:=⟨R,k+f,none⟩) aO.o.1 _;have bR:Hid (Int1 (((w3.setCell ⟨R,k,none⟩ (.slice (some ⟨bl (k+f),0,none⟩) (n+1) (n+1))).setCell ⟨R,k+f,none⟩ (.slice (some ⟨bl k,0,none⟩) (n+1) (n+1))).drew) w.heap.size n):=(de.o.far (p:=⟨R,k,none⟩) aO.o.2 _).far (p:=⟨R,k+f,none⟩) aO.o.2 _;have aL:Hid (Below w.heap.size w (((w3.setCell ⟨R,k,none⟩ (.slice (some ⟨bl (k+f),0,none⟩) (n+1) (n+1))).setCell ⟨R,k+f,none⟩ (.slice (some ⟨bl k,0,none⟩) (n+1) (n+1))).drew)):=((aK.o.setCell ad.o.lowR _).setCell ad.o.lowR _).drew;obtain⟨w4,dl⟩:∃W,W=((w3.setCell ⟨R,k,none⟩ (.slice (some ⟨bl (k+f),0,none⟩) (n+1) (n+1))).setCell ⟨R,k+f,none⟩ (.slice (some ⟨bl k,0,none⟩) (n+1) (n+1))).drew:=⟨_,rfl⟩;rw[<-dl]at aC aE bR aL ⊢;clear dl et eu c1 c2 c3 c4 c5 c6 s0 s1 s2 s4 s5 b4 ad b0 de aK bX b5 kx
    have aN:Hid (∀i j,i<n->j<=n->OkQ (Bt k (k+f) M i j)):=fun i j hi hj=>by
     unfold Bt
     split
     .exact hO.o _ _ aQ hj
     split
     .exact hO.o _ _ hlt hj
     exact hO.o _ _ hi hj
    have ai:Bt k (k+f) M k k≠0:=by unfold Bt;rw[zF rfl];exact aR.o
    have ae:CY SQ n k M=if Iz SQ n k (Bt k (k+f) M)=true then (match AK SQ n k n (Bj k (Bt k (k+f) M)) with|some M'=>.ok M' | none=>.error 2) else .error 2:=by
     unfold CY;rw[hp.o];try rfl
    replace ae:=zh ae;generalize Bt k (k+f) M=M1 at *;generalize Hj k (k+f) bl=d at *;replace ai:=zh ai;clear aR hp u1 u2;have c1:=aE.o.cell;have c2:=aC.o.hd k hlt;have c3:=aC.o.lt;have c4:=aE.o.lt;have s0:(k:Int)<=(n:Int)+1:=by omega
    have s1:¬n+1=k:=by omega
    have di:Hid (w4.cell? ⟨wr.heap.size,0,none⟩=some (.int .i64 (k:Int))/\w4.cell? ⟨R,k,none⟩=some (.slice (some ⟨d k,0,none⟩) (n+1) (n+1))):=⟨c1,c2⟩
    go_wp2_with fail
    go_region_held3 (fun w'=>w'.cell? ⟨wr.heap.size,0,none⟩=some (.int .i64 (k:Int))/\w'.cell? ⟨R,k,none⟩=some (.slice (some ⟨d k,0,none⟩) (n+1) (n+1))) (first|(with_reducible exact di.o)|go_keep) (fail)
    have aJ:Hid (Blk1 (w4.alloc (.cells #[.slice (some ⟨d k,k*3,none⟩) (n+1-k) (n+1-k)] 39)).drew w4.heap.size (.slice (some ⟨d k,k*3,none⟩) (n+1-k) (n+1-k))):=ym w4 _;have aD:Hid (MatW (w4.alloc (.cells #[.slice (some ⟨d k,k*3,none⟩) (n+1-k) (n+1-k)] 39)).drew w.heap.size R n d M1):=(aC.o.alloc _).drew;have b1:Hid (Int1 (w4.alloc (.cells #[.slice (some ⟨d k,k*3,none⟩) (n+1-k) (n+1-k)] 39)).drew wr.heap.size k):=aE.o.alloc _;have bS:Hid (Int1 (w4.alloc (.cells #[.slice (some ⟨d k,k*3,none⟩) (n+1-k) (n+1-k)] 39)).drew w.heap.size n):=bR.o.alloc _;have aM:Hid (Below w.heap.size w (w4.alloc (.cells #[.slice (some ⟨d k,k*3,none⟩) (n+1-k) (n+1-k)] 39)).drew):=(aL.o.alloc aL.o.size _).drew;obtain⟨w5,dq⟩:∃W,W=(w4.alloc (.cells #[.slice (some ⟨d k,k*3,none⟩) (n+1-k) (n+1-k)] 39)).drew:=⟨_,rfl⟩;rw[<-dq]at aJ aD b1 bS aM ⊢;clear dq aC aE bR aL c1 c2 c3 c4 s0 di hM af dh;generalize w4.heap.size=vb at *;generalize wr.heap.size=kb at *;obtain⟨pg,pn,pd,aH⟩:=CS (M1 k k);have e0:=(aD.o.rows k hlt).cell (j:=k) (by omega);rw[aH]at e0;obtain⟨e1,e2,e3⟩:=e0;have e4:=(aD.o.rows k hlt).lt;have v1:=aJ.o.cell;have v2:=aJ.o.lt;have v3:0<n+1-k:=by omega
    replace aH:=zh aH;have aa:=zh (aD.o.alloc (.cells #[.bool pg,.string pn,.string pd] 48));have b2:=zh (b1.o.alloc (.cells #[.bool pg,.string pn,.string pd] 48));have bT:=zh (bS.o.alloc (.cells #[.bool pg,.string pn,.string pd] 48));have b8:=zh (aJ.o.alloc (.cells #[.bool pg,.string pn,.string pd] 48));have ag:=zh (aM.o.alloc aM.o.size (.cells #[.bool pg,.string pn,.string pd] 48));have aS:Hid (B3 (w5.alloc (.cells #[.bool pg,.string pn,.string pd] 48)) w5.heap.size (rq (M1 k k)).1 (rq (M1 k k)).2.1 (rq (M1 k k)).2.2):=by rw[aH.o];exact B3.new w5 _ _ _
    have b7:=zh (aS.o.ne_row (aa.o.rows k hlt) (by omega))
    cases hd:Iz SQ n k M1 with
    |false=>
     obtain⟨t,t1,t2,t3,t4⟩:=Qj hd;have kd:=zh (fun c=>NA w.heap.size (d k) k (n+1) c (fun j=>M1 k j) (M1 k k) w5.heap.size _ ((EnvB.of hE.o).below ag.o) (aa.o.low k hlt) (aa.o.rows k hlt) (by omega) (by omega) aS.o b7.o ai.o t t1 (by omega) t3 t4 (fun j _ h2=>aN.o k j hlt (by omega)) (aN.o k k hlt (by omega)));rw[hd,zE (by simp)]at ae;have aB:=zh (GI hS.o ae.o hlt);have aP:=zh (aa.o.low k hlt);clear t1 t2 t3 t4 hd
     go_wp2_with fail
     refine(kd.o _).q fun w7 hg=>?_;have aA:=zh (ag.o.trans (Ba hg aP.o ag.o.size));clear hg e1 e2 e3 e4 v1 v2;go_wp2;apply hr.o 2
     .exact aA.o
     exact aB.o
    |true=>
     have aF:=(Fnq SQ).1 hd;have kd:=zh (fun c=>N9 w.heap.size (d k) k (n+1) c (fun j=>M1 k j) (M1 k k) w5.heap.size _ ((EnvB.of hE.o).below ag.o) (aa.o.low k hlt) (aa.o.rows k hlt) (by omega) (by omega) aS.o b7.o ai.o fun j h1 h2=>⟨zL (aF j h1 (by omega)).1,zL (aF j h1 (by omega)).2⟩);rw[hd,zF rfl]at ae
     have bY:Hid (∀i j,i<n->j<=n->OkQ (Bj k M1 i j)):=fun i j hi hj=>by
      unfold Bj
      split
      .rename_i hc;exact OO (zL (aF j hc.2 hj).1) (zL (aF j hc.2 hj).2) ai.o
      exact aN.o i j hi hj
     have aP:=zh (aa.o.low k hlt);clear hd aF
     go_wp2_with fail
     refine(kd.o _).q fun w7 ⟨hg,hr⟩=>?_;have aA:=zh (ag.o.trans (Ba hg aP.o ag.o.size))
     have bW:=zh (aa.o.change hlt hg (M':=Bj k M1) (hr.congr fun j hj=>by
      unfold Bj
      by_cases h1:k<=j
      .rw[zF h1,zF ⟨rfl,h1⟩]
      rw[zE h1,zE fun h=>h1 h.2]) (fun i hi es=>by funext j;unfold Bj;rw[zE fun h=>es h.1]))
     have b3:=zh (b2.o.grown hg (b2.o.ne_row (aa.o.rows k hlt)));have bU:=zh (bT.o.grown hg (bT.o.ne_row (aa.o.rows k hlt)));have b9:=zh (b8.o.grown hg (b8.o.ne_row (aa.o.rows k hlt)));clear hg hr e1 e2 e3 e4 v1 v2 kd aa b2 bT b8 ag aS b7 aD b1 bS aJ aM aP;generalize Bj k M1=M2 at *;go_wp2;clear aH aN ai;refine NH R n k kb vb d M2 w w7 hE.o dj hlt ⟨M2,rfl,bW,bY,aA,bU,b3,b9⟩ ?_ ?_
     .intro z4 z5 ew ex ey ez dr ds dt du dv dw dx dy dz dB dC dD dE dF dG dH dI dJ dK dL dM dN dO dP dQ dR wq hq;obtain⟨M3,ep,ad,eo,el,en,eC,eE⟩:=hq
      have dk:Hid (AB SQ n (k+1) M0=.ok M3):=by
       show AB SQ n (k+1) M0=.ok M3
       unfold AB;rw[hS.o]
       show CY SQ n k M=.ok M3
       rw[ae.o,ep.o]
      clear bW bY aA bU b3 b9;go_wp2
      go_roundw
      case rel=>exact⟨k+1,by omega,by go_num,d,M3,dk,ad,eo,el,en⟩
      case measure=>simp[intOf];omega
     intro ew ex ey ez dr ds dt du dv dw dx dy dz dB dC dD dE dF dG dH dI dJ dK dL dM dN dO dP dQ dR wq bZ ah;have aB:=zh (GI hS.o (show CY SQ n k M=.error 2 by rw[ae.o,ah]) hlt);replace bZ:=zh bZ;replace ah:=zh ah;clear bW bY aA bU b3 b9;go_wp2;apply hr.o 2
     .exact bZ.o
     exact aB.o
  obtain rfl:n=k:=by omega
  go_wp2;apply hx.o;exact hI.o
theorem Tc:(prog.info? 39).map (fun i=>(i.zero,i.size,i.bytes))=some (some (.slice none 0 0),1,24):=by kernel_rfl
structure MatP(W:World)(B R n i:Nat)(bl:Nat->Nat)(M:Mx):Prop where
 lt:R<W.heap.size
 hd:∀x,x<i->W.cell? ⟨R,x,none⟩=some (.slice (some ⟨bl x,0,none⟩) (n+1) (n+1))
 hz:∀x,i<=x->x<n->W.cell? ⟨R,x,none⟩=some (.slice none 0 0)
 fr:∀x,W.frozen? ⟨R,x,none⟩=false
 rows:∀x,x<i->RowB W (bl x) (n+1) fun j=>rq (M x j)
 inj:∀x y,x<i->y<i->bl x=bl y->x=y
 ne:∀x,x<i->bl x≠R
 lowR:B<=R
 low:∀x,x<i->B<=bl x
theorem MatP.start(w:World){B:Nat}(hB:B<=w.heap.size)(n:Nat)(M:Mx):MatP (w.alloc (.cells (madeCells #[.slice none 0 0] n) 39)) B w.heap.size n 0 (fun _=>0) M:=by
 have h:=ym w (.cells (madeCells #[(.slice none 0 0:Value)] n) 39);refine⟨by simp,fun x h=>absurd h (by omega),fun x _ hx=>?_,fun x=>by simp only[World.frozen?,h];simp,fun x h=>absurd h (by omega),fun x _ h=>absurd h (by omega),fun x h=>absurd h (by omega),hB,fun x h=>absurd h (by omega)⟩;simp only[World.cell?,h];simp[madeCells,hx];rw[qB];rfl
theorem MatP.done{W:World}{B R n:Nat}{bl:Nat->Nat}{M:Mx}(h:MatP W B R n n bl M):MatW W B R n bl M:=⟨h.lt,h.hd,h.fr,h.rows,h.inj,h.ne,h.lowR,h.low⟩
structure Laid(W W':World)(R i:Nat)(v:Value)(m:Nat)(r:Nat->Raw):Prop where
 os:W'.os=W.os
 tape:W'.tape=W.tape
 output:W'.output=W.output
 size:W.heap.size<W'.heap.size
 hd:∀x,W'.cell? ⟨R,x,none⟩=if x=i then some v else W.cell? ⟨R,x,none⟩
 fr:∀x,W'.frozen? ⟨R,x,none⟩=W.frozen? ⟨R,x,none⟩
 new:RowB W' W.heap.size m r
 block:∀k,k<W.heap.size->k≠R->W'.heap[k]? = W.heap[k]?
theorem Laid.start{W:World}{R i m:Nat}{v u:Value}{r:Nat->Raw}(hc:W.cell? ⟨R,i,none⟩=some u)(hR:R<W.heap.size):Laid W ((W.setCell ⟨R,i,none⟩ v).alloc (.cells (AM m r).toArray 48)) R i v m r:=by
 have d:(W.setCell ⟨R,i,none⟩ v).heap.size=W.heap.size:=by simp
 refine⟨rfl,rfl,rfl,by simp,fun x=>?_,fun x=>?_,?_,fun k hk aa=>?_⟩
 .rw[yK _ _ _ (by rw[d];exact hR)]
  by_cases e:x=i
  .rw[zF e,e];exact xN W _ _ hc
  rw[zE e,yu _ _ _ _ (by intro e2;injection e2 with _ e3;first|exact e e3|exact e e3.symm)]
 .have h1:=yF (w:=W.setCell ⟨R,i,none⟩ v) (w':=(W.setCell ⟨R,i,none⟩ v).alloc (.cells (AM m r).toArray 48)) (a:=⟨R,x,none⟩) (yP _ _ R (by rw[d];exact hR));rw[h1];simp
 .have h:=ym (W.setCell ⟨R,i,none⟩ v) (.cells (AM m r).toArray 48);rw[d]at h;exact h
 exact(yP _ _ k (by rw[d];exact hk)).trans (zg _ _ _ _ aa)
theorem Laid.drew{W W':World}{R i m:Nat}{v:Value}{r:Nat->Raw}(h:Laid W W' R i v m r):Laid W W'.drew R i v m r:=⟨h.os,h.tape,h.output,h.size,h.hd,h.fr,h.new,h.block⟩
theorem Laid.cell{W W':World}{R i m:Nat}{v:Value}{r:Nat->Raw}(h:Laid W W' R i v m r){p:Addr}(hp:p.block<W.heap.size)(d:p.block≠R):W'.cell? p=W.cell? p:=zU (h.block _ hp d)
theorem NK{W:World}{b o n:Nat}{r:Nat->Raw}(h:∀j,j<n->W.cell? ⟨b,o+j*3,none⟩=some (.bool (r j).1)/\W.cell? ⟨b,o+j*3+1,none⟩=some (.string (r j).2.1)/\W.cell? ⟨b,o+j*3+2,none⟩=some (.string (r j).2.2)):
 ∀t v,(AM n r)[t]? = some v->W.cell? ((⟨b,o,none⟩:Addr).add t)=some v:=by
 intro t v hv;have hl:=AE n r;have ht:t<n*3:=by rw[<-hl];exact(List.getElem?_eq_some_iff.1 hv).1
 have h1:=CP r (m:=n) (j:=t/3) (by omega) (t%3) (by omega);rw[show t/3*3+t%3=t by omega,hv]at h1;have ha:(⟨b,o,none⟩:Addr).add t=⟨b,o+t,none⟩:=by unfold Addr.add;split<;>simp_all
 rw[ha];obtain⟨c1,c2,c3⟩:=h (t/3) (by omega);have h6:t%3=0\/t%3=1\/t%3=2:=by omega
 rcases h6 with h6|h6|h6
 .rw[h6]at h1;rw[show t=t/3*3 by omega,c1];simpa [EQ] using h1.symm
 .rw[h6]at h1;rw[show o+t=o+t/3*3+1 by omega,c2];simpa [EQ] using h1.symm
 rw[h6]at h1;rw[show o+t=o+t/3*3+2 by omega,c3];simpa [EQ] using h1.symm
theorem Td(n:Nat)(r:Nat->Raw):∀v∈AM n r,v.oneCell'=true:=by
 intro v hv;unfold AM at hv;rw[List.mem_flatMap]at hv;obtain⟨j,_,hj⟩:=hv;simp only[EQ,xC,yZ,wk]at hj
 rcases hj with rfl|rfl|rfl<;>rfl
theorem Qm(n:Nat)(r:Nat->Raw)(z:Raw):AM n r++(AM (n+1) fun _=>z).drop (AM n r).length=AM (n+1) fun j=>if j<n then r j else z:=by
 have h1:=AE n r;have h2:=AE n fun _=>z;rw[BX n fun _=>z,BX,h1,<-h2,List.drop_left,zE (by omega)]
 congr 1
 exact FR fun j hj=>(zF hj).symm
theorem Laid.copy{W W':World}{R i n:Nat}{v:Value}{z:Raw}(h:Laid W W' R i v (n+1) fun _=>z)(hR:R<W.heap.size)(r:Nat->Raw):
 Laid W (W'.setRow W.heap.size (AM n r++(AM (n+1) fun _=>z).drop (AM n r).length).toArray) R i v (n+1) fun j=>if j<n then r j else z:=by
 have aa:R≠W.heap.size:=by omega
 have ho:=setRow_other W' W.heap.size R (AM n r++(AM (n+1) fun _=>z).drop (AM n r).length).toArray aa;refine⟨h.os,h.tape,h.output,by have:=h.size;simpa [World.setRow] using this,fun x=>?_,fun x=>?_,?_,fun k hk d=>?_⟩
 .exact(zU (a:=⟨R,x,none⟩) ho).trans (h.hd x)
 .exact(yF (a:=⟨R,x,none⟩) ho).trans (h.fr x)
 .have:=setRow_heap W' W.heap.size (AM (n+1) fun _=>z).toArray (AM n r++(AM (n+1) fun _=>z).drop (AM n r).length).toArray 48 (0,0) h.new;unfold RowB;rw[this,Qm]
 exact(setRow_other W' W.heap.size k _ (by omega)).trans (h.block k hk d)
theorem Laid.store{W W':World}{R i n:Nat}{v:Value}{r:Nat->Raw}(h:Laid W W' R i v (n+1) r)(hR:R<W.heap.size)(x:Raw):
 Laid W ((((W'.setCell ⟨W.heap.size,n*3,none⟩ (.bool x.1)).setCell ⟨W.heap.size,n*3+1,none⟩ (.string x.2.1)).setCell ⟨W.heap.size,n*3+2,none⟩ (.string x.2.2)).drew) R i v (n+1) fun j=>if j=n then x else r j:=by
 have ho:∀k,k≠W.heap.size->(((W'.setCell ⟨W.heap.size,n*3,none⟩ (.bool x.1)).setCell ⟨W.heap.size,n*3+1,none⟩ (.string x.2.1)).setCell ⟨W.heap.size,n*3+2,none⟩ (.string x.2.2)).drew.heap[k]? = W'.heap[k]?:=fun k hk=>
  ((zg _ _ _ _ (by exact hk)).trans (zg _ _ _ _ (by exact hk))).trans (zg _ _ _ _ (by exact hk))
 refine⟨h.os,h.tape,h.output,by have:=h.size;simpa using this,fun y=>?_,fun y=>?_,h.new.set (by omega) x,fun k hk d=>?_⟩
 .exact(zU (a:=⟨R,y,none⟩) (ho R (by omega))).trans (h.hd y)
 .exact(yF (a:=⟨R,y,none⟩) (ho R (by omega))).trans (h.fr y)
 exact(ho k (by omega)).trans (h.block k hk d)
theorem Laid.congr{W W':World}{R i m:Nat}{v:Value}{r s:Nat->Raw}(h:Laid W W' R i v m r)(e:∀j,j<m->r j=s j):Laid W W' R i v m s:=⟨h.os,h.tape,h.output,h.size,h.hd,h.fr,h.new.congr e,h.block⟩
theorem Laid.bel{w W W':World}{R i m:Nat}{v:Value}{r:Nat->Raw}(h:Laid W W' R i v m r)(hb:Below w.heap.size w W)(hR:w.heap.size<=R):Below w.heap.size w W' :=
 ⟨h.os.trans hb.os,h.tape.trans hb.tape,h.output.trans hb.output,by have:=hb.size;have:=h.size;omega,fun k hk=>(h.block k (by have:=hb.size;omega) (by omega)).trans (hb.block k hk)⟩
theorem MatP.step{W W':World}{B R n i:Nat}{bl:Nat->Nat}{M:Mx}(h:MatP W B R n i bl M)(hB:B<=W.heap.size)
 (hL:Laid W W' R i (.slice (some ⟨W.heap.size,0,none⟩) (n+1) (n+1)) (n+1) fun j=>rq (M i j)):MatP W' B R n (i+1) (fun x=>if x=i then W.heap.size else bl x) M:=by
 have d:∀x,x<i->bl x<W.heap.size:=fun x hx=>(h.rows x hx).lt;refine⟨by have:=h.lt;have:=hL.size;omega,fun x hx=>?_,fun x h1 h2=>?_,fun x=>(hL.fr x).trans (h.fr x),fun x hx=>?_,fun x y hx hy e=>?_,fun x hx=>?_,h.lowR,fun x hx=>?_⟩
 .rw[hL.hd]
  by_cases e:x=i
  .rw[zF e,zF e]
  rw[zE e,zE e];exact h.hd x (by omega)
 .rw[hL.hd,zE (by omega)];exact h.hz x (by omega) h2
 .by_cases e:x=i
  .rw[zF e,e];exact hL.new
  rw[zE e];exact(hL.block _ (d x (by omega)) (h.ne x (by omega))).trans (h.rows x (by omega))
 .by_cases e1:x=i
  .by_cases e2:y=i
   .omega
   rw[zF e1,zE e2]at e;have:=d y (by omega);omega
  by_cases e2:y=i
  .rw[zE e1,zF e2]at e;have:=d x (by omega);omega
  rw[zE e1,zE e2]at e;exact h.inj x y (by omega) (by omega) e
 .by_cases e:x=i
  .rw[zF e];have:=h.lt;omega
  rw[zE e];exact h.ne x (by omega)
 by_cases e:x=i
 .rw[zF e];exact hB
 rw[zE e];exact h.low x (by omega)
theorem V4(w:World)(a:Bool)(b c:ByteArray)(t:TypeId):∀j u,(EQ (a,b,c))[j]? = some u->(w.alloc (.cells #[.bool a,.string b,.string c] t)).cell? (Addr.add ⟨w.heap.size,0,none⟩ j)=some u:=by
 intro j u hj
 match j,hj with
 |0,hj=>simp[EQ]at hj;subst hj;simp[Addr.add]
 |1,hj=>simp[EQ]at hj;subst hj;simp[Addr.add]
 |2,hj=>simp[EQ]at hj;subst hj;simp[Addr.add]
 |j+3,hj=>simp[EQ]at hj
theorem LK(x:Raw):∀u∈EQ x,u.oneCell'=true:=by
 intro u hu;simp[EQ]at hu
 rcases hu with rfl|rfl|rfl<;>rfl
theorem Te{w:World}{B B':Nat}{t:TypeId}{size:Nat}{v:Value}{n:Nat}{xs:List Value}(hb:B<=B')(h:w.ownsRow B' t size v n xs):w.ownsRow B t size v n xs:=by
 obtain⟨h1,h2⟩:=h;refine⟨h1,?_⟩
 rcases h2 with h2|⟨g,cap,cur,hv,hg,hh⟩
 .exact .inl h2
 exact .inr ⟨g,cap,cur,hv,zQ hb hg,hh⟩
theorem Qn(Aa Ab:Option Addr)(n ca cb:Nat)(la:List RowH)(lb:List Raw)(M0:Mx)(w:World)(hE:Env w)(ha:la.length=n)(ag:lb.length=n)(hs:SysIn w Aa Ab la lb)(hv:allV lb=true)(hm:DI n la=true)(aC:n<=8)
 (ap:∀i (h:i<la.length),la[i].2.2.length=n/\∀j (h2:j<la[i].2.2.length),la[i].2.2[j]=rq (M0 i j))(aq:∀i (h:i<lb.length),lb[i]=rq (M0 i n))(ar:∀i j,i<n->j<=n->OkQ (M0 i j)):
 Calls prog 39 #[.slice Aa n ca,.slice Ab n cb] w (JJ n M0 w):=by
 have kv:=Dx Ab cb lb (nW w n) (hE.below (B7 _ _)) (hs.below (B7 _ _)).mb hs.nb hs.zb;have ka:=fun W (h1:Env W) (h2:Int1 W w.heap.size n) (h3:SysIn W Aa Ab la lb)=>GH n Aa ca la w.heap.size W h1 h2 h3.ma h3.na h3.za;have a4:=vE (P:=prog) 82 39 (.slice none 0 0) 24 underlying82 Tc rfl .i64 .i64 n (by omega) (by omega);rw[hv,ag]at kv;rw[hm,ha]at ka;replace kv:=zh kv;replace ka:=zh ka;replace hs:=zh hs;replace hE:=zh hE;replace ap:=zh ap;replace ar:=zh ar;replace aq:=zh aq;replace ha:=zh ha;replace ag:=zh ag;clear hv hm;go_enter func39,ntmps39
 go_wp2_with fail
 refine kv.o.q fun w1 hb=>?_;have hB:=zh ((B7 w n).trans (hb.mono (by simp)));have hn:=zh ((Int1.new w n).below hb);clear hb
 go_wp2_with fail
 refine(ka.o _ (hE.o.below hB.o) hn.o (hs.o.below hB.o)).q fun w2 hb=>?_;have am:=hB.t hb;have aB:=zh (hn.o.below hb);have c1:=aB.o.cell;have c2:=aB.o.lt;have c3:Hid (Int1 (w2.alloc (.cells (madeCells #[(.slice none 0 0:Value)] n) 39)) w.heap.size n):=aB.o.alloc _;have hP:Hid (MatP (w2.alloc (.cells (madeCells #[(.slice none 0 0:Value)] n) 39)) w.heap.size w2.heap.size n 0 (fun _=>0) M0):=MatP.start w2 am.o.size n M0;have aJ:Hid (Below w.heap.size w (w2.alloc (.cells (madeCells #[(.slice none 0 0:Value)] n) 39))):=am.o.alloc am.o.size _;clear hb;go_wp2;obtain⟨R,hR⟩:∃R,R=w2.heap.size:=⟨_,rfl⟩;rw[<-hR]at hP ⊢;have aD:Hid (w.heap.size≠R):=by rw[hR];exact xK c2
 clear a4 c1 c2;replace hR:=zh hR;have ai:=FS 39 underlying39 (n+1) (by omega);rw[show ((n+1:Nat):Int)=(n:Int)+1 by omega]at ai
 go_loopw [43] (fun i wr=>∃(y:Nat)(bl:Nat->Nat),y<=n/\i=.int .i64 (y:Int)/\Hid (MatP wr w.heap.size R n y bl M0)/\Hid (Below w.heap.size w wr)/\Hid (Int1 wr w.heap.size n)) (fun i _=>n-(intOf i).toNat)
 case atStart=>exact⟨0,_,zS _,rfl,hP,aJ,c3⟩
 case round=>
  obtain⟨i,bl,hi,rfl,hQ,d,ad⟩:=hrel
  by_cases hlt:i<n
  .obtain ⟨ba,oa,rfl,a0,aN⟩:=hs.o.ma (by rw[ha.o];omega);obtain⟨bb,ob,rfl,ay,aO⟩:=hs.o.mb (by rw[ag.o];omega);obtain⟨a1,al⟩:=aN i (by rw[ha.o];exact hlt);obtain⟨b1,b2,b3⟩:=aO i (by rw[ag.o];exact hlt);clear aN aO;obtain⟨hl,aS⟩:=ap.o i (by rw[ha.o];exact hlt);obtain⟨bx,ox,aM,a2,aP⟩:=al (by rw[hl];omega);rw[hl,aM]at a1
   have aQ:Hid (∀j,j<n->w.cell? ⟨bx,ox+j*3,none⟩=some (.bool (rq (M0 i j)).1)/\w.cell? ⟨bx,ox+j*3+1,none⟩=some (.string (rq (M0 i j)).2.1)/\w.cell? ⟨bx,ox+j*3+2,none⟩=some (.string (rq (M0 i j)).2.2)):=fun j hj=>by
    have h1:=aP j (by rw[hl];exact hj);rw[aS j (by rw[hl];exact hj)]at h1;exact h1
   rw[aq.o i (by rw[ag.o];exact hlt)]at b1 b2 b3;clear hl aS aM aP al;generalize (la[i]'(by rw[ha.o];exact hlt)).2.1=ci at *;replace a1:=(d.o.cell (p:=⟨ba,oa+i,none⟩) a0).trans a1;replace b1:=(d.o.cell (p:=⟨bb,ob+i*3,none⟩) ay).trans b1;replace b2:=(d.o.cell (p:=⟨bb,ob+i*3+1,none⟩) ay).trans b2;replace b3:=(d.o.cell (p:=⟨bb,ob+i*3+2,none⟩) ay).trans b3;have i0:(0:Int)<=(i:Int):=by omega
   have i1:(i:Int)<(n:Int):=by omega
   have r1:=hQ.o.hz i (zB _) hlt;have r2:=hQ.o.fr i;have r3:=hQ.o.lt;have n1:=ad.o.cell;have n2:=ad.o.lt
   go_wp2_with fail
   obtain⟨W1,aw⟩:∃W,W=(wr.setCell ⟨R,i,none⟩ (.slice (some ⟨wr.heap.size,0,none⟩) (n+1) (n+1))).alloc (.cells (AM (n+1) fun _=>zraw).toArray 48):=⟨_,rfl⟩;rw[<-aw];have ah:Hid (Laid wr W1 R i (.slice (some ⟨wr.heap.size,0,none⟩) (n+1) (n+1)) (n+1) fun _=>zraw):=by rw[aw];exact Laid.start r1 r3
   have aT:=hQ.o.lowR;have d1:W1.cell? ⟨R,i,none⟩=some (.slice (some ⟨wr.heap.size,0,none⟩) (n+1) (n+1)):=(ah.o.hd i).trans (zF rfl);have a5:=d.o.size;have d2:=(ah.o.cell (p:=⟨ba,oa+i,none⟩) (by show ba<_;omega) (by show ba≠R;omega)).trans a1
   have a3:∀ty,(Builtin.copy_ #[39,39] ty #[.slice (some ⟨wr.heap.size,0,none⟩) (n+1) (n+1),.slice (some ⟨bx,ox,none⟩) n ci]).run prog W1.drew=.ok (goInt n) (W1.drew.setRow wr.heap.size (AM n (fun j=>rq (M0 i j))++(AM (n+1) fun _=>zraw).drop (AM n (fun j=>rq (M0 i j))).length).toArray):=fun ty=>
    N7 W1.drew _ _ ty wr.heap.size (n+1) (n+1) ⟨bx,ox,none⟩ n ci (AM (n+1) fun _=>zraw) (AM n fun j=>rq (M0 i j)) underlying39 ah.o.drew.new (AE _ _) (by omega)
     (NK fun j hj=>by
       obtain⟨k1,k2,k3⟩:=aQ.o j hj;have q:∀o,W1.drew.cell? ⟨bx,o,none⟩=w.cell? ⟨bx,o,none⟩:=fun o=>(ah.o.cell (p:=⟨bx,o,none⟩) (by show bx<_;omega) (by show bx≠R;omega)).trans (d.o.cell (p:=⟨bx,o,none⟩) a2);exact⟨(q _).trans k1,(q _).trans k2,(q _).trans k3⟩) (by rw[AE,AE];omega) (Td _ _)
   have aa:=zh (ah.o.drew.copy r3 (fun j=>rq (M0 i j)));clear aw ai a1 r1 r2;generalize (AM n (fun j=>rq (M0 i j))++(AM (n+1) fun _=>zraw).drop (AM n (fun j=>rq (M0 i j))).length).toArray=cells2 at *;go_region;obtain⟨W2,aL⟩:∃W,W=W1.drew.setRow wr.heap.size cells2:=⟨_,rfl⟩;rw[<-aL]at aa ⊢;clear aL a3 d1 d2;have d1:W2.cell? ⟨R,i,none⟩=some (.slice (some ⟨wr.heap.size,0,none⟩) (n+1) (n+1)):=(aa.o.hd i).trans (zF rfl);have d2:=aa.o.block w.heap.size (by omega) aD.o;have aX:Hid (Int1 W2 w.heap.size n):=d2.trans ad.o;clear d2 n1;have n1:=aX.o.cell;replace b1:=(aa.o.cell (p:=⟨bb,ob+i*3,none⟩) (by show bb<_;omega) (by show bb≠R;omega)).trans b1;replace b2:=(aa.o.cell (p:=⟨bb,ob+i*3+1,none⟩) (by show bb<_;omega) (by show bb≠R;omega)).trans b2;replace b3:=(aa.o.cell (p:=⟨bb,ob+i*3+2,none⟩) (by show bb<_;omega) (by show bb≠R;omega)).trans b3;obtain⟨z1,z2,z3⟩:=aa.o.new.cell (j:=n) (by omega);rw[zE (by omega)]at z1 z2 z3;have f1:=aa.o.new.frozen (n*3);have f2:=aa.o.new.frozen (n*3+1);have f3:=aa.o.new.frozen (n*3+2);have j0:(0:Int)<=(n:Int):=by omega
   have j1:(n:Int)<(n:Int)+1:=by omega
   have l1:=aa.o.new.lt
   go_wp2_with fail
   go_region
   have au:=zh ((aa.o.store r3 (rq (M0 i n))).congr (s:=fun j=>rq (M0 i j)) fun j hj=>by
    by_cases e:j=n
    .rw[zF e,e]
    rw[zE e,zF (by omega)])
   have aZ:=zh (hQ.o.step a5 au.o);have aW:=zh (au.o.bel d.o aT);have aY:=zh ((au.o.block w.heap.size (by omega) aD.o).trans ad.o);go_wp2
   go_roundw
   case rel=>exact⟨i+1,_,by omega,by go_num,aZ,aW,aY⟩
   case measure=>simp[intOf];omega
  obtain rfl:n=i:=by omega
  have aK:=zh hQ.o.done;clear hQ;go_wp2;have aC:n<=8:=aC;clear hP aJ c3 hlt ai;refine NJ R n M0 w _ hE.o aC aD.o ⟨bl,M0,rfl,aK,ar,d,ad⟩ ?_ ?_
  .intro u4 u5 u9 u10 u11 u12 u13 u14 u15 u16 u17 u74 u75 u76 u77 u78 u79 u80 u81 u82 u83 u84 u85 u86 u87 u88 u89 u90 u91 u92 u93 u94 u95 u96 u97 u98 u99 u100 u101 u102 u103 u104 u105 u106 u107 u108 u109 u110 u111 u112 u113 u114 u115 u116 u117 u118 u119 u120 u121 u122 u123 u124 u125 u126 u127 u128 u129 u130 u131 u132 u133 u134 u135 u136 u137 u138 u139 u140 u141 u142 u143 u144 u145 wq hq;clear aK d ad;obtain⟨af,M,hS,hM,hO,d,ad⟩:=hq;have aE:=d.o.size;have an:=ad.o.cell;have ao:=ad.o.lt;have av:=hM.o.lt;obtain⟨i0,aA,aV⟩:=Option.map_eq_some_iff.1 infoQ;simp only[Prod.mk.injEq]at aV;obtain⟨aG,aH,aI⟩:=aV;go_wp2;replace aA:=zh aA;replace aG:=zh aG;replace aH:=zh aH;replace aI:=zh aI
   go_loopw [18,148] (fun v i wz=>∃y:Nat,y<=n/\i=.int .i64 (y:Int)/\Hid (wz.ownsRow wq.heap.size 48 3 v y (AM y fun i=>rq (M i n)))/\Hid (Below wq.heap.size wq wz)) (fun _ i _=>n-(intOf i).toNat)
   case atStart=>exact⟨0,zS _,rfl,yf _ _ _ _,zI _ _⟩
   case round=>
    obtain⟨y,hy,rfl,aj,ae⟩:=hrel
    by_cases hlt9:y<n
    .have g1:=(ae.o.cell (p:=⟨R,y,none⟩) av).trans (hM.o.hd y hlt9);obtain⟨e1,e2,e3⟩:=(hM.o.rows y hlt9).cell (j:=n) (by omega);have e4:=(hM.o.rows y hlt9).lt;replace e1:=(ae.o.cell (p:=⟨af y,n*3,none⟩) e4).trans e1;replace e2:=(ae.o.cell (p:=⟨af y,n*3+1,none⟩) e4).trans e2;replace e3:=(ae.o.cell (p:=⟨af y,n*3+2,none⟩) e4).trans e3;have g2:=(ae.o.cell (p:=⟨w.heap.size,0,none⟩) ao).trans an;have g3:(n:Int)<(n:Int)+1:=by omega
     have g4:(0:Int)<=(n:Int):=by omega
     have g5:(0:Int)<=(y:Int):=by omega
     have g6:(y:Int)<(n:Int):=by omega
     have aU:=ae.o.size;clear e4 aE an ao av;obtain⟨rv,ak⟩:∃x,x=rq (M y n):=⟨_,rfl⟩;rw[<-ak]at e1 e2 e3;obtain⟨ra,rb,rc⟩:=rv;replace ak:=zh ak;replace e1:wr.cell? ⟨af y,n*3,none⟩=some (.bool ra):=e1;replace e2:wr.cell? ⟨af y,n*3+1,none⟩=some (.string rb):=e2;replace e3:wr.cell? ⟨af y,n*3+2,none⟩=some (.string rc):=e3
     go_wp2_with (at_builtin;refine wpList_append_own _ rfl _ _ 39 rfl wq.heap.size 48 i0 (.agg #[.bool false,.string ⟨#[]⟩,.string ⟨#[]⟩]) 3 40 underlying39 aA.o aG.o aH.o aI.o rfl (by decide) u18 y (AM y fun i=>rq (M i n)) rfl (aj.o.alloc _) ⟨wr.heap.size,0,none⟩ 1 1 (EQ (ra,rb,rc)) rfl rfl (V4 _ _ _ _ _) (LK _) (by unfold maxLen;omega) (by omega) (by simp;omega) ?_;intro v2 w2 aF aR _)
     refine⟨⟨y+1,by omega,by go_num,?_,(ae.o.alloc aU _).grown aR (by simp;omega) (fun b e=>(aj.o.lt b e).1)⟩,by simp only[intOf];omega⟩;rw[BX,<-ak.o];exact aF
    obtain rfl:n=y:=by omega
    clear an ao av;go_wp2;go_ret2;exact⟨d.o.trans (ae.o.mono aE),.inl ⟨M,_,hS.o,rfl,Te aE aj.o⟩⟩
  intro er u9 u10 u11 u12 u13 u14 u15 u16 u17 u74 u75 u76 u77 u78 u79 u80 u81 u82 u83 u84 u85 u86 u87 u88 u89 u90 u91 u92 u93 u94 u95 u96 u97 u98 u99 u100 u101 u102 u103 u104 u105 u106 u107 u108 u109 u110 u111 u112 u113 u114 u115 u116 u117 u118 u119 u120 u121 u122 u123 u124 u125 u126 u127 u128 u129 u130 u131 u132 u133 u134 u135 u136 u137 u138 u139 u140 u141 u142 u143 u144 u145 wq ax az;replace ax:=zh ax;replace az:=zh az;go_ret2;exact⟨ax.o,.inr ⟨er,az.o,rfl⟩⟩
end Nt
end
end Go.Proofs.YtefmpngjjmddjaaGreatDoor

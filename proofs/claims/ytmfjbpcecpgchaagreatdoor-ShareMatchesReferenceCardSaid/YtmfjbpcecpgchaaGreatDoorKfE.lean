/- Parts of the proof. -/
import Derived.Laws.EntriesVeiled
import Derived.Test.YtmfjbpcecpgchaaGreatDoorKfD
set_option maxHeartbeats 32000000
set_option maxRecDepth 1000000
open Go.Proofs.Tryz
namespace Go.Proofs.YtmfjbpcecpgchaaGreatDoor
theorem tkfE{P:Program}{md:Region.Mode}{ops:Array Oper}{Q:Exit->Act->World->Prop}{S:World->Prop}{oi:Oper}{v:Value}{fuel:Nat}{listed:Array Bool}{a:Act}{w:World}(i:Nat)(hi:ops[i]?=some oi)(hS:S w)(hy:YieldsIf P ops S oi v a)(h:wpAnyH P md ops Q S fuel (listed.setIfInBounds i true) (a.put oi.dst v) w)(hs:Region.noSelect ops=true:=by kernel_rfl)(hf:Region.free md ops listed i=true:=by kernel_rfl)(hr:(Region.ready md ops listed).contains i=true:=by kernel_rfl)(hQ:∀c a w,Q (.panic c) (a.put oi.dst v) w->Q (.panic c) a w:=by exact fun _ _ _ h=>h):wpAnyH P md ops Q S (fuel+1) listed a w:=yp hi hs hf hr hQ hy hS h
section
open Go.RowKit Go.Shelf
namespace Ci
open Nt
theorem OO:(prog.info? 26).map (fun i=>(i.zero,i.size,i.bytes))=some (some (.slice none 0 0),1,24):=by kernel_rfl
theorem Hc:(prog.info? 3).map (fun i=>(i.zero,i.size,i.bytes))=some (some (.int .i64 0),1,8):=by kernel_rfl
def CK(E:List (Nat×Nat))(k p:Nat):List Nat:=((E.take k).filter fun x=>decide (x.1=p)).map (·.2)
theorem Qj{E:List (Nat×Nat)}{k:Nat}(h:k<E.length)(p:Nat):CK E (k+1) p=EJ (CK E k) E[k].1 E[k].2 p:=by
 unfold CK EJ;rw[zS h,yx,yf]
 by_cases e:E[k].1=p
 .rw[zE e.symm,yv,zE (by simpa using e)];rfl
 rw[zC (fun c=>e c.symm),yv,zC (by simpa using e)];simp
theorem Lz{E:List (Nat×Nat)}{p q:Nat}:q∈CK E E.length p<->(p,q)∈E:=by
 unfold CK;rw[yJ];simp only[vj,List.mem_filter,yN];constructor
 .rintro⟨x,⟨h1,rfl⟩,rfl⟩;exact h1
 exact fun h=>⟨(p,q),⟨h,rfl⟩,rfl⟩
theorem SD(s:SR)(Ap Ac Av:Option Addr)(cp cc cv:Nat)(w:World)(hs:StIn w s Ap Ac Av)(hn:s.ps.length<=100)(aZ:s.cap.length<=300)(aJ:∀x,x∈s.cap->(0<=x.1/\x.1<s.ps.length)/\(0<=x.2.1/\x.2.1<s.ps.length)):
 Calls prog 61 #[.agg #[.slice Ap s.ps.length cp,.slice Ac s.cap.length cc,.slice Av s.vot.length cv]] w fun e w'=>(∃R v,e=.returned (.slice (some ⟨R,0,none⟩) s.ps.length s.ps.length)/\Gr w' w.heap.size R s.ps.length v (CK (Ad s) (Ad s).length))/\Below w.heap.size w w':=by
 have aY:=xG (P:=prog) 87 26 (.slice none 0 0) 24 underlying87 OO rfl .i64 .i64 s.ps.length (by omega) (by omega);have ar:Hid (Bk (w.alloc (.cells #[.slice Ap s.ps.length cp,.slice Ac s.cap.length cc,.slice Av s.vot.length cv] 25)) w.heap.size 25 (SC s Ap Ac Av cp cc cv)):=Bk.new w _ _;have aE:Hid (Below w.heap.size w (w.alloc (.cells #[.slice Ap s.ps.length cp,.slice Ac s.cap.length cc,.slice Av s.vot.length cv] 25))):=(zI _ w).alloc (zB _) _;have u0:=ar.o.c0;have u1:=ar.o.c1;have u9:=ar.o.lt
 have aM:Hid (Gr ((w.alloc (.cells #[.slice Ap s.ps.length cp,.slice Ac s.cap.length cc,.slice Av s.vot.length cv] 25)).alloc (.cells (madeCells #[(.slice none 0 0:Value)] s.ps.length) 26)) w.heap.size (w.heap.size+1) s.ps.length (fun _=>.slice none 0 0) (CK (Ad s) 0)):=by
  have h:=Gr.start (w.alloc (.cells #[.slice Ap s.ps.length cp,.slice Ac s.cap.length cc,.slice Av s.vot.length cv] 25)) (B:=w.heap.size) (by simp) s.ps.length 26;rw[zT]at h;exact h.congr fun i _=>rfl
 have aK:Hid (Below w.heap.size w ((w.alloc (.cells #[.slice Ap s.ps.length cp,.slice Ac s.cap.length cc,.slice Av s.vot.length cv] 25)).alloc (.cells (madeCells #[(.slice none 0 0:Value)] s.ps.length) 26))):=aE.o.alloc aE.o.size _;have aI:=zh (ar.o.alloc (.cells (madeCells #[(.slice none 0 0:Value)] s.ps.length) 26));have v1:=aI.o.c1;have v9:=aI.o.lt;obtain⟨i0,az,aU⟩:=Option.map_eq_some_iff.1 Hc;simp only[Prod.mk.injEq]at aU;obtain⟨aB,aC,aD⟩:=aU;replace az:=zh az;replace aB:=zh aB;replace aC:=zh aC;replace aD:=zh aD;have ay:Hid ((Ad s).length=s.cap.length):=by unfold Hid Ad;simp
 have aW:Hid (∀k p,(CK (Ad s) k p).length<=300):=fun k p=>by
  unfold CK;rw[zU];have h1:=yD (fun x:Nat×Nat=>decide (x.1=p)) ((Ad s).take k);have h2:((Ad s).take k).length<=(Ad s).length:=List.length_take_le' _ _;have:=ay.o;omega
 replace hs:=zh hs;replace aJ:=zh aJ;go_enter func61,ntmps61;go_wp2;clear aY u0 u1 u9 v1 v9
 go_loopw [13] (fun i wr=>∃(k:Nat)(v:Nat->Value),k<=s.cap.length/\i=.int .i64 (k:Int)/\Hid (Below w.heap.size w wr)/\Hid (Gr wr w.heap.size (w.heap.size+1) s.ps.length v (CK (Ad s) k))) (fun i _=>s.cap.length-(intOf i).toNat)
 case atStart=>exact⟨0,_,zO _,rfl,aK,aM⟩
 case round=>
  obtain⟨k,v,hk,rfl,hB,hG⟩:=hrel;clear ar aE aM aK aI
  by_cases hlt:k<s.cap.length
  .obtain ⟨b,o,rfl,aX,aP⟩:=(hs.o.below hB.o).cap (by omega);obtain⟨e1,e2,e3,e4,e5⟩:=aP k hlt;have aQ:=aJ.o s.cap[k] (zQ hlt)
   have am:Hid (∀p,CK (Ad s) (k+1) p=EJ (CK (Ad s) k) s.cap[k].2.1.toNat s.cap[k].1.toNat p):=fun p=>by
    have h:=Qj (E:=Ad s) (k:=k) (by rw[ay.o];exact hlt) p;have h2:(Ad s)[k]'(by rw[ay.o];exact hlt)=(s.cap[k].2.1.toNat,s.cap[k].1.toNat):=by unfold Ad;simp
    rw[h2]at h;exact h
   obtain⟨x,hx⟩:∃x,x=s.cap[k]:=⟨_,rfl⟩;rw[<-hx]at e1 e2 e3 e4 e5 aQ am;obtain⟨coI,aA,g,nn,dd⟩:=x;obtain⟨⟨i1,i2⟩,i3,i4⟩:=aQ;replace i1:0<=coI:=i1;replace i2:coI<s.ps.length:=i2;replace i3:0<=aA:=i3;replace i4:aA<s.ps.length:=i4;obtain⟨co,rfl⟩:∃c:Nat,coI=(c:Int):=⟨coI.toNat,by omega⟩;obtain⟨ho,rfl⟩:∃c:Nat,aA=(c:Int):=⟨aA.toNat,by omega⟩;replace e1:wr.cell? ⟨b,o+k*5,none⟩=some (.int .i64 (co:Int)):=e1;replace e2:wr.cell? ⟨b,o+k*5+1,none⟩=some (.int .i64 (ho:Int)):=e2;replace e3:wr.cell? ⟨b,o+k*5+2,none⟩=some (.bool g):=e3;replace e4:wr.cell? ⟨b,o+k*5+3,none⟩=some (.string nn):=e4;replace e5:wr.cell? ⟨b,o+k*5+4,none⟩=some (.string dd):=e5;replace am:Hid (∀p,CK (Ad s) (k+1) p=EJ (CK (Ad s) k) ho co p):=fun p=>by have h:=am.o p;simpa using h
   replace hx:=zh hx;have j0:(0:Int)<=(k:Int):=by omega
   have j1:(k:Int)<(s.cap.length:Int):=by omega
   have aq:ho<s.ps.length:=by omega
   have ao:Hid (Bk (wr.alloc (.cells #[.int .i64 (co:Int),.int .i64 (ho:Int),.bool g,.string nn,.string dd] 55)) wr.heap.size 55 [.int .i64 (co:Int),.int .i64 (ho:Int),.bool g,.string nn,.string dd]):=Bk.new wr _ _;have ag:=zh (hB.o.alloc hB.o.size (.cells #[.int .i64 (co:Int),.int .i64 (ho:Int),.bool g,.string nn,.string dd] 55));have ai:=zh (hG.o.alloc (.cells #[.int .i64 (co:Int),.int .i64 (ho:Int),.bool g,.string nn,.string dd] 55));have ax:w.heap.size+1<wr.heap.size:=hG.o.lt;clear aP
   go_wp2_with fail
   obtain⟨W1,aN⟩:∃W,W=wr.alloc (.cells #[.int .i64 (co:Int),.int .i64 (ho:Int),.bool g,.string nn,.string dd] 55):=⟨_,rfl⟩;rw[<-aN]at ao ag ai ⊢;obtain⟨xb,aT⟩:∃b,b=wr.heap.size:=⟨_,rfl⟩;rw[<-aT]at ao ax ⊢;obtain⟨vh,ah⟩:∃x,x=v ho:=⟨_,rfl⟩;have au:=ai.o.hd ho aq;have aj:=zh (ai.o.rows ho aq);rw[<-ah]at au aj
   have aS:Hid (vh.ownBlock≠some xb):=fun e=>by
    have h1:=(hG.o.rows ho aq).lt xb (by rw[<-ah];exact e);omega
   have aR:Hid (vh.ownBlock≠some (w.heap.size+1)):=by rw[ah];exact hG.o.ne ho aq
   replace ah:=zh ah;clear aT;clear aN hB hG e1 e2 e3 e4 e5 aX;have af:=ai.o.lt;have a0:=ao.o.lt
   have HO:Hid (∀W,Below W1.heap.size W1 W->W.cell? ⟨xb,0,none⟩=some (.int .i64 (co:Int))/\W.cell? ⟨xb,1,none⟩=some (.int .i64 (ho:Int))):=fun W h=>
    ⟨(ao.o.below h).c0,(ao.o.below h).c1⟩
   have aO:=aW.o k ho;have q0:(0:Int)<=(ho:Int):=by omega
   have q1:(ho:Int)<(s.ps.length:Int):=by omega
   refine yS ?_;refine yU (S:=fun W=>W.cell? ⟨xb,0,none⟩=some (.int .i64 (co:Int))/\W.cell? ⟨xb,1,none⟩=some (.int .i64 (ho:Int))) (by kernel_rfl) (HO.o _ (zI _ _).drew) (fun ae=>?_);replace ae:=zh ae;refine tkfE (v:=?_) 0 rfl (ae.o) (Or.inl ⟨by rfl,?_⟩) ?_;rotate_left
   . (intro w aa;obtain⟨q1,q2⟩:=aa;go_simp<;>with_reducible rfl)
   try simp only[Act.put,zA]
   refine tkfE (v:=?_) 1 rfl (ae.o) (Or.inl ⟨by rfl,?_⟩) ?_;rotate_left
   . (intro w aa;obtain⟨q1,q2⟩:=aa;go_simp<;>with_reducible rfl)
   try simp only[Act.put]
   refine tkfE (v:=?_) 2 rfl (ae.o) (Or.inl ⟨by rfl,?_⟩) ?_;rotate_left
   . (intro w aa;obtain⟨q1,q2⟩:=aa;go_simp<;>with_reducible rfl)
   try simp only[Act.put]
   refine tkfE (v:=?_) 3 rfl (ae.o) (Or.inl ⟨by rfl,?_⟩) ?_;rotate_left
   . (intro w aa;obtain⟨q1,q2⟩:=aa;go_simp<;>with_reducible rfl)
   try simp only[Act.put]
   refine tkfE (v:=?_) 4 rfl (ae.o) (Or.inl ⟨by rfl,?_⟩) ?_;rotate_left
   . (intro w aa;obtain⟨q1,q2⟩:=aa;go_simp<;>with_reducible rfl)
   try simp only[Act.put]
   refine tkfE (v:=?_) 5 rfl (ae.o) (Or.inl ⟨by rfl,?_⟩) ?_;rotate_left
   . (intro w aa;obtain⟨q1,q2⟩:=aa;go_simp<;>with_reducible rfl)
   try simp only[Act.put]
   refine tkfE (v:=?_) 6 rfl (ae.o) (Or.inl ⟨by rfl,?_⟩) ?_;rotate_left
   . (intro w aa;obtain⟨q1,q2⟩:=aa;go_simp<;>with_reducible rfl)
   try simp only[Act.put]
   refine tkfE (v:=?_) 8 rfl (ae.o) (Or.inl ⟨by rfl,?_⟩) ?_;rotate_left
   . (intro w aa;obtain⟨q1,q2⟩:=aa;go_simp<;>with_reducible rfl)
   try simp only[Act.put]
   refine tkfE (v:=?_) 9 rfl (ae.o) (Or.inl ⟨by rfl,?_⟩) ?_;rotate_left
   . (intro w aa;obtain⟨q1,q2⟩:=aa;go_simp<;>with_reducible rfl)
   try simp only[Act.put]
   have aL:Hid (Below W1.heap.size W1 W1.drew):=(zI _ W1).drew;have d:Hid (Below W1.heap.size W1 (W1.alloc (.cells #[.int .i64 (co:Int)] 3)).drew):=((zI _ W1).alloc (zB _) _).drew;refine zP (rs:=[7,10]) (by kernel_rfl) (by simp) ?_;refine zK (o:=_) rfl (fun K hK=>?_) ?_
   .have hh:=(aL.o.cell (p:=⟨w.heap.size+1,ho,none⟩) af).trans au;go_simp;clear hh;refine hK.o _ _ (HO.o _ aL.o) (fun _=>?_);clear hK K
    try simp only[Act.put,zA,zG,zF]
    refine zP (rs:=[10]) (by kernel_rfl) (by simp) ?_;refine zK (o:=_) rfl (fun K hK=>?_) ?_
    .go_simp;refine hK.o _ _ (HO.o _ d.o) (fun _=>?_);clear hK K
     try simp only[Act.put,zA,zG,zF]
     refine zP (rs:=[11]) (by kernel_rfl) (by simp) ?_;refine zK (o:=_) rfl (fun K hK=>?_) ?_
     .rw [zE (by rfl)];refine AE _ _ _ 26 rfl w.heap.size 3 i0 (.int .i64 0) 1 8 underlying26 az.o aB.o aC.o aD.o rfl (by decide) vh (CK (Ad s) k ho).length (Bz (CK (Ad s) k ho)) rfl (AK aj.o d.o) ⟨W1.heap.size,0,none⟩ 1 1 [.int .i64 (co:Int)] rfl rfl (BA W1 _ _) (AQ _ rfl) (by omega) (by unfold maxLen;omega) (by omega) (ag.o.trans (d.o.mono ag.o.size)).size ?_;intro vb wb an ab av;have ad:Hid (Bk wb xb 55 [.int .i64 (co:Int),.int .i64 (ho:Int),.bool g,.string nn,.string dd]):=(ao.o.below d.o).grown ab (fun e=>aS.o e.symm);have ak:=zh (ag.o.trans (d.o.mono ag.o.size));have aF:Hid (Below w.heap.size w wb):=ak.o.grown ab ak.o.size (fun b e=>(aj.o.lt b e).1)
      have aH:Hid (Gr (wb.setCell ⟨w.heap.size+1,ho,none⟩ vb) w.heap.size (w.heap.size+1) s.ps.length (fun i=>if i=ho then vb else v i) (CK (Ad s) (k+1))):=by
       have h:=((ai.o.alloc (.cells #[.int .i64 (co:Int)] 3)).drew).step (q:=co) aq (u:=vb) (W':=wb) (by rw[<-ah.o];exact ab) an (by rw[<-ah.o];exact av);exact h.congr fun i _=>(am.o i).symm
      have aG:Hid (Below w.heap.size w (wb.setCell ⟨w.heap.size+1,ho,none⟩ vb)):=aF.o.setCell (p:=⟨w.heap.size+1,ho,none⟩) (vO _) _;have al:=ab.block (w.heap.size+1) (zL af d.o.size) (fun e=>aR.o e.symm);have y1:=(zR (a:=⟨w.heap.size+1,ho,none⟩) al).trans ((d.o.cell (p:=⟨w.heap.size+1,ho,none⟩) af).trans au);have y2:=(zu (a:=⟨w.heap.size+1,ho,none⟩) al).trans ((d.o.frozen (p:=⟨w.heap.size+1,ho,none⟩) af).trans (ai.o.fr ho));have y3:w.heap.size+1<wb.heap.size:=zL (zL af d.o.size) ab.size
      rcases an.2 with⟨_,aw⟩|⟨g9,cap9,cur9,rfl,_⟩
      .exact absurd aw (by omega)
      clear an ab av am d al ak;refine hK.o _ _ ⟨ad.o.c0,ad.o.c1⟩ (fun _=>?_);clear hK K
      try simp only[Act.put,zA]
      refine tkfE (v:=?_) 12 rfl (⟨ad.o.c0,ad.o.c1⟩) (Or.inl ⟨by rfl,?_⟩) ?_;rotate_left
      . (intro w aa;obtain⟨q1,q2⟩:=aa;go_simp<;>with_reducible rfl)
      try simp only[Act.put]
      refine zP (rs:=[13]) (by kernel_rfl) (by simp) ?_;refine zK (o:=_) rfl (fun K hK=>?_) ?_
      .go_simp;refine hK.o _ _ ⟨(ad.o.far (p:=⟨w.heap.size+1,ho,none⟩) (wJ ax) _).c0,(ad.o.far (p:=⟨w.heap.size+1,ho,none⟩) (wJ ax) _).c1⟩ (fun _=>?_);clear hK K
       try simp only[Act.put,zA,zG,zF]
       refine ym (by kernel_rfl) ?_ _;refine yF ?_;clear y1 y2 y3 HO aO;go_wp2
       go_roundw
       case rel=>exact⟨k+1,_,by omega,by go_num,aG,aH⟩
       case measure=>simp[intOf];omega
      exact zN
     exact zN
    exact zN
   refine zK (o:=_) rfl (fun K hK=>?_) ?_
   .go_simp;refine hK.o _ _ (HO.o _ d.o) (fun _=>?_);clear hK K
    try simp only[Act.put,zA,zG,zF]
    refine zP (rs:=[7]) (by kernel_rfl) (by simp) ?_;refine zK (o:=_) rfl (fun K hK=>?_) ?_
    .have hh:=(d.o.cell (p:=⟨w.heap.size+1,ho,none⟩) af).trans au;go_simp;clear hh;refine hK.o _ _ (HO.o _ d.o) (fun _=>?_);clear hK K
     try simp only[Act.put,zA,zG,zF]
     refine zP (rs:=[11]) (by kernel_rfl) (by simp) ?_;refine zK (o:=_) rfl (fun K hK=>?_) ?_
     .rw [zE (by rfl)];refine AE _ _ _ 26 rfl w.heap.size 3 i0 (.int .i64 0) 1 8 underlying26 az.o aB.o aC.o aD.o rfl (by decide) vh (CK (Ad s) k ho).length (Bz (CK (Ad s) k ho)) rfl (AK aj.o d.o) ⟨W1.heap.size,0,none⟩ 1 1 [.int .i64 (co:Int)] rfl rfl (BA W1 _ _) (AQ _ rfl) (by omega) (by unfold maxLen;omega) (by omega) (ag.o.trans (d.o.mono ag.o.size)).size ?_;intro vb wb an ab av;have ad:Hid (Bk wb xb 55 [.int .i64 (co:Int),.int .i64 (ho:Int),.bool g,.string nn,.string dd]):=(ao.o.below d.o).grown ab (fun e=>aS.o e.symm);have ak:=zh (ag.o.trans (d.o.mono ag.o.size));have aF:Hid (Below w.heap.size w wb):=ak.o.grown ab ak.o.size (fun b e=>(aj.o.lt b e).1)
      have aH:Hid (Gr (wb.setCell ⟨w.heap.size+1,ho,none⟩ vb) w.heap.size (w.heap.size+1) s.ps.length (fun i=>if i=ho then vb else v i) (CK (Ad s) (k+1))):=by
       have h:=((ai.o.alloc (.cells #[.int .i64 (co:Int)] 3)).drew).step (q:=co) aq (u:=vb) (W':=wb) (by rw[<-ah.o];exact ab) an (by rw[<-ah.o];exact av);exact h.congr fun i _=>(am.o i).symm
      have aG:Hid (Below w.heap.size w (wb.setCell ⟨w.heap.size+1,ho,none⟩ vb)):=aF.o.setCell (p:=⟨w.heap.size+1,ho,none⟩) (vO _) _;have al:=ab.block (w.heap.size+1) (zL af d.o.size) (fun e=>aR.o e.symm);have y1:=(zR (a:=⟨w.heap.size+1,ho,none⟩) al).trans ((d.o.cell (p:=⟨w.heap.size+1,ho,none⟩) af).trans au);have y2:=(zu (a:=⟨w.heap.size+1,ho,none⟩) al).trans ((d.o.frozen (p:=⟨w.heap.size+1,ho,none⟩) af).trans (ai.o.fr ho));have y3:w.heap.size+1<wb.heap.size:=zL (zL af d.o.size) ab.size
      rcases an.2 with⟨_,aw⟩|⟨g9,cap9,cur9,rfl,_⟩
      .exact absurd aw (by omega)
      clear an ab av am d al ak;refine hK.o _ _ ⟨ad.o.c0,ad.o.c1⟩ (fun _=>?_);clear hK K
      try simp only[Act.put,zA]
      refine tkfE (v:=?_) 12 rfl (⟨ad.o.c0,ad.o.c1⟩) (Or.inl ⟨by rfl,?_⟩) ?_;rotate_left
      . (intro w aa;obtain⟨q1,q2⟩:=aa;go_simp<;>with_reducible rfl)
      try simp only[Act.put]
      refine zP (rs:=[13]) (by kernel_rfl) (by simp) ?_;refine zK (o:=_) rfl (fun K hK=>?_) ?_
      .go_simp;refine hK.o _ _ ⟨(ad.o.far (p:=⟨w.heap.size+1,ho,none⟩) (wJ ax) _).c0,(ad.o.far (p:=⟨w.heap.size+1,ho,none⟩) (wJ ax) _).c1⟩ (fun _=>?_);clear hK K
       try simp only[Act.put,zA,zG,zF]
       refine ym (by kernel_rfl) ?_ _;refine yF ?_;clear y1 y2 y3 HO aO;go_wp2
       go_roundw
       case rel=>exact⟨k+1,_,by omega,by go_num,aG,aH⟩
       case measure=>simp[intOf];omega
      exact zN
     exact zN
    exact zN
   exact zN
  obtain rfl:k=s.cap.length:=by omega
  have aV:Hid (Gr wr w.heap.size (w.heap.size+1) s.ps.length v (CK (Ad s) (Ad s).length)):=by rw[ay.o];exact hG.o
  go_wp2;go_ret;exact⟨⟨_,v,rfl,aV.o⟩,hB.o⟩
end Ci
end
section
open Go.RowKit Go.Shelf
namespace Ci
open Nt
open Classical
theorem Gr.grown{W W':World}{B R n mb:Nat}{v:Nat->Value}{adj:Nat->List Nat}(h:Gr W B R n v adj)(hg:W.grownBy W' (some mb))(hR:R≠mb)(hv:∀i,i<n->(v i).ownBlock≠some mb):Gr W' B R n v adj:=by
 have hb:W'.heap[R]? = W.heap[R]?:=hg.block R h.lt fun e=>hR (Option.some.inj e)
 exact ⟨zL h.lt hg.size,fun i hi=>(zR (a:=⟨R,i,none⟩) hb).trans (h.hd i hi),fun i=>(zu (a:=⟨R,i,none⟩) hb).trans (h.fr i),fun i hi=>(h.rows i hi).kept hg (by
  cases hu:(v i).ownBlock with
  |none=>exact .inl rfl
  |some b=>exact .inr fun e=>hv i hi (hu.trans e)),h.apart,h.ne,h.lowR⟩
noncomputable def bV(P:Prop):Bool:=@decide P (propDecidable P)
theorem A7{P:Prop}(h:P):bV P=true:=@zH P (propDecidable P) h
theorem At{P:Prop}(h:¬P):bV P=false:=@zD P (propDecidable P) h
theorem W9{P:Prop}(h:bV P=true):P:=@zf P (propDecidable P) h
noncomputable def unv(n:Nat)(V:Nat->Prop):Nat:=((List.range n).filter fun x=>bV (¬V x)).length
theorem L0{n p:Nat}{V:Nat->Prop}(hp:p<n)(h:¬V p):unv n (fun x=>V x\/x=p)+1<=unv n V :=
 Fo (fun _ _ hx=>A7 fun c=>(W9 hx) (.inl c)) ⟨p,List.mem_range.2 hp,At fun c=>c (.inr rfl),A7 h⟩
theorem SE{n:Nat}{V V':Nat->Prop}(h:∀x,V x->V' x):unv n V'<=unv n V:=by
 unfold unv
 have : ∀l:List Nat,(l.filter fun x=>bV (¬V' x)).length<=(l.filter fun x=>bV (¬V x)).length:=by
  intro l
  induction l with
  |nil=>exact zB _
  |cons a l ih=>
   rw[yv,yv]
   by_cases h1:V a
   .rw[At (fun c=>c (h a h1)),At (fun c=>c h1)];exact ih
   rw[A7 h1]
   cases bV (¬V' a)
   .simp only[vL,if_false,vI,zn];omega
   simp only[vI,zn];omega
 exact this _
def Nw(w:World)(n mb:Nat)(V:Nat->Prop):Prop:=∃c f,MapK prog 3 κi w mb c f/\c+unv n V<=n/\∀x:Nat,x<n->f (x:Int)=if V x then some (.bool true) else none
structure VEnv(w:World)(ob gb vb R n mb B:Nat)(v:Nat->Value)(adj:Nat->List Nat):Prop where
 o:Bk w ob 107 [.map (some mb)]
 g:Bk w gb 87 [.slice (some ⟨R,0,none⟩) n n]
 f:Bk w vb 149 [.func (.func 136) #[] #[.pointer (some ⟨ob,0,none⟩),.pointer (some ⟨gb,0,none⟩),.pointer (some ⟨vb,0,none⟩)]]
 gr:Gr w B R n v adj
 n1:ob≠mb
 n2:gb≠mb
 n3:vb≠mb
 n4:R≠mb
 n5:∀i,i<n->(v i).ownBlock≠some mb
theorem VEnv.grown{w w':World}{ob gb vb R n mb B:Nat}{v:Nat->Value}{adj:Nat->List Nat}(h:VEnv w ob gb vb R n mb B v adj)(hg:w.grownBy w' (some mb)):VEnv w' ob gb vb R n mb B v adj :=
 ⟨h.o.grown hg fun e=>h.n1 (Option.some.inj e),h.g.grown hg fun e=>h.n2 (Option.some.inj e),h.f.grown hg fun e=>h.n3 (Option.some.inj e),h.gr.grown hg h.n4 h.n5,h.n1,h.n2,h.n3,h.n4,h.n5⟩
theorem OP(w:World):(zeroValue 4).run prog w=.ok (.bool false) w:=by kernel_rfl
def L2(E:List (Nat×Nat))(n mb p:Nat)(V:Nat->Prop)(w:World)(e:Ending)(w':World):Prop:=e=.returned (.tuple #[])/\w.grownBy w' (some mb)/\∃V',Nw w' n mb V'/\Vis E p V V'
theorem J0(E:List (Nat×Nat))(ob gb vb R n mb B:Nat)(v:Nat->Value)(adj:Nat->List Nat)(hn:n<=1000)(p:Nat)(V:Nat->Prop)(w:World)(hp:p<n)(hv:VEnv w ob gb vb R n mb B v adj)(hm:Nw w n mb V)(hV:V p):
 Calls prog 136 #[.int .i64 (p:Int),.pointer (some ⟨ob,0,none⟩),.pointer (some ⟨gb,0,none⟩),.pointer (some ⟨vb,0,none⟩)] w (L2 E n mb p V w):=by
 have hP:Hid (∀e,e=.returned (.tuple #[])->L2 E n mb p V w e w):=fun e he=>⟨he,World.grownBy.refl _ _,V,hm,Vis.had hV⟩;obtain⟨c,f,hM,_,hf⟩:=hm;have d:=hM.look FO underlying107 (OP w) (EI underlying3 (a:=(p:Int)) (by omega) (by omega));rw[hf p hp,zE hV]at d;replace d:(Instr.lookup 107 (.map (some mb)) (.int .i64 (p:Int)) false).run prog w=.ok (.bool true) w:=d;have c1:=hv.o.c0;have c2:=hv.o.lt;clear hM hf hv hV;go_enter func136,ntmps136;go_wp2;go_end0;exact hP.o _ rfl
theorem Qk(E:List (Nat×Nat))(ob gb vb R n mb B:Nat)(v:Nat->Value)(adj:Nat->List Nat)(hn:n<=1000)(hE:∀p q,p<n->(q∈adj p<->(p,q)∈E))(aI:InN n E)(ah:∀p,p<n->(adj p).length<=10000000):
 ∀(N p:Nat)(V:Nat->Prop)(w:World),p<n->VEnv w ob gb vb R n mb B v adj->Nw w n mb V->unv n V<=N ->
  Calls prog 136 #[.int .i64 (p:Int),.pointer (some ⟨ob,0,none⟩),.pointer (some ⟨gb,0,none⟩),.pointer (some ⟨vb,0,none⟩)] w (L2 E n mb p V w):=by
 intro N
 induction N with
 |zero=>
  intro p V w hp hv hm hN;exact J0 E ob gb vb R n mb B v adj hn p V w hp hv hm (vG fun c=>by have:=L0 hp c;omega)
 |succ N ih=>
  intro p V w hp hv hm hN
  by_cases hV:V p
  .exact J0 E ob gb vb R n mb B v adj hn p V w hp hv hm hV
  have aQ:=L0 hp hV;have av:Hid (VisL E p [] V fun x=>V x\/x=p):=VisL.start E p V;obtain⟨c,f,hM,aO,hf⟩:=hm;have am:=EI underlying3 (a:=(p:Int)) (by omega) (by omega);have s:=hM.look FO underlying107 (OP w) am;rw[hf p hp,zC hV]at s;replace s:(Instr.lookup 107 (.map (some mb)) (.int .i64 (p:Int)) false).run prog w=.ok (.bool false) w:=s;obtain⟨w1,aD,ar,al⟩:=hM.put G6 FO underlying107 (by unfold maxLen;omega) am (.bool true)
  have au:Hid (Nw w1 n mb fun x=>V x\/x=p):=by
   refine⟨_,_,ar,?_,fun x hx=>?_⟩
   .rw[hf p hp,zC hV]
    show c+1+_<=n
    omega
   by_cases e:x=p
   .subst e;rw[Cn,zE (.inr rfl)]
   rw[Cg (fun h=>e (by omega)),hf x hx]
   by_cases h2:V x
   .rw[zE h2,zE (.inl h2)]
   rw[zC h2,zC fun h=>h.elim h2 e]
  have ab:=zh (hv.grown al);have ag:=zh al;have aJ:unv n (fun x=>V x\/x=p)<=N:=by omega
  have c1:=hv.o.c0;have c2:=hv.o.lt;have d1:=ab.o.o.c0;have d2:=ab.o.g.c0;have d3:=ab.o.gr.hd p hp;have d4:=ab.o.gr.lt;have aa:=hv.gr.rows p hp;have aN:=zh hv;have ax:Hid ((v p).ownBlock≠some mb):=hv.n5 p hp;have aP:=ah p hp;have p0:(0:Int)<=(p:Int):=by omega
  have p1:(p:Int)<(n:Int):=by omega
  have ihH:=zh ih;have af:Hid (∀q,(p,q)∈E->q∈adj p):=fun q h=>(hE p q hp).2 h;have aB:Hid (∀q,q∈adj p->(p,q)∈E/\q<n):=fun q h=>⟨(hE p q hp).1 h,(aI _ ((hE p q hp).1 h)).2⟩;clear hM ar hf al am ih ah
  rcases DF aa with⟨ai,ae⟩|⟨g,cap,ao,_,aL,_,d⟩
  .rw [ai]at d3;have hP:Hid (∀e,e=.returned (.tuple #[])->L2 E n mb p V w e w1):=fun e he=>⟨he,ag.o,_,au.o,av.o.end fun q h=>by have:=af.o q h;rw[ae]at this;exact this⟩;clear aa ai ae;go_enter func136,ntmps136;go_wp2
   go_loopw [17] (fun i wr=>i=.int .i64 0/\wr=w1) (fun _ _=>0)
   case atStart=>exact⟨rfl,rfl⟩
   case round=>
    obtain⟨rfl,rfl⟩:=hrel;go_wp2;go_end0;exact hP.o _ rfl
  rw[ao]at d3;rw[ao]at ax;have ay:g≠mb:=fun e=>ax.o (by rw[e];rfl);replace d:=zh d;have hP:Hid (∀e wz V',e=.returned (.tuple #[])->w.grownBy wz (some mb)->Nw wz n mb V'->VisL E p (adj p) V V'->L2 E n mb p V w e wz):=fun e wz V' h1 h2 h3 h4=>⟨h1,h2,V',h3,h4.end fun q h=>af.o q h⟩;clear aa ao;go_enter func136,ntmps136;go_wp2
  go_loopw [17] (fun i wr=>∃(j:Nat)(V':Nat->Prop),j<=(adj p).length/\i=.int .i64 (j:Int)/\Hid (w.grownBy wr (some mb))/\Hid (Nw wr n mb V')/\Hid (VisL E p ((adj p).take j) V V')) (fun i _=>(adj p).length-(intOf i).toNat)
  case atStart=>exact⟨0,_,zO _,rfl,ag,au,av⟩
  case round=>
   obtain⟨j,V',hj,rfl,hg,az,ad⟩:=hrel;clear s aD c1 c2 d1 d2 d3 d4
   by_cases hlt:j<(adj p).length
   .obtain ⟨an,aC⟩:=aB.o (adj p)[j] (zQ hlt);have e1:=(zR (a:=⟨g,j,none⟩) (hg.o.block g aL fun e=>ay (Option.some.inj e))).trans (d.o j hlt);have aq:=zh (aN.o.grown hg.o)
    have aF:unv n V'<=N:=zV (SE fun x hx=>by
     rcases hx with hx|rfl
     .exact ad.o.1 x hx
     exact ad.o.2.1) aJ
    have aE:Hid ((adj p).take (j+1)=(adj p).take j++[(adj p)[j]]):=zS hlt;obtain⟨q,hq⟩:∃x,x=(adj p)[j]:=⟨_,rfl⟩;rw[<-hq]at an aC e1 aE;replace hq:=zh hq;have ihq:=zh (ihH.o q V' wr aC aq.o az.o aF);have ak:=zh an;have d1:=aq.o.f.c0;have d2:=aq.o.f.lt;have j0:(0:Int)<=(j:Int):=by omega
    have j1:(j:Int)<((adj p).length:Int):=by omega
    clear an aF
    go_wp2_with fail
    refine ihq.o.q fun w2 ⟨aw,V2,aA,aj⟩=>?_;have aK:=zh (hg.o.trans aw);have aM:=zh aA;have aG:Hid (VisL E p ((adj p).take (j+1)) V V2):=by rw[aE.o];exact ad.o.step ak.o aj
    clear aw aA aj e1 d1 d2;go_wp2
    go_roundw
    case rel=>exact⟨j+1,V2,by omega,by go_num,aK,aM,aG⟩
    case measure=>simp[intOf];omega
   obtain rfl:j=(adj p).length:=by omega
   have aH:Hid (VisL E p (adj p) V V'):=by have h:=ad.o;rwa [yJ]at h
   go_wp2;go_end0;exact hP.o _ _ V' rfl hg.o az.o aH.o
def ReachM(w:World)(n mb:Nat)(E:List (Nat×Nat))(p:Nat):Prop:=∃c f,MapK prog 3 κi w mb c f/\∀x:Nat,x<n->f (x:Int)=if Reach E p x then some (.bool true) else none
def WA(E:List (Nat×Nat))(n p:Nat)(w:World)(e:Ending)(w':World):Prop:=(∃mb,e=.returned (.map (some mb))/\w.heap.size<=mb/\ReachM w' n mb E p)/\Below w.heap.size w w'
theorem Hd(E:List (Nat×Nat))(R n B p:Nat)(v:Nat->Value)(adj:Nat->List Nat)(w:World)(hn:n<=1000)(hE:∀p q,p<n->(q∈adj p<->(p,q)∈E))(ad:InN n E)(aa:∀p,p<n->(adj p).length<=10000000)(hp:p<n)(hG:Gr w B R n v adj):
 Calls prog 84 #[.slice (some ⟨R,0,none⟩) n n,.int .i64 (p:Int)] w (WA E n p w):=by
 have ak:=@run_makeMap prog
 have kv:=zh (fun ob gb vb mb W hv hm=>Qk E ob gb vb R n mb B v adj hn hE ad aa n p (fun _=>False) W hp hv hm (by
  have:=yD (fun x:Nat=>bV (¬False)) (List.range n);rw[yV]at this;exact this))
 have s1:(w.alloc (.cells #[.slice (some ⟨R,0,none⟩) n n] 87)).heap.size=w.heap.size+1:=by simp
 have s2:((w.alloc (.cells #[.slice (some ⟨R,0,none⟩) n n] 87)).alloc (.map #[] 0)).heap.size=w.heap.size+1+1:=by simp
 have s3:(((w.alloc (.cells #[.slice (some ⟨R,0,none⟩) n n] 87)).alloc (.map #[] 0)).alloc (.cells #[.map (some (w.heap.size+1))] 107)).heap.size=w.heap.size+1+1+1:=by simp
 have g1:Bk (w.alloc (.cells #[.slice (some ⟨R,0,none⟩) n n] 87)) w.heap.size 87 [.slice (some ⟨R,0,none⟩) n n]:=Bk.new w _ _;have m2:MapK prog 3 κi ((w.alloc (.cells #[.slice (some ⟨R,0,none⟩) n n] 87)).alloc (.map #[] 0)) (w.heap.size+1) 0 (fun _=>none):=by have h:=MapK.made (w.alloc (.cells #[.slice (some ⟨R,0,none⟩) n n] 87)) prog 3 κi;rwa [s1]at h
 have o3:Bk (((w.alloc (.cells #[.slice (some ⟨R,0,none⟩) n n] 87)).alloc (.map #[] 0)).alloc (.cells #[.map (some (w.heap.size+1))] 107)) (w.heap.size+1+1) 107 [.map (some (w.heap.size+1))]:=by have h:=Bk.new ((w.alloc (.cells #[.slice (some ⟨R,0,none⟩) n n] 87)).alloc (.map #[] 0)) 107 [.map (some (w.heap.size+1))];rwa [s2]at h
 have f4:Bk ((((w.alloc (.cells #[.slice (some ⟨R,0,none⟩) n n] 87)).alloc (.map #[] 0)).alloc (.cells #[.map (some (w.heap.size+1))] 107)).alloc (.cells #[.nilFunc] 149)) (w.heap.size+1+1+1) 149 [.nilFunc]:=by have h:=Bk.new (((w.alloc (.cells #[.slice (some ⟨R,0,none⟩) n n] 87)).alloc (.map #[] 0)).alloc (.cells #[.map (some (w.heap.size+1))] 107)) 149 [.nilFunc];rwa [s3]at h
 have af:Hid (Below w.heap.size w ((((w.alloc (.cells #[.slice (some ⟨R,0,none⟩) n n] 87)).alloc (.map #[] 0)).alloc (.cells #[.map (some (w.heap.size+1))] 107)).alloc (.cells #[.nilFunc] 149))):=((((zI _ w).alloc (zB _) _).alloc (by simp) _).alloc (by simp<;>omega) _).alloc (by simp<;>omega) _;have ab:Hid (Below w.heap.size w ((((w.alloc (.cells #[.slice (some ⟨R,0,none⟩) n n] 87)).alloc (.map #[] 0)).alloc (.cells #[.map (some (w.heap.size+1))] 107)).alloc (.cells #[.func (.func 136) #[] #[.pointer (some ⟨w.heap.size+1+1,0,none⟩),.pointer (some ⟨w.heap.size,0,none⟩),.pointer (some ⟨w.heap.size+1+1+1,0,none⟩)]] 149))):=((((zI _ w).alloc (zB _) _).alloc (by simp) _).alloc (by simp<;>omega) _).alloc (by simp<;>omega) _;have f5:Bk ((((w.alloc (.cells #[.slice (some ⟨R,0,none⟩) n n] 87)).alloc (.map #[] 0)).alloc (.cells #[.map (some (w.heap.size+1))] 107)).alloc (.cells #[.func (.func 136) #[] #[.pointer (some ⟨w.heap.size+1+1,0,none⟩),.pointer (some ⟨w.heap.size,0,none⟩),.pointer (some ⟨w.heap.size+1+1+1,0,none⟩)]] 149)) (w.heap.size+1+1+1) 149 [.func (.func 136) #[] #[.pointer (some ⟨w.heap.size+1+1,0,none⟩),.pointer (some ⟨w.heap.size,0,none⟩),.pointer (some ⟨w.heap.size+1+1+1,0,none⟩)]]:=by have h:=Bk.new (((w.alloc (.cells #[.slice (some ⟨R,0,none⟩) n n] 87)).alloc (.map #[] 0)).alloc (.cells #[.map (some (w.heap.size+1))] 107)) 149 [.func (.func 136) #[] #[.pointer (some ⟨w.heap.size+1+1,0,none⟩),.pointer (some ⟨w.heap.size,0,none⟩),.pointer (some ⟨w.heap.size+1+1+1,0,none⟩)]];rwa [s3]at h
 have c1:=f4.c0;have c2:=f4.frozen 0;have c3:=f4.lt
 have d:Hid (VEnv ((((w.alloc (.cells #[.slice (some ⟨R,0,none⟩) n n] 87)).alloc (.map #[] 0)).alloc (.cells #[.map (some (w.heap.size+1))] 107)).alloc (.cells #[.func (.func 136) #[] #[.pointer (some ⟨w.heap.size+1+1,0,none⟩),.pointer (some ⟨w.heap.size,0,none⟩),.pointer (some ⟨w.heap.size+1+1+1,0,none⟩)]] 149)) (w.heap.size+1+1) w.heap.size (w.heap.size+1+1+1) R n (w.heap.size+1) B v adj):=by
  have aj:=hG.lt;refine⟨o3.alloc _,((g1.alloc _).alloc _).alloc _,f5,hG.below (ab.o),by omega,by omega,by omega,by omega,fun i hi e=>?_⟩;have:=((hG.rows i hi).lt _ e).2;omega
 have ah:Hid (Nw ((((w.alloc (.cells #[.slice (some ⟨R,0,none⟩) n n] 87)).alloc (.map #[] 0)).alloc (.cells #[.map (some (w.heap.size+1))] 107)).alloc (.cells #[.func (.func 136) #[] #[.pointer (some ⟨w.heap.size+1+1,0,none⟩),.pointer (some ⟨w.heap.size,0,none⟩),.pointer (some ⟨w.heap.size+1+1+1,0,none⟩)]] 149)) n (w.heap.size+1) fun _=>False):=by
  refine⟨0,_,(m2.alloc _).alloc _,?_,fun x _=>(zC fun h=>h).symm⟩;have:=yD (fun x:Nat=>bV (¬False)) (List.range n);rw[yV]at this
  show 0+((List.range n).filter fun x=>bV (¬False)).length<=n
  omega
 have o5:=d.o.o.c0;clear s1 s2 s3 g1 m2 o3 f4 f5 af;replace hG:=zh hG;clear hE ad aa;go_enter func84,ntmps84
 go_wp2_with fail
 refine(kv.o _ _ _ _ _ d.o ah.o).q fun w6 ⟨s,V',ae,a⟩=>?_;have o6:=(d.o.grown s).o.c0;have o7:=(d.o.grown s).o.lt;have ag:Hid (Below w.heap.size w w6):=ab.o.grown s ab.o.size (fun b e=>by cases e;exact vO _)
 have ai:Hid (ReachM w6 n (w.heap.size+1) E p):=by
  obtain⟨c,f,h1,_,h2⟩:=ae;refine⟨c,f,h1,fun x hx=>?_⟩;rw[h2 x hx]
  by_cases hr:Reach E p x
  .rw[zE hr,zE ((a.reach x).2 hr)]
  rw[zC hr,zC fun h=>hr ((a.reach x).1 h)]
 clear s ae a o5 c1 c2 c3;go_wp2;go_ret;exact⟨⟨_,rfl,vO _,ai.o⟩,ag.o⟩
end Ci
end
section
open Go.RowKit Go.Shelf
namespace Ci
open Nt
theorem Ql{w:World}{base m:Nat}{e:TypeId}{v:Value}{xs:List Value}(h:w.ownsRow base e 1 v (m+1) xs):∃g cap,v=.slice (some ⟨g,0,none⟩) (m+1) cap:=by
 rcases h.2 with⟨_,h0⟩|⟨g,cap,_,rfl,_⟩
 .omega
 exact⟨g,cap,rfl⟩
def TurnI(n i j:Nat)(adj T:Nat->List Nat):Prop:=(∀q x,q<n->(x∈T q<->(x<i/\q∈adj x)\/(x=i/\q∈(adj i).take j)))/\∀q,(T q).length<=1000*i+j
theorem TurnI.next{n i:Nat}{adj T:Nat->List Nat}(h:TurnI n i (adj i).length adj T)(hl:(adj i).length<=1000):TurnI n (i+1) 0 adj T:=by
 refine⟨fun q x hq=>?_,fun q=>by have:=h.2 q;omega⟩;rw[h.1 q x hq,yJ];constructor
 .rintro(⟨a,b⟩|⟨rfl,b⟩)
  .exact .inl ⟨by omega,b⟩
  exact .inl ⟨by omega,b⟩
 rintro(⟨a,b⟩|⟨_,b⟩)
 .by_cases e:x=i
  .subst e;exact .inr ⟨rfl,b⟩
  exact .inl ⟨by omega,b⟩
 simp at b
theorem TurnI.step{n i j:Nat}{adj T:Nat->List Nat}(h:TurnI n i j adj T)(hj:j<(adj i).length):TurnI n i (j+1) adj (EJ T (adj i)[j] i):=by
 refine⟨fun q x hq=>?_,fun q=>?_⟩
 .unfold EJ;rw[zS hj]
  by_cases e:q=(adj i)[j]
  .rw [zE e,yz,h.1 q x hq,yz,xK,xK];constructor
   .rintro((a|⟨a,b⟩)|a)
    .exact .inl a
    .exact .inr ⟨a,.inl b⟩
    exact .inr ⟨a,.inr e⟩
   rintro(a|⟨a,b|_⟩)
   .exact .inl (.inl a)
   .exact .inl (.inr ⟨a,b⟩)
   exact .inr a
  rw[zC e,h.1 q x hq,yz,xK];constructor
  .rintro(a|⟨a,b⟩)
   .exact .inl a
   exact .inr ⟨a,.inl b⟩
  rintro(a|⟨a,b|b⟩)
  .exact .inl a
  .exact .inr ⟨a,b⟩
  exact absurd b e
 unfold EJ;have:=h.2 q
 split
 .rw[zY,xz];omega
 omega
theorem Nx(R n B:Nat)(v:Nat->Value)(adj:Nat->List Nat)(w:World)(hn:n<=100)(ah:∀p,p<n->(adj p).length<=1000)(ao:∀p q,p<n->q∈adj p->q<n)(hG:Gr w B R n v adj):
 Calls prog 83 #[.slice (some ⟨R,0,none⟩) n n] w fun e w'=>(∃R' v' T,e=.returned (.slice (some ⟨R',0,none⟩) n n)/\Gr w' w.heap.size R' n v' T/\TurnI n n 0 adj T)/\Below w.heap.size w w':=by
 -- for 41
 have aN:=xG (P:=prog) 87 26 (.slice none 0 0) 24 underlying87 OO rfl .i64 .i64 n (by omega) (by omega);have az:Hid (Gr (w.alloc (.cells (madeCells #[(.slice none 0 0:Value)] n) 26)) w.heap.size w.heap.size n (fun _=>.slice none 0 0) fun _=>[]):=Gr.start w (zB _) n 26;have ax:Hid (Below w.heap.size w (w.alloc (.cells (madeCells #[(.slice none 0 0:Value)] n) 26))):=(zI _ w).alloc (zB _) _;have aA:Hid (TurnI n 0 0 adj fun _=>[]):=⟨fun q x _=>⟨fun h=>(by cases h),fun h=>(by rcases h with⟨h,_⟩|⟨_,h⟩<;>simp at h)⟩,fun _=>zO _⟩;obtain⟨i0,an,aG⟩:=Option.map_eq_some_iff.1 Hc;simp only[Prod.mk.injEq]at aG;obtain⟨au,av,aw⟩:=aG;replace an:=zh an;replace au:=zh au;replace av:=zh av;replace aw:=zh aw;replace hG:=zh hG;replace ah:=zh ah;replace ao:=zh ao;go_enter func83,ntmps83;go_wp2;clear aN
 go_loopw [13] (fun ix wr=>∃(i:Nat)(v':Nat->Value)(T:Nat->List Nat),i<=n/\ix=.int .i64 (i:Int)/\Hid (Below w.heap.size w wr)/\Hid (Gr wr w.heap.size w.heap.size n v' T)/\Hid (TurnI n i 0 adj T)) (fun ix _=>n-(intOf ix).toNat)
 case atStart=>exact⟨0,_,_,zO _,rfl,ax,az,aA⟩
 case round=>
  obtain⟨i,v',T,hi,rfl,hB,al,hT⟩:=hrel;clear ax az aA
  by_cases ai:i<n
  .have aD:=ah.o i ai;have hd:=(hB.o.cell (p:=⟨R,i,none⟩) hG.o.lt).trans (hG.o.hd i ai);have j0:(0:Int)<=(i:Int):=by omega
   have j1:(i:Int)<(n:Int):=by omega
   rcases DF (hG.o.rows i ai) with⟨ak,aj⟩|⟨g,cap,aF,_,aM,_,d⟩
   .rw [ak]at hd
    have af:Hid (TurnI n (i+1) 0 adj T):=by
     have h:=hT.o;refine TurnI.next ?_ aD;rw[aj];exact h
    clear ak aj;go_wp2
    go_loopw [20] (fun ix wz=>ix=.int .i64 0/\wz=wr) (fun _ _=>0)
    case atStart=>exact⟨rfl,rfl⟩
    case round=>
     obtain⟨rfl,rfl⟩:=hrel;go_wp2;exact⟨⟨i+1,v',T,by omega,by go_num,hB,al,af⟩,by simp only[intOf];omega⟩
   rw[aF]at hd;replace d:=zh d;clear aF;go_wp2
   go_loopw [20] (fun ix wz=>∃(j:Nat)(v2:Nat->Value)(T2:Nat->List Nat),j<=(adj i).length/\ix=.int .i64 (j:Int)/\Hid (Below w.heap.size w wz)/\Hid (Gr wz w.heap.size w.heap.size n v2 T2)/\Hid (TurnI n i j adj T2)) (fun ix _=>(adj i).length-(intOf ix).toNat)
   case atStart=>exact⟨0,v',T,zO _,rfl,hB,al,hT⟩
   case round=>
    obtain⟨j,v2,T2,hj,rfl,ad,aa,af⟩:=hrel
    by_cases hjl:j<(adj i).length
    .have hq:=ao.o i (adj i)[j] ai (zQ hjl);have e1:=(ad.o.cell (p:=⟨g,j,none⟩) aM).trans (d.o j hjl);have aB:=zh (af.o.step hjl);obtain⟨q,ar⟩:∃x,x=(adj i)[j]:=⟨_,rfl⟩;rw[<-ar]at hq e1 aB;replace ar:=zh ar;obtain⟨vh,ab⟩:∃x,x=v2 q:=⟨_,rfl⟩;have aC:=aa.o.hd q hq;have aL:=aa.o.fr q;have aP:=aa.o.lt;have s:=aa.o.rows q hq;rw[<-ab]at aC s;have aO:Hid (vh.ownBlock≠some w.heap.size):=by rw[ab];exact aa.o.ne q hq
     replace ab:=zh ab;replace s:=zh s;have aQ:=af.o.2 q;have aR:=ad.o.size;have ay:Hid (Below w.heap.size w (wr.alloc (.cells #[.int .i64 (i:Int)] 3))):=ad.o.alloc ad.o.size _;have ae:=zh (aa.o.alloc (.cells #[.int .i64 (i:Int)] 3));have aK:Hid (World.cell? (wr.alloc (.cells #[.int .i64 (i:Int)] 3)) ⟨w.heap.size,q,none⟩=some vh):=by rw[ab.o];exact ae.o.hd q hq
     have q0:(0:Int)<=(q:Int):=by omega
     have q1:(q:Int)<(n:Int):=by omega
     have q2:(0:Int)<=(j:Int):=by omega
     have q3:(j:Int)<((adj i).length:Int):=by omega
     go_wp2_with (at_builtin;refine wpList_append_new _ rfl _ _ 26 rfl w.heap.size 3 i0 (.int .i64 0) 1 8 underlying26 an.o au.o av.o aw.o rfl (by decide) vh (T2 q).length (Bz (T2 q)) rfl (s.o.alloc _) ⟨wr.heap.size,0,none⟩ 1 1 [.int .i64 (i:Int)] rfl rfl (BA _ _ _) (AQ _ rfl) (by omega) (by unfold maxLen;omega) (by omega) (by simp;omega) ?_;intro vb wb aq ag aE;have aI:Hid (Gr (wb.setCell ⟨w.heap.size,q,none⟩ vb) w.heap.size w.heap.size n (fun x=>if x=q then vb else v2 x) (EJ T2 q i)):=(ae.o.step hq (by rw[<-ab.o];exact ag) aq (by rw[<-ab.o];exact aE));have aH:Hid (Below w.heap.size w (wb.setCell ⟨w.heap.size,q,none⟩ vb)):=((ay.o.grown ag ay.o.size (fun b e=>(s.o.lt b e).1)).setCell (p:=⟨w.heap.size,q,none⟩) (zB _) _);have am:=ag.block w.heap.size ae.o.lt (fun e=>aO.o e.symm);have y1:=(zR (a:=⟨w.heap.size,q,none⟩) am).trans aK.o;have y2:=(zu (a:=⟨w.heap.size,q,none⟩) am).trans (ae.o.fr q);have y3:w.heap.size<wb.heap.size:=zL ae.o.lt ag.size;obtain⟨g9,cap9,rfl⟩:=Ql aq;clear aq ag aE am aC aL)
     exact⟨⟨j+1,_,_,by omega,by go_num,aH,aI,aB⟩,by simp only[intOf];omega⟩
    obtain rfl:j=(adj i).length:=by omega
    have aJ:=zh (af.o.next aD);go_wp2;exact⟨⟨i+1,v2,T2,by omega,by go_num,ad,aa,aJ⟩,by simp only[intOf];omega⟩
  obtain rfl:i=n:=by omega
  go_wp2;go_ret;exact⟨⟨_,v',T,rfl,al.o,hT.o⟩,hB.o⟩
structure Kp(xs:List Nat)(w w':World):Prop where
 os:w'.os=w.os
 tape:w'.tape=w.tape
 output:w'.output=w.output
 size:w.heap.size<=w'.heap.size
 block:∀k,k<w.heap.size->k∉xs->w'.heap[k]? = w.heap[k]?
section
variable {xs:List Nat} {w w' w'':World} {B R n i b c mb:Nat} {v:Nat->Value} {adj ls:Nat->List Nat} {α:Type} {P:Program} {k:TypeId} {κ:α->Lit} {f:α->Option Value} {t:TypeId} {cs:List Value}
theorem Kp.refl(xs:List Nat)(w:World):Kp xs w w:=⟨rfl,rfl,rfl,zB _,fun _ _ _=>rfl⟩
theorem Kp.below(h:Kp xs w w')(hb:Below w'.heap.size w' w''):Kp xs w w'' :=
 ⟨hb.os.trans h.os,hb.tape.trans h.tape,hb.output.trans h.output,zV h.size hb.size,fun k hk hx=>(hb.block k (zL hk h.size)).trans (h.block k hk hx)⟩
theorem Kp.alloc(h:Kp xs w w')(o:Obj):Kp xs w (w'.alloc o):=h.below ((zI _ w').alloc (zB _) o)
theorem Kp.drew(h:Kp xs w w'):Kp xs w w'.drew:=h.below (zI _ w').drew
theorem Kp.grown{row:Option Nat}(h:Kp xs w w')(hg:w'.grownBy w'' row)(hr:∀b,row=some b->b∈xs\/w.heap.size<=b):Kp xs w w'' :=
 ⟨hg.os.trans h.os,hg.tape.trans h.tape,hg.output.trans h.output,zV h.size hg.size,fun k hk hx=>(hg.block k (zL hk h.size) (fun e=>by
   rcases hr k e.symm with h1|h1
   .exact hx h1
   omega)).trans (h.block k hk hx)⟩
theorem AO(w:World)(a:Addr)(u:Value):w.grownBy (w.setCell a u) (some a.block):=⟨rfl,rfl,rfl,by simp,fun k _ hk=>zg _ _ _ _ (fun e=>hk (by rw[e]))⟩
theorem L3(w:World)(o:Obj)(row:Option Nat):w.grownBy (w.alloc o) row:=⟨rfl,rfl,rfl,by simp,fun k hk _=>wv w o hk⟩
theorem Kp.set(h:Kp xs w w'){a:Addr}(u:Value)(ha:a.block∈xs\/w.heap.size<=a.block):Kp xs w (w'.setCell a u):=h.grown (AO w' a u) fun b e=>by cases e;exact ha
theorem Kp.to_below(h:Kp xs w w'){w0:World}(h0:Below w0.heap.size w0 w)(hx:∀x,x∈xs->w0.heap.size<=x):Below w0.heap.size w0 w' :=
 h0.trans ⟨h.os,h.tape,h.output,h.size,fun k hk=>h.block k (zL hk h0.size) fun e=>by have:=hx k e;omega⟩
theorem Kp.heap(h:Kp xs w w')(hb:b<w.heap.size)(hx:b∉xs):w'.heap[b]? = w.heap[b]?:=h.block b hb hx
theorem Gr.of_block(h:Gr w B R n v adj)(hs:w.heap.size<=w'.heap.size)(hR:w'.heap[R]? = w.heap[R]?)(hv:∀i b,i<n->(v i).ownBlock=some b->w'.heap[b]? = w.heap[b]?):Gr w' B R n v adj :=
 ⟨zL h.lt hs,fun i hi=>(zR (a:=⟨R,i,none⟩) hR).trans (h.hd i hi),fun i=>(zu (a:=⟨R,i,none⟩) hR).trans (h.fr i),fun i hi=>by
   obtain⟨h1,h2⟩:=h.rows i hi;refine⟨h1,?_⟩
   rcases h2 with h2|⟨g,cap,cur,d,hg,hh,rest⟩
   .exact .inl h2
   exact .inr ⟨g,cap,cur,d,hg,(hv i g hi (by rw[d];rfl)).trans hh,rest⟩,h.apart,h.ne,h.lowR⟩
theorem Gr.kp(h:Gr w B R n v adj)(hk:Kp xs w w')(hR:R∉xs)(hv:∀i b,i<n->(v i).ownBlock=some b->b∉xs):Gr w' B R n v adj :=
 h.of_block hk.size (hk.block R h.lt hR) fun i b hi e=>hk.block b ((h.rows i hi).lt b e).2 (hv i b hi e)
theorem MapK.kp(h:MapK P k κ w b c f)(hk:Kp xs w w')(hb:b∉xs):MapK P k κ w' b c f:=h.block (hk.block b h.lt hb)
theorem Bk.kp(h:Bk w b t cs)(hk:Kp xs w w')(hb:b∉xs):Bk w' b t cs:=by
 have e:=hk.block b h.lt hb;exact(show w'.heap[b]? = _ from e.trans h)
structure LM(w:World)(B mb n c:Nat)(v:Nat->Value)(ls:Nat->List Nat):Prop where
 map:∃f:Int->Option Value,MapK prog 3 κi w mb c f/\∀x:Nat,x<n->f (x:Int)=if ls x=[] then none else some (v x)
 nil:∀x,x<n->ls x=[]->v x=.slice none 0 0
 rows:∀x,x<n->w.ownsRow B 3 1 (v x) (ls x).length (Bz (ls x))
 apart:∀i j,i<n->j<n->i≠j->SB (v i) (v j)
 ne:∀x,x<n->(v x).ownBlock≠some mb
theorem LM.lt(h:LM w B mb n c v ls):mb<w.heap.size:=by obtain⟨f,h,_⟩:=h.map;exact h.lt
theorem LM.grown{row:Option Nat}(h:LM w B mb n c v ls)(hg:w.grownBy w' row)(hm:row≠some mb)(hv:∀x b,x<n->(v x).ownBlock=some b->row≠some b):LM w' B mb n c v ls:=by
 obtain⟨f,h1,h2⟩:=h.map;refine⟨⟨f,h1.kept hg fun e=>hm e.symm,h2⟩,h.nil,fun x hx=>(h.rows x hx).kept hg ?_,h.apart,h.ne⟩
 cases hu:(v x).ownBlock with
 |none=>exact .inl rfl
 |some b=>exact .inr fun e=>hv x b hx hu e.symm
theorem LM.set(h:LM w B mb n c v ls){a:Addr}(u:Value)(hm:a.block≠mb)(hv:∀x,x<n->(v x).ownBlock≠some a.block):LM (w.setCell a u) B mb n c v ls :=
 h.grown (AO w a u) (fun e=>hm (Option.some.inj e)) fun x b hx e e2=>hv x hx (by rw[e,e2])
theorem LM.alloc(h:LM w B mb n c v ls)(o:Obj):LM (w.alloc o) B mb n c v ls:=h.grown (L3 w o none) (by simp) fun _ _ _ _=>by simp
theorem LM.drew(h:LM w B mb n c v ls):LM w.drew B mb n c v ls:=⟨h.map,h.nil,h.rows,h.apart,h.ne⟩
theorem LM.below(h:LM w B mb n c v ls)(hb:Below w.heap.size w w'):LM w' B mb n c v ls :=
 h.grown (row:=none) ⟨hb.os,hb.tape,hb.output,hb.size,fun k hk _=>hb.block k hk⟩ (by simp) fun _ _ _ _=>by simp
theorem LM.made(w:World)(B n:Nat):LM (w.alloc (.map #[] 0)) B w.heap.size n 0 (fun _=>.slice none 0 0) fun _=>[] :=
 ⟨⟨_,MapK.made w _ _ _,fun _ _=>(zE rfl).symm⟩,fun _ _ _=>rfl,fun _ _=>zq _ _ _ _,fun _ _ _ _ _ _ hb=>(by cases hb),fun _ _ h=>(by cases h)⟩
theorem SF(w:World):(zeroValue 26).run prog w=.ok (.slice none 0 0) w:=by kernel_rfl
theorem LM.look(h:LM w B mb n c v ls){x:Nat}(hx:x<n)(hn:n<=1000):(Instr.lookup 106 (.map (some mb)) (.int .i64 (x:Int)) false).run prog w=.ok (v x) w:=by
 obtain⟨f,h1,h2⟩:=h.map;have:=h1.look FO underlying106 (SF w) (EI underlying3 (a:=(x:Int)) (by omega) (by omega));rw[this,h2 x hx]
 by_cases e:ls x=[]
 .rw[zE e,h.nil x hx e];rfl
 rw[zC e];rfl
theorem LM.step(h:LM w B mb n c v ls){x q:Nat}(hx:x<n)(hn:n<=1000)(hc:c<maxLen){u:Value}(hg:w.grownBy w' (v x).ownBlock)(ho:w'.ownsRow B 3 1 u ((ls x).length+1) (Bz (ls x)++[.int .i64 (q:Int)]))(hu:u.ownBlock=(v x).ownBlock\/u.ownBlock=some w.heap.size):
 ∃w'',(Instr.mapUpdate 106 (.map (some mb)) (.int .i64 (x:Int)) u).run prog w'=.ok () w''/\LM w'' B mb n (if ls x=[] then c+1 else c) (fun i=>if i=x then u else v i) (EJ ls x q)/\w'.grownBy w'' (some mb):=by
 obtain⟨f,h1,h2⟩:=h.map;have ab:some mb≠(v x).ownBlock:=fun e=>h.ne x hx e.symm;have ah:=h.lt
 have af:u.ownBlock≠some mb:=fun e=>by
  rcases hu with hu|hu
  .exact ab (by rw[<-hu,e])
  rw[e]at hu;simp only[Option.some.injEq]at hu;omega
 obtain⟨w'',ae,hM,s⟩:=(h1.kept hg ab).put G6 FO underlying106 hc (EI underlying3 (a:=(x:Int)) (by omega) (by omega)) u
 have d:∀i,i<n->i≠x->SB (v i) u:=fun i hi ag b hb e=>by
  rcases hu with hu|hu
  .exact h.apart i x hi hx ag b hb (by rw[<-hu,e])
  have:=((h.rows i hi).lt b hb).2;rw[e]at hu;simp only[Option.some.injEq]at hu;omega
 have ad:EJ ls x q x≠[]:=by simp[EJ]
 refine⟨w'',ae,⟨⟨PK f (x:Int) (some u),?_,fun y hy=>?_⟩,fun y hy he=>?_,fun y hy=>?_,fun i j hi hj aa=>?_,fun y hy=>?_⟩,s⟩
 .have e:(if (f (x:Int)).isSome then c else c+1)=if ls x=[] then c+1 else c:=by
   rw[h2 x hx]
   by_cases e:ls x=[]
   .rw[zE e,zE e];rfl
   rw[zC e,zC e];rfl
  rw[e]at hM;exact hM
 .by_cases e:y=x
  .subst e;rw[Cn,zC ad,zE rfl]
  rw[Cg (fun c=>e (by omega)),h2 y hy,zC e];have:EJ ls x q y=ls y:=zC e;rw[this]
 .by_cases e:y=x
  .subst e;exact absurd he ad
  rw[zC e];have:EJ ls x q y=ls y:=zC e;rw[this]at he;exact h.nil y hy he
 .by_cases e:y=x
  .subst e;rw[zE rfl];have:EJ ls y q y=ls y++[q]:=zE rfl;rw[this,zY,DE];refine ho.kept s ?_
   cases hv:u.ownBlock with
   |none=>exact .inl rfl
   |some b=>exact .inr fun c=>af (by rw[hv,c])
  rw[zC e];have:EJ ls x q y=ls y:=zC e;rw[this];refine((h.rows y hy).kept hg ?_).kept s ?_
  .cases hv:(v y).ownBlock with
   |none=>exact .inl rfl
   |some b=>exact .inr fun c=>h.apart y x hy hx e b hv c.symm
  cases hv:(v y).ownBlock with
  |none=>exact .inl rfl
  |some b=>exact .inr fun c=>h.ne y hy (by rw[hv,c])
 .by_cases e1:i=x
  .have e2:j≠x:=fun c=>aa (by rw[e1,c]);rw[zE e1,zC e2];exact fun b hb hc=>d j hj e2 b hc hb
  rw[zC e1]
  by_cases e2:j=x
  .rw[zE e2];exact d i hi e1
  rw[zC e2];exact h.apart i j hi hj aa
 by_cases e:y=x
 .rw[zE e];exact af
 rw[zC e];exact h.ne y hy
theorem Cu{W:World}{base n:Nat}{e:TypeId}{u:Value}{xs:List Value}(h:W.ownsRow base e 1 u n xs):∃A cap,u=.slice A n cap:=by
 rcases h.2 with⟨rfl,rfl⟩|⟨g,cap,_,rfl,_⟩
 .exact⟨none,0,rfl⟩
 exact⟨_,cap,rfl⟩
theorem Iv{xs:List Nat}{base m:Nat}{e:TypeId}{u:Value}{l:List Value}{w:World}(h:w.ownsRow base e 1 u m l)(hk:Kp xs w w')(hb:∀b,u.ownBlock=some b->b∉xs):w'.ownsRow base e 1 u m l:=by
 obtain⟨h1,h2⟩:=h;refine⟨h1,?_⟩
 rcases h2 with h2|⟨g,cap,cur,hv,hg,hh,rest⟩
 .exact .inl h2
 exact .inr ⟨g,cap,cur,hv,hg,(hk.block g (Array.getElem?_eq_some_iff.1 hh).1 (hb g (by rw[hv];rfl))).trans hh,rest⟩
structure RoI(w:World)(b n:Nat)(o:Nat->Int):Prop where
 lt:b<w.heap.size
 cell:∀x,x<n->w.cell? ⟨b,x,none⟩=some (.int .i64 (o x))
 fr:∀x,w.frozen? ⟨b,x,none⟩=false
theorem RoI.of_block{o:Nat->Int}(h:RoI w b n o)(hs:w.heap.size<=w'.heap.size)(hb:w'.heap[b]? = w.heap[b]?):RoI w' b n o :=
 ⟨zL h.lt hs,fun x hx=>(zR (a:=⟨b,x,none⟩) hb).trans (h.cell x hx),fun x=>(zu (a:=⟨b,x,none⟩) hb).trans (h.fr x)⟩
theorem RoI.below{o:Nat->Int}(h:RoI w b n o)(hb:Below w.heap.size w w'):RoI w' b n o:=h.of_block hb.size (hb.block b h.lt)
theorem RoI.grown{o:Nat->Int}{row:Option Nat}(h:RoI w b n o)(hg:w.grownBy w' row)(hr:row≠some b):RoI w' b n o:=h.of_block hg.size (hg.block b h.lt fun e=>hr e.symm)
theorem RoI.alloc{o:Nat->Int}(h:RoI w b n o)(x:Obj):RoI (w.alloc x) b n o:=h.below ((zI _ w).alloc (zB _) x)
theorem RoI.set{o:Nat->Int}(h:RoI w b n o){x:Nat}(hx:x<n)(r:Int):RoI (w.setCell ⟨b,x,none⟩ (.int .i64 r)) b n (E0 o x r):=by
 refine⟨by simpa using h.lt,fun y hy=>?_,fun y=>by simpa using h.fr y⟩
 by_cases e:y=x
 .subst e;rw[Bg];exact zr _ _ _ (h.cell y hy)
 rw[AS e,zZ _ _ _ _ (fun c=>by injection c with _ c2;first|exact e c2|exact e c2.symm)];exact h.cell y hy
theorem RoI.made(w:World)(n:Nat)(t:TypeId):RoI (w.alloc (.cells (madeCells #[.int .i64 0] n) t)) w.heap.size n fun _=>0:=by
 have h:=zo w (.cells (madeCells #[(.int .i64 0:Value)] n) t);refine⟨by simp,fun x hx=>?_,fun x=>by simp only[World.frozen?,h];simp⟩;simp only[World.cell?,h];simp[madeCells,hx];rw[xW];rfl
theorem RoI.of_row{r:Int}{t:TypeId}(h:w.heap[b]? = some (.cells (List.replicate n (.int .i64 r)).toArray t (0,0))):RoI w b n fun _=>r:=by
 refine⟨(Array.getElem?_eq_some_iff.1 h).1,fun x hx=>?_,fun x=>by simp[World.frozen?,h]⟩;simp[World.cell?,h,hx]
theorem RoI.congr{o o':Nat->Int}(h:RoI w b n o)(e:∀x,x<n->o x=o' x):RoI w b n o':=⟨h.lt,fun x hx=>by rw[<-e x hx];exact h.cell x hx,h.fr⟩
theorem RoI.inInt{o:Nat->Int}(h:RoI w b n o):InInt w (some ⟨b,0,none⟩) ((List.range n).map o):=fun _=>⟨b,0,rfl,h.lt,fun j hj=>by
 have a:j<n:=by simpa using hj
 rw[zm,h.cell j a];simp⟩
end
end Ci
end
section
open Go.RowKit Go.Shelf
namespace Nt
theorem Ep{q:Rat}(h:OkQ q):Ei (rq q):=by
 have:=AW (AY h);unfold Ei rq;exact⟨by have:=this.1;dsimp only;omega,by have:=this.2;dsimp only;omega⟩
theorem D0{w w':World}{B:Nat}{t:TypeId}{size:Nat}{v:Value}{n:Nat}{xs:List Value}(h:w.ownsRow B t size v n xs)(hb:Below w.heap.size w w'):w'.ownsRow B t size v n xs :=
 h.kept (row:=none) ⟨hb.os,hb.tape,hb.output,hb.size,fun k hk _=>hb.block k hk⟩ (by cases hv:v.ownBlock<;>simp)
theorem Iw{n k i:Nat}{M M':Mx}(hO:∀a b,a<n->b<=n->OkQ (M a b))(h:Bp SQ n k i M=some M'):∀a b,a<n->b<=n->OkQ (M' a b):=by
 unfold Bp at h
 split at h
 .simp only[Option.some.injEq]at h;rw[<-h];exact hO
 split at h
 .rename_i hs;simp only[Option.some.injEq]at h;rw[<-h];have hk:=(Dy SQ).1 hs;intro a b ha hb;unfold CE
  split
  .rename_i hc;obtain⟨h1,h2,h3,h4⟩:=hk b hc.2 hb;exact OH (zf h3) (zf h4)
  exact hO a b ha hb
 cases h
theorem Qm{n k:Nat}{M:Mx}(hO:∀a b,a<n->b<=n->OkQ (M a b)):∀{i:Nat} {M':Mx},i<=n->AB SQ n k i M=some M'->∀a b,a<n->b<=n->OkQ (M' a b):=by
 intro i
 induction i with
 |zero=>intro M' _ h;simp only[AB,Option.some.injEq]at h;rw[<-h];exact hO
 |succ i ih=>
  intro M' hi h;simp only[AB,Option.bind_eq_some_iff]at h;obtain⟨M1,h1,h2⟩:=h;exact Iw (ih (by omega) h1) h2
theorem Ls{n k:Nat}{M M':Mx}(hk:k<n)(hO:∀a b,a<n->b<=n->OkQ (M a b))(h:Cb SQ n k M=.ok M'):∀a b,a<n->b<=n->OkQ (M' a b):=by
 unfold Cb at h
 split at h
 .cases h
 rename_i p hp;obtain⟨p1,p2,p3,_⟩:=FP (by omega) hp
 have ab:∀a b,a<n->b<=n->OkQ (AU k p M a b):=fun a b ha hb=>by
  unfold AU
  split
  .exact hO p b p2 hb
  split
  .exact hO k b hk hb
  exact hO a b ha hb
 split at h
 .rename_i hd;have d:=(CV SQ).1 hd;have aa:AU k p M k k≠0:=by unfold AU;rw[zE rfl];exact p3
  have s:∀a b,a<n->b<=n->OkQ (Bc k (AU k p M) a b):=fun a b ha hb=>by
   unfold Bc
   split
   .rename_i hc;obtain⟨h1,h2⟩:=d b hc.2 hb;exact Kd (zf h1) (zf h2) aa
   exact ab a b ha hb
  split at h
  .rename_i M2 h2;simp only[Except.ok.injEq]at h;rw[<-h];exact Qm s (zB n) h2
  cases h
 cases h
def Apart(u v:Value):Prop:=∀b,u.ownBlock=some b->v.ownBlock≠some b
theorem Apart.symm{u v:Value}(h:Apart u v):Apart v u:=fun b h1 h2=>h b h2 h1
theorem Qn(u:Value):Apart u (.slice none 0 0):=fun b _ h=>by cases h
section
variable {w w':World} {base:Nat} {e:TypeId} {size:Nat} {u v v':Value} {n:Nat} {xs:List Value}
theorem L4(h:w.ownsRow base e size u n xs)(hg:w.grownBy w' v.ownBlock)(ha:Apart u v):w'.ownsRow base e size u n xs :=
 h.kept hg (by
  cases hu:u.ownBlock with
  |none=>exact .inl rfl
  |some b=>exact .inr fun e2=>ha b hu e2.symm)
theorem J1(h:w.ownsRow base e size u n xs)(hn:v'.ownBlock=v.ownBlock\/v'.ownBlock=some w.heap.size)(ha:Apart u v):Apart u v':=fun b hb h2=>by
 rcases hn with hn|hn
 .exact ha b hb (hn▸h2)
 have:=(h.lt b hb).2;rw[hn]at h2;simp only[Option.some.injEq]at h2;omega
theorem BZ{P:Program}(t ty e:TypeId)(i:TypeInfo)(z:Value)(size bytes:Nat)(ht:P.underlying t=some (.slice e))(hi:P.info? e=some i)(hz:i.zero=some z)
 (ad:i.size=size)(ah:i.bytes=bytes)(v:Value)(n:Nat)(xs:List Value)(s:w.ownsRow base e size v n xs)
 (a:Addr)(m c:Nat)(news:List Value)(hl:news.length=m*size)(d:∀j u,news[j]? = some u->w.cell? (a.add j)=some u)(h1:∀u∈news,u.oneCell'=true)(hm:0<m)
 (ag:n+m<=maxLen)(h:(n+m)*bytes<=140737488355328){v':Value}{w':World}(hr:(Builtin.append_ #[t,t] ty #[v,.slice (some a) m c]).run P w=.ok v' w'):
 v'.ownBlock=v.ownBlock\/v'.ownBlock=some w.heap.size:=by
 subst ad;subst ah;have af:n+m<=9223372036854775807:=by simp only[maxLen]at ag;omega
 rcases s.2 with⟨rfl,rfl⟩|⟨g,cap,cur,rfl,_,hg,_,aj,ai,_⟩
 .have aa:=run_append_nil (P:=P) w t ty e i z ht hi hz a m c news hl d (by omega) (by omega) (by have hb:=h;simp only[zm]at hb;omega);rw[aa]at hr;simp only[Result.ok.injEq]at hr;rw[<-hr.1];exact .inr rfl
 by_cases hroom:n+m<=cap
 .have ae:n*i.size+news.length<=cur.size:=by rw[hl,ai,<-yE];exact yO _ hroom
  have aa:=run_append_room (P:=P) w t ty e i ht hi g n cap cur hg a m c news hl d h1 hroom ae;rw[aa]at hr;simp only[Result.ok.injEq]at hr;rw[<-hr.1];exact .inl rfl
 have ab:∀j u,xs[j]? = some u->w.cell? ((⟨g,0,none⟩:Addr).add j)=some u:=s.cells (g:=g) rfl;have aa:=run_append_grow (P:=P) w t ty e i z ht hi hz ⟨g,0,none⟩ n cap xs s.1 ab a m c news hl d (by omega) (by omega) (growslice_fits (by omega) h);rw[aa]at hr;simp only[Result.ok.injEq]at hr;rw[<-hr.1];exact .inr rfl
end
theorem wpList_append_new{P:Program}(w:World){ops:Array Oper}{rest:List Oper}{o:Oper}{a:Act}{Q:Exit->Act->World->Prop}(ai:o.guard=none)(s x:Operand)(t:TypeId)
 (ho:o.op=.call { callee:=.builtin .append,args:=#[s,x],argTypes:=#[t,t] })
 (base:Nat)(e:TypeId)(i:TypeInfo)(z:Value)(size bytes:Nat)(ht:P.underlying t=some (.slice e))(hi:P.info? e=some i)(hz:i.zero=some z)
 (ab:i.size=size)(ah:i.bytes=bytes)(ak:z.cells.size=size)(aj:0<size)
 (v:Value)(n:Nat)(xs:List Value)(hs:a.eval s=v)(ae:w.ownsRow base e size v n xs)
 (ad:Addr)(m c:Nat)(news:List Value)(hx:a.eval x=.slice (some ad) m c)(hl:news.length=m*size)(aa:∀j u,news[j]? = some u->w.cell? (ad.add j)=some u)(h1:∀u∈news,u.oneCell'=true)(hm:0<m)
 (ag:n+m<=maxLen)(d:(n+m)*bytes<=140737488355328)(af:base<=w.heap.size)
 (h:∀v' w',w'.ownsRow base e size v' (n+m) (xs++news)->w.grownBy w' v.ownBlock->(v'.ownBlock=v.ownBlock\/v'.ownBlock=some w.heap.size)->wpList P ops Q rest (a.put o.dst v') w'):wpList P ops Q (o::rest) a w :=
 wpList_plain ai fun _ hK=>by
  obtain⟨v',w',hr,h2,h3,_⟩:=wn (P:=P) w base t o.type e i z size bytes ht hi hz ab ah ak aj v n xs ae ad m c news hl aa h1 ag d af;have h5:=BZ (P:=P) t o.type e i z size bytes ht hi hz ab ah v n xs ae ad m c news hl aa h1 hm ag d hr;unfold Oper.wp execOp;simp only[ho,resolve,invoke,builtin,Sem.run_bind,vT,wc,vF,wW,vX,hs,hx,hr];exact hK _ _ (h v' w' h2 h3 h5)
theorem AQ(v:Value)(h:v.oneCell'=true):∀u∈[v],u.oneCell'=true:=fun u hu=>by rw[List.mem_singleton.1 hu];exact h
theorem BA(w:World)(v:Value)(t:TypeId):∀j u,[v][j]? = some u->(w.alloc (.cells #[v] t)).cell? (Addr.add ⟨w.heap.size,0,none⟩ j)=some u:=by
 intro j u hj
 match j,hj with
 |0,hj=>simp at hj;subst hj;simp[Addr.add]
 |j+1,hj=>simp at hj
end Nt
end
section
open Go.RowKit Go.Shelf
namespace Nt
def hdr(x:RowH):Value:=.slice x.1 x.2.2.length x.2.1
def SG:RowH:=(none,0,[])
structure Qd(W:World)(B n:Nat)(la:List RowH)(lb:List Raw)(y7 y9 y8 z:Nat)(v7 v8 v9 v11:Value)(R:Nat->Value):Prop where
 o7:W.ownsRow B 27 1 v7 y7 ((List.range y7).map fun i=>hdr (la.getD (n-1-i) SG))
 o9:W.ownsRow B 34 3 v9 y9 (AN y9 fun i=>lb.getD (n-1-i) zraw)
 o8:W.ownsRow B 27 1 v8 y8 ((List.range y8).map R)
 oR:∀i,i<y8->W.ownsRow B 34 3 (R i) n (AN n fun j=>(la.getD i SG).2.2.getD (n-1-j) zraw)
 o11:W.ownsRow B 34 3 v11 z (AN z fun j=>(la.getD y8 SG).2.2.getD (n-1-j) zraw)
 a78:Apart v7 v8
 a79:Apart v7 v9
 a89:Apart v8 v9
 a17:Apart v11 v7
 a18:Apart v11 v8
 a19:Apart v11 v9
 r7:∀i,i<y8->Apart (R i) v7
 r8:∀i,i<y8->Apart (R i) v8
 r9:∀i,i<y8->Apart (R i) v9
 r1:∀i,i<y8->Apart (R i) v11
section
variable {W W':World} {B n:Nat} {la:List RowH} {lb:List Raw} {y7 y9 y8 z:Nat} {v7 v8 v9 v11 v':Value} {R:Nat->Value}
theorem Qd.below(h:Qd W B n la lb y7 y9 y8 z v7 v8 v9 v11 R)(hb:Below W.heap.size W W'):Qd W' B n la lb y7 y9 y8 z v7 v8 v9 v11 R :=
 ⟨D0 h.o7 hb,D0 h.o9 hb,D0 h.o8 hb,fun i hi=>D0 (h.oR i hi) hb,D0 h.o11 hb,h.a78,h.a79,h.a89,h.a17,h.a18,h.a19,h.r7,h.r8,h.r9,h.r1⟩
theorem Qd.alloc(h:Qd W B n la lb y7 y9 y8 z v7 v8 v9 v11 R)(o:Obj):Qd (W.alloc o) B n la lb y7 y9 y8 z v7 v8 v9 v11 R:=h.below ((zI _ W).alloc (zB _) o)
end
theorem inMat_of_own{w:World}{base:Nat}{v:Value}{L:List RowH}(h:w.ownsRow base 27 1 v L.length (L.map hdr))(hr:∀x∈L,InRow w x.1 x.2.2):
 ∃A c,v=.slice A L.length c/\InMat w A L:=by
 rcases h.2 with⟨rfl,h0⟩|⟨g,cap,cur,rfl,hb,hg,h4,h5,h6,h7⟩
 .exact⟨none,0,by rw[h0],fun h=>absurd h (by omega)⟩
 refine⟨some ⟨g,0,none⟩,cap,rfl,fun h0=>⟨g,0,rfl,(Array.getElem?_eq_some_iff.1 hg).1,fun j hj=>?_⟩⟩;have hc:=h.cells (g:=g) (by simp[Value.ownBlock]) j (hdr L[j]) (by simp[hj]);have a:∀o,(⟨g,0,none⟩:Addr).add o=⟨g,o,none⟩:=fun o=>by unfold Addr.add;split<;>simp_all
 rw[a]at hc;rw[zm];exact⟨hc,hr _ (zQ hj)⟩
theorem Us(Aa Ab:Option Addr)(ca cb:Nat)(la:List RowH)(lb:List Raw)(w:World)(hE:Env w)(hs:SysIn w Aa Ab la lb):
 Calls prog 45 #[.slice Aa la.length ca,.slice Ab lb.length cb] w fun e w'=>(∃p c,e=.returned (.tuple #[.slice p (V5 (C5 (AJ la) lb)).length c,.int .i64 (WT (C5 (AJ la) lb))])/\InRow w' p (V5 (C5 (AJ la) lb)))/\Below w.heap.size w w':=by
 cases h:C5 (AJ la) lb with
 |ok xs=>exact Sq Aa Ab ca cb la lb xs w hE hs h
 |error er=>exact(Sr Aa Ab ca cb la lb er w hE hs h).mono fun e w' h=>⟨⟨none,0,h.1,fun h=>absurd h (by simp[V5])⟩,h.2⟩
end Nt
end
section
open Go.RowKit Go.Shelf
namespace Nt
theorem Cu{W:World}{base:Nat}{e:TypeId}{size:Nat}{v:Value}{n:Nat}{xs:List Value}(h:W.ownsRow base e size v n xs)(hn:0<n):
 ∃g cap,v=.slice (some ⟨g,0,none⟩) n cap/\base<=g/\g<W.heap.size/\(∀j,W.frozen? ⟨g,j,none⟩=false)/\∀j u,xs[j]? = some u->W.cell? ⟨g,j,none⟩=some u:=by
 rcases h.2 with⟨rfl,h0⟩|⟨g,cap,cur,rfl,hb,hg,_⟩
 .omega
 refine⟨g,cap,rfl,hb,(Array.getElem?_eq_some_iff.1 hg).1,fun j=>by simp[World.frozen?,hg],fun j u hj=>?_⟩;have hc:=h.cells (g:=g) (by simp[Value.ownBlock]) j u hj;have a:∀o,(⟨g,0,none⟩:Addr).add o=⟨g,o,none⟩:=fun o=>by unfold Addr.add;split<;>simp_all
 rwa [a]at hc
theorem Kl{W:World}{base:Nat}{e:TypeId}{size g n cap i:Nat}{xs:List Value}{v:Value}(h:W.ownsRow base e size (.slice (some ⟨g,0,none⟩) n cap) n xs):
 (W.setCell ⟨g,i,none⟩ v).ownsRow base e size (.slice (some ⟨g,0,none⟩) n cap) n (xs.set i v):=by
 refine⟨by rw[List.length_set];exact h.1,?_⟩
 rcases h.2 with⟨h0,_⟩|⟨g',cap',cur,h1,hb,hg,h4,h5,h6,h7⟩
 .cases h0
 simp only[Value.slice.injEq,Option.some.injEq,Addr.mk.injEq,and_true,true_and]at h1;obtain⟨rfl,rfl⟩:=h1;refine .inr ⟨g,cap,cur.setIfInBounds i v,rfl,hb,?_,h4,h5,by simpa using h6,?_⟩
 .simp[World.setCell,Array.getElem?_modify,hg]
 rw[Array.toList_setIfInBounds,List.take_set,h7]
theorem DT{W:World}{base:Nat}{e:TypeId}{size n:Nat}{xs:List Value}{u v:Value}{g i:Nat}(h:W.ownsRow base e size u n xs)(ha:u.ownBlock≠some g):
 (W.setCell ⟨g,i,none⟩ v).ownsRow base e size u n xs :=
 h.kept (row:=some g) ⟨rfl,rfl,rfl,by simp,fun k _ hk=>zg _ _ _ _ (fun e=>hk (by rw[e]))⟩ (.inr ha)
theorem AE{P:Program}(w:World){o:Oper}{a:Act}{K:Act->World->Prop}{Q:Exit->Act->World->Prop}(s x:Operand)(t:TypeId)
 (ho:o.op=.call { callee:=.builtin .append,args:=#[s,x],argTypes:=#[t,t] })
 (base:Nat)(e:TypeId)(i:TypeInfo)(z:Value)(size bytes:Nat)(ht:P.underlying t=some (.slice e))(hi:P.info? e=some i)(hz:i.zero=some z)
 (ab:i.size=size)(ah:i.bytes=bytes)(aj:z.cells.size=size)(ai:0<size)
 (v:Value)(n:Nat)(xs:List Value)(hs:a.eval s=v)(ae:w.ownsRow base e size v n xs)
 (ad:Addr)(m c:Nat)(news:List Value)(hx:a.eval x=.slice (some ad) m c)(hl:news.length=m*size)(aa:∀j u,news[j]? = some u->w.cell? (ad.add j)=some u)(h1:∀u∈news,u.oneCell'=true)(hm:0<m)
 (ag:n+m<=maxLen)(d:(n+m)*bytes<=140737488355328)(af:base<=w.heap.size)
 (h:∀v' w',w'.ownsRow base e size v' (n+m) (xs++news)->w.grownBy w' v.ownBlock->(v'.ownBlock=v.ownBlock\/v'.ownBlock=some w.heap.size)->K (a.put o.dst v') w'):o.wp P a w K Q:=by
 obtain⟨v',w',hr,h2,h3,_⟩:=wn (P:=P) w base t o.type e i z size bytes ht hi hz ab ah aj ai v n xs ae ad m c news hl aa h1 ag d af;have h5:=BZ (P:=P) t o.type e i z size bytes ht hi hz ab ah v n xs ae ad m c news hl aa h1 hm ag d hr;unfold Oper.wp execOp;simp only[ho,resolve,invoke,builtin,Sem.run_bind,vT,wc,vF,wW,vX,hs,hx,hr];exact h v' w' h2 h3 h5
end Nt
end
section
open Go.RowKit Go.Shelf
namespace Sh
open Nt Ci
def Ny(k:Nat):Code->Bool
 |.region a _ _=>a==k
 |_=>false
theorem OQ(s x y:Rat)(hs:ShortQ s)(hx:ShortQ x)(hy:ShortQ y)(a:ShortQ (x*y))(w:World)(hE:Env w):
 Calls prog 85 #[.agg #[.bool (rq s).1,.string (rq s).2.1,.string (rq s).2.2],.agg #[.bool (rq x).1,.string (rq x).2.1,.string (rq x).2.2],.agg #[.bool (rq y).1,.string (rq y).2.1,.string (rq y).2.2]] w fun e w'=>e=.returned (.agg #[.bool (rq (s+x*y)).1,.string (rq (s+x*y)).2.1,.string (rq (s+x*y)).2.2])/\Below w.heap.size w w' :=
 MV s x y hs hx hy a w hE
noncomputable def bdR(j:Nat):Code:=((Tryz.f44.body.map Ci.Bt).bind fun l=>l.find? (Ny j)).getD .skip
theorem WU{c0 c1 c2 c3 c4 c5 c7 c8 aq ar au av aw ax ay az aA aB aC aD aE aF aG aH aI aJ aK aL aM aN aO aP aQ aR aS aT aU aV aW aX aY aZ a0 a1 a2 a3 a4 a5 a6 a7 a8 a9 ba bb bc bd be bf bg bh bi bj bk bm bn bo bp bq br bs bt bu bv bx bz bA bB bC bD bE bF bG bH bI bJ ag ah ai aj ak al am an bK bL bM bN bO bP bQ bR bS bT bU:Value}{Q:Exit->Act->World->Prop}(mnb rb lb m k:Nat)(r:Nat->Raw)(q Ah:Rat)(c0v c1v:Value)(w:World)(hE:Env w)(hk:k<m)(_hm:m<=1000)(hr:RowB w rb m r)(bY:r k=rq q)(ab:Bk w mnb 34 [.bool (rq (-1)).1,.string (rq (-1)).2.1,.string (rq (-1)).2.2])(hl:Bk w lb 55 [c0v,c1v,.bool (rq Ah).1,.string (rq Ah).2.1,.string (rq Ah).2.2])(n1:rb≠mnb)(n2:rb≠lb)(h1:ShortQ q)(h2:ShortQ Ah)(h3:ShortQ (-1*Ah))
 (h:∀(u67 u68 u69 u70 u71 u72 u73 u74 u75 u76 u77:Value)(W:World)(_:Hid (RowB W rb m fun j=>if j=k then rq (q+-1*Ah) else r j))(_:Hid (Kp [rb] w W)),Q .normal ⟨#[c0,c1,c2,c3,c4,c5,.pointer (some ⟨mnb,0,none⟩),c7,c8,.slice (some ⟨rb,0,none⟩) m m,aq,ar,au,.pointer (some ⟨lb,0,none⟩),.int .i64 (k:Int),av,aw,ax,ay,az,aA,aB,aC,aD,aE,aF,aG,aH,aI,aJ,aK,aL,aM,aN,aO,aP,aQ,aR,aS,aT,aU,aV,aW,aX,aY,aZ,a0,a1,a2,a3,a4,a5,a6,a7,a8,a9,ba,bb,bc,bd,be,bf,bg,bh,bi,bj,bk,u67,u68,u69,u70,u71,u72,u73,u74,u75,u76,u77,bm,bn,bo,bp,bq,br,bs,bt,bu,bv,bx,bz,bA,bB,bC,bD,bE,bF,bG,bH,bI,bJ,ag,ah,ai,aj,ak,al,am,an],[]⟩ W):
 Code.wp prog (bdR 19) Q ⟨#[c0,c1,c2,c3,c4,c5,.pointer (some ⟨mnb,0,none⟩),c7,c8,.slice (some ⟨rb,0,none⟩) m m,aq,ar,au,.pointer (some ⟨lb,0,none⟩),.int .i64 (k:Int),av,aw,ax,ay,az,aA,aB,aC,aD,aE,aF,aG,aH,aI,aJ,aK,aL,aM,aN,aO,aP,aQ,aR,aS,aT,aU,aV,aW,aX,aY,aZ,a0,a1,a2,a3,a4,a5,a6,a7,a8,a9,ba,bb,bc,bd,be,bf,bg,bh,bi,bj,bk,bK,bL,bM,bN,bO,bP,bQ,bR,bS,bT,bU,bm,bn,bo,bp,bq,br,bs,bt,bu,bv,bx,bz,bA,bB,bC,bD,bE,bF,bG,bH,bI,bJ,ag,ah,ai,aj,ak,al,am,an],[]⟩ w:=by
 conv=>arg 2;whnf
 conv=>arg 4;zeta
 replace h:=zh h;have ae:Hid (Below w.heap.size w w.drew):=(zI _ w).drew;have kp:=zh (fun W hW=>OQ q (-1) Ah h1 (by decide +kernel) h2 h3 W hW);have ao:Hid (RowB w.drew rb m r):=hr;have rl:=hr.lt;have af:Hid (∀W,Below w.heap.size w W->W.cell? ⟨mnb,0,none⟩=some (.bool (rq (-1)).1)/\W.cell? ⟨mnb,1,none⟩=some (.string (rq (-1)).2.1)/\W.cell? ⟨mnb,2,none⟩=some (.string (rq (-1)).2.2)/\W.cell? ⟨lb,2,none⟩=some (.bool (rq Ah).1)/\W.cell? ⟨lb,3,none⟩=some (.string (rq Ah).2.1)/\W.cell? ⟨lb,4,none⟩=some (.string (rq Ah).2.2)):=fun W h=>⟨(ab.below h).c0,(ab.below h).c1,(ab.below h).c2,(hl.below h).c2,(hl.below h).c3,(hl.below h).c4⟩;have j0:(0:Int)<=(k:Int):=by omega
 have j1:(k:Int)<(m:Int):=by omega
 replace hE:=zh hE;replace hr:=zh hr;replace ab:=zh ab;replace hl:=zh hl;clear h1 h2 h3;refine yS ?_;refine yU (S:=fun W=>W.cell? ⟨mnb,0,none⟩=some (.bool (rq (-1)).1)/\W.cell? ⟨mnb,1,none⟩=some (.string (rq (-1)).2.1)/\W.cell? ⟨mnb,2,none⟩=some (.string (rq (-1)).2.2)/\W.cell? ⟨lb,2,none⟩=some (.bool (rq Ah).1)/\W.cell? ⟨lb,3,none⟩=some (.string (rq Ah).2.1)/\W.cell? ⟨lb,4,none⟩=some (.string (rq Ah).2.2)) (by kernel_rfl) (af.o _ ae.o) (fun s=>?_);replace s:=zh s;refine tkfE (v:=?_) 0 rfl (s.o) (Or.inl ⟨by rfl,?_⟩) ?_;rotate_left
 . (intro w d;obtain⟨q1,q2,q3,q4,q5,q6⟩:=d;go_simp<;>with_reducible rfl)
 try simp only[Act.put,zA]
 refine tkfE (v:=?_) 1 rfl (s.o) (Or.inl ⟨by rfl,?_⟩) ?_;rotate_left
 . (intro w d;obtain⟨q1,q2,q3,q4,q5,q6⟩:=d;go_simp<;>with_reducible rfl)
 try simp only[Act.put]
 refine tkfE (v:=?_) 2 rfl (s.o) (Or.inl ⟨by rfl,?_⟩) ?_;rotate_left
 . (intro w d;obtain⟨q1,q2,q3,q4,q5,q6⟩:=d;go_simp<;>with_reducible rfl)
 try simp only[Act.put]
 refine tkfE (v:=?_) 3 rfl (s.o) (Or.inl ⟨by rfl,?_⟩) ?_;rotate_left
 . (intro w d;obtain⟨q1,q2,q3,q4,q5,q6⟩:=d;go_simp<;>with_reducible rfl)
 try simp only[Act.put]
 refine tkfE (v:=?_) 4 rfl (s.o) (Or.inl ⟨by rfl,?_⟩) ?_;rotate_left
 . (intro w d;obtain⟨q1,q2,q3,q4,q5,q6⟩:=d;go_simp<;>with_reducible rfl)
 try simp only[Act.put]
 refine tkfE (v:=?_) 6 rfl (s.o) (Or.inl ⟨by rfl,?_⟩) ?_;rotate_left
 . (intro w d;obtain⟨q1,q2,q3,q4,q5,q6⟩:=d;go_simp<;>with_reducible rfl)
 try simp only[Act.put]
 refine tkfE (v:=?_) 7 rfl (s.o) (Or.inl ⟨by rfl,?_⟩) ?_;rotate_left
 . (intro w d;obtain⟨q1,q2,q3,q4,q5,q6⟩:=d;go_simp<;>with_reducible rfl)
 try simp only[Act.put]
 refine tkfE (v:=?_) 8 rfl (s.o) (Or.inl ⟨by rfl,?_⟩) ?_;rotate_left
 . (intro w d;obtain⟨q1,q2,q3,q4,q5,q6⟩:=d;go_simp<;>with_reducible rfl)
 try simp only[Act.put]
 obtain⟨r1,r2,r3⟩:=ao.o.cell hk;rw[bY]at r1 r2 r3;have bZ:=ao.o.lt;refine zP (rs:=[5]) (by kernel_rfl) (by simp) ?_;refine zK (o:=_) rfl (fun K hK=>?_) ?_
 .go_simp;clear r1 r2 r3;refine hK.o _ _ (af.o _ ae.o) (fun _=>?_);clear hK K
  try simp only[Act.put,zA,zG,zF]
  refine zP (rs:=[9]) (by kernel_rfl) (by simp) ?_;refine zK (o:=_) rfl (fun K hK=>?_) ?_
  .go_simp;refine(kp.o _ (hE.o.below ae.o)).q fun W2 hb=>?_;have aa:Hid (Below w.heap.size w W2):=ae.o.trans (hb.mono ae.o.size);have ad:Hid (RowB W2 rb m r):=ao.o.below hb bZ;clear hb;refine hK.o _ _ (af.o _ aa.o) (fun _=>?_);clear hK K
   try simp only[Act.put,zA,zG,zF]
   refine tkfE (v:=?_) 10 rfl (af.o _ aa.o) (Or.inl ⟨by rfl,?_⟩) ?_;rotate_left
   . (intro w d;obtain⟨q1,q2,q3,q4,q5,q6⟩:=d;go_simp<;>with_reducible rfl)
   try simp only[Act.put,zA]
   obtain⟨r1,r2,r3⟩:=ad.o.cell hk;have f1:=ad.o.frozen (k*3);have f2:=ad.o.frozen (k*3+1);have f3:=ad.o.frozen (k*3+2);have b0:=ad.o.lt;have bX:Hid (RowB (((W2.setCell ⟨rb,k*3,none⟩ (.bool (rq (q+-1*Ah)).1)).setCell ⟨rb,k*3+1,none⟩ (.string (rq (q+-1*Ah)).2.1)).setCell ⟨rb,k*3+2,none⟩ (.string (rq (q+-1*Ah)).2.2)) rb m fun j=>if j=k then rq (q+-1*Ah) else r j):=ad.o.set hk _;have bW:Hid (Kp [rb] w (((W2.setCell ⟨rb,k*3,none⟩ (.bool (rq (q+-1*Ah)).1)).setCell ⟨rb,k*3+1,none⟩ (.string (rq (q+-1*Ah)).2.1)).setCell ⟨rb,k*3+2,none⟩ (.string (rq (q+-1*Ah)).2.2))):=((((Kp.refl [rb] w).below aa.o).set (a:=⟨rb,k*3,none⟩) _ (.inl (by simp))).set (a:=⟨rb,k*3+1,none⟩) _ (.inl (by simp))).set (a:=⟨rb,k*3+2,none⟩) _ (.inl (by simp));refine zP (rs:=[11]) (by kernel_rfl) (by simp) ?_;refine zK (o:=_) rfl (fun K hK=>?_) ?_
   .go_simp;refine hK.o _ _ (⟨((((ab.o.below aa.o).far (p:=⟨rb,k*3,none⟩) n1.symm _).far (p:=⟨rb,k*3+1,none⟩) n1.symm _).far (p:=⟨rb,k*3+2,none⟩) n1.symm _).c0,((((ab.o.below aa.o).far (p:=⟨rb,k*3,none⟩) n1.symm _).far (p:=⟨rb,k*3+1,none⟩) n1.symm _).far (p:=⟨rb,k*3+2,none⟩) n1.symm _).c1,((((ab.o.below aa.o).far (p:=⟨rb,k*3,none⟩) n1.symm _).far (p:=⟨rb,k*3+1,none⟩) n1.symm _).far (p:=⟨rb,k*3+2,none⟩) n1.symm _).c2,((((hl.o.below aa.o).far (p:=⟨rb,k*3,none⟩) n2.symm _).far (p:=⟨rb,k*3+1,none⟩) n2.symm _).far (p:=⟨rb,k*3+2,none⟩) n2.symm _).c2,((((hl.o.below aa.o).far (p:=⟨rb,k*3,none⟩) n2.symm _).far (p:=⟨rb,k*3+1,none⟩) n2.symm _).far (p:=⟨rb,k*3+2,none⟩) n2.symm _).c3,((((hl.o.below aa.o).far (p:=⟨rb,k*3,none⟩) n2.symm _).far (p:=⟨rb,k*3+1,none⟩) n2.symm _).far (p:=⟨rb,k*3+2,none⟩) n2.symm _).c4⟩) (fun _=>?_);clear hK K
    try simp only[Act.put,zA,zG,zF]
    refine ym (by kernel_rfl) ?_ _;refine yF ?_;exact h.o _ _ _ _ _ _ _ _ _ _ _ _ bX bW
   exact zN
  exact zN
 exact zN
theorem WV{c0 c1 c3 c4 c5 c6 c7 c8 c9 av aw ax ay az aA aB aC aD aE aF aG aH aI aJ aK aL aM aN aO aP aQ aR aS aT aU aV aW aX aY aZ a0 a1 a2 a3 a4 a5 a6 a7 a8 a9 ba bb bc bd be bf bg bh bi bj bk bm bn bo bp bq br bs bt bu bv bx bz bA bB bC bD bE bF bG bH bI bJ bK bL bM bN bO bP ai aj ak al am an ao aq a78 a79 bQ bR bS bT bU bW:Value}{Q:Exit->Act->World->Prop}(gb lb vb:Nat)(hh:Int)(r0 Ah v:Rat)(c0v:Value)(w:World)(hE:Env w)(hg:Bk w gb 34 [.bool (rq r0).1,.string (rq r0).2.1,.string (rq r0).2.2])(hl:Bk w lb 55 [c0v,.int .i64 hh,.bool (rq Ah).1,.string (rq Ah).2.1,.string (rq Ah).2.2])(n1:gb≠lb)(h1:ShortQ r0)(h2:ShortQ Ah)(h3:ShortQ v)(h4:ShortQ (Ah*v))(kv:∀W,Below w.heap.size w W->Calls prog 43 #[.int .i64 hh,.pointer (some ⟨vb,0,none⟩)] W fun e w'=>e=.returned (.agg #[.bool (rq v).1,.string (rq v).2.1,.string (rq v).2.2])/\Below W.heap.size W w')
 (h:∀(u78 u79 u80 u81 u82 u83 u84 u85:Value)(W:World)(_:Hid (Bk W gb 34 [.bool (rq (r0+Ah*v)).1,.string (rq (r0+Ah*v)).2.1,.string (rq (r0+Ah*v)).2.2]))(_:Hid (Kp [gb] w W)),Q .normal ⟨#[c0,c1,.func (.func 43) #[] #[.pointer (some ⟨vb,0,none⟩)],c3,c4,c5,c6,c7,c8,c9,av,.pointer (some ⟨gb,0,none⟩),aw,.pointer (some ⟨lb,0,none⟩),ax,ay,az,aA,aB,aC,aD,aE,aF,aG,aH,aI,aJ,aK,aL,aM,aN,aO,aP,aQ,aR,aS,aT,aU,aV,aW,aX,aY,aZ,a0,a1,a2,a3,a4,a5,a6,a7,a8,a9,ba,bb,bc,bd,be,bf,bg,bh,bi,bj,bk,bm,bn,bo,bp,bq,br,bs,bt,bu,bv,bx,bz,bA,bB,u78,u79,u80,u81,u82,u83,u84,u85,bC,bD,bE,bF,bG,bH,bI,bJ,bK,bL,bM,bN,bO,bP,ai,aj,ak,al,am,an,ao,aq],[]⟩ W):
 Code.wp prog (bdR 20) Q ⟨#[c0,c1,.func (.func 43) #[] #[.pointer (some ⟨vb,0,none⟩)],c3,c4,c5,c6,c7,c8,c9,av,.pointer (some ⟨gb,0,none⟩),aw,.pointer (some ⟨lb,0,none⟩),ax,ay,az,aA,aB,aC,aD,aE,aF,aG,aH,aI,aJ,aK,aL,aM,aN,aO,aP,aQ,aR,aS,aT,aU,aV,aW,aX,aY,aZ,a0,a1,a2,a3,a4,a5,a6,a7,a8,a9,ba,bb,bc,bd,be,bf,bg,bh,bi,bj,bk,bm,bn,bo,bp,bq,br,bs,bt,bu,bv,bx,bz,bA,bB,a78,a79,bQ,bR,bS,bT,bU,bW,bC,bD,bE,bF,bG,bH,bI,bJ,bK,bL,bM,bN,bO,bP,ai,aj,ak,al,am,an,ao,aq],[]⟩ w:=by
 conv=>arg 2;whnf
 conv=>arg 4;zeta
 replace h:=zh h;have ad:Hid (Below w.heap.size w w.drew):=(zI _ w).drew;have kp:=zh (fun W hW=>OQ r0 Ah v h1 h2 h3 h4 W hW);have ah:Hid (Bk w.drew gb 34 [.bool (rq r0).1,.string (rq r0).2.1,.string (rq r0).2.2]):=hg.below (zI _ w).drew;have gl:=hg.lt;have af:Hid (∀W,Below w.heap.size w W->W.cell? ⟨lb,1,none⟩=some (.int .i64 hh)/\W.cell? ⟨lb,2,none⟩=some (.bool (rq Ah).1)/\W.cell? ⟨lb,3,none⟩=some (.string (rq Ah).2.1)/\W.cell? ⟨lb,4,none⟩=some (.string (rq Ah).2.2)):=fun W hb=>⟨(hl.below hb).c1,(hl.below hb).c2,(hl.below hb).c3,(hl.below hb).c4⟩;replace hE:=zh hE;replace hg:=zh hg;replace hl:=zh hl;replace kv:=zh kv;clear h1 h2 h3 h4;refine yS ?_;refine yU (S:=fun W=>W.cell? ⟨lb,1,none⟩=some (.int .i64 hh)/\W.cell? ⟨lb,2,none⟩=some (.bool (rq Ah).1)/\W.cell? ⟨lb,3,none⟩=some (.string (rq Ah).2.1)/\W.cell? ⟨lb,4,none⟩=some (.string (rq Ah).2.2)) (by kernel_rfl) (af.o _ ad.o) (fun ae=>?_);replace ae:=zh ae;refine tkfE (v:=?_) 1 rfl (ae.o) (Or.inl ⟨by rfl,?_⟩) ?_;rotate_left
 . (intro w ab;obtain⟨q1,q2,q3,q4⟩:=ab;go_simp<;>with_reducible rfl)
 try simp only[Act.put,zA]
 refine tkfE (v:=?_) 2 rfl (ae.o) (Or.inl ⟨by rfl,?_⟩) ?_;rotate_left
 . (intro w ab;obtain⟨q1,q2,q3,q4⟩:=ab;go_simp<;>with_reducible rfl)
 try simp only[Act.put]
 refine tkfE (v:=?_) 3 rfl (ae.o) (Or.inl ⟨by rfl,?_⟩) ?_;rotate_left
 . (intro w ab;obtain⟨q1,q2,q3,q4⟩:=ab;go_simp<;>with_reducible rfl)
 try simp only[Act.put]
 refine tkfE (v:=?_) 4 rfl (ae.o) (Or.inl ⟨by rfl,?_⟩) ?_;rotate_left
 . (intro w ab;obtain⟨q1,q2,q3,q4⟩:=ab;go_simp<;>with_reducible rfl)
 try simp only[Act.put]
 refine tkfE (v:=?_) 5 rfl (ae.o) (Or.inl ⟨by rfl,?_⟩) ?_;rotate_left
 . (intro w ab;obtain⟨q1,q2,q3,q4⟩:=ab;go_simp<;>with_reducible rfl)
 try simp only[Act.put]
 refine zP (rs:=[0,6]) (by kernel_rfl) (by simp) ?_;have t1:=ah.o.c0;have t2:=ah.o.c1;have t3:=ah.o.c2;have t7:=ah.o.lt;refine zK (o:=_) rfl (fun K hK=>?_) ?_
 .go_simp;clear t1 t2 t3 t7;refine hK.o _ _ (af.o _ ad.o) (fun _=>?_);clear hK K
  try simp only[Act.put,zA,zG,zF]
  refine zP (rs:=[6]) (by kernel_rfl) (by simp) ?_;refine zK (o:=_) rfl (fun K hK=>?_) ?_
  .go_simp;refine(kv.o _ ad.o).q fun W2 hb=>?_;have aa:Hid (Below w.heap.size w W2):=ad.o.trans (hb.mono ad.o.size);have ag:=zh (ah.o.below hb);clear hb;refine hK.o _ _ (af.o _ aa.o) (fun _=>?_);clear hK K
   try simp only[Act.put,zA,zG,zF]
   refine zP (rs:=[7]) (by kernel_rfl) (by simp) ?_;refine zK (o:=_) rfl (fun K hK=>?_) ?_
   .go_simp;refine(kp.o _ (hE.o.below aa.o)).q fun W3 hb=>?_;have s:Hid (Below w.heap.size w W3):=aa.o.trans (hb.mono aa.o.size);have d:=zh (ag.o.below hb);clear hb;refine hK.o _ _ (af.o _ s.o) (fun _=>?_);clear hK K
    try simp only[Act.put,zA,zG,zF]
    have au:Hid (Bk (((W3.setCell ⟨gb,0,none⟩ (.bool (rq (r0+Ah*v)).1)).setCell ⟨gb,1,none⟩ (.string (rq (r0+Ah*v)).2.1)).setCell ⟨gb,2,none⟩ (.string (rq (r0+Ah*v)).2.2)) gb 34 [.bool (rq (r0+Ah*v)).1,.string (rq (r0+Ah*v)).2.1,.string (rq (r0+Ah*v)).2.2]):=((d.o.set 0 (.bool (rq (r0+Ah*v)).1)).set 1 (.string (rq (r0+Ah*v)).2.1)).set 2 (.string (rq (r0+Ah*v)).2.2);have ar:Hid (Kp [gb] w (((W3.setCell ⟨gb,0,none⟩ (.bool (rq (r0+Ah*v)).1)).setCell ⟨gb,1,none⟩ (.string (rq (r0+Ah*v)).2.1)).setCell ⟨gb,2,none⟩ (.string (rq (r0+Ah*v)).2.2))):=((((Kp.refl [gb] w).below s.o).set (a:=⟨gb,0,none⟩) _ (.inl (by simp))).set (a:=⟨gb,1,none⟩) _ (.inl (by simp))).set (a:=⟨gb,2,none⟩) _ (.inl (by simp));have t1:=d.o.c0;have t2:=d.o.c1;have t3:=d.o.c2;have t4:=d.o.frozen 0;have t5:=d.o.frozen 1;have t6:=d.o.frozen 2;have t7:=d.o.lt;refine zP (rs:=[8]) (by kernel_rfl) (by simp) ?_;refine zK (o:=_) rfl (fun K hK=>?_) ?_
    .go_simp;refine hK.o _ _ (⟨((((hl.o.below s.o).far (p:=⟨gb,0,none⟩) n1.symm _).far (p:=⟨gb,1,none⟩) n1.symm _).far (p:=⟨gb,2,none⟩) n1.symm _).c1,((((hl.o.below s.o).far (p:=⟨gb,0,none⟩) n1.symm _).far (p:=⟨gb,1,none⟩) n1.symm _).far (p:=⟨gb,2,none⟩) n1.symm _).c2,((((hl.o.below s.o).far (p:=⟨gb,0,none⟩) n1.symm _).far (p:=⟨gb,1,none⟩) n1.symm _).far (p:=⟨gb,2,none⟩) n1.symm _).c3,((((hl.o.below s.o).far (p:=⟨gb,0,none⟩) n1.symm _).far (p:=⟨gb,1,none⟩) n1.symm _).far (p:=⟨gb,2,none⟩) n1.symm _).c4⟩) (fun _=>?_);clear hK K
     try simp only[Act.put,zA,zG,zF]
     refine ym (by kernel_rfl) ?_ _;refine yF ?_;exact h.o _ _ _ _ _ _ _ _ _ au ar
    exact zN
   exact zN
  exact zN
 clear t1 t2 t3 t7;refine zK (o:=_) rfl (fun K hK=>?_) ?_
 .go_simp;refine(kv.o _ ad.o).q fun W2 hb=>?_;have aa:Hid (Below w.heap.size w W2):=ad.o.trans (hb.mono ad.o.size);have ag:=zh (ah.o.below hb);clear hb;refine hK.o _ _ (af.o _ aa.o) (fun _=>?_);clear hK K
  try simp only[Act.put,zA,zG,zF]
  refine zP (rs:=[0]) (by kernel_rfl) (by simp) ?_;have t1:=ag.o.c0;have t2:=ag.o.c1;have t3:=ag.o.c2;have t7:=ag.o.lt;refine zK (o:=_) rfl (fun K hK=>?_) ?_
  .go_simp;clear t1 t2 t3 t7;refine hK.o _ _ (af.o _ aa.o) (fun _=>?_);clear hK K
   try simp only[Act.put,zA,zG,zF]
   refine zP (rs:=[7]) (by kernel_rfl) (by simp) ?_;refine zK (o:=_) rfl (fun K hK=>?_) ?_
   .go_simp;refine(kp.o _ (hE.o.below aa.o)).q fun W3 hb=>?_;have s:Hid (Below w.heap.size w W3):=aa.o.trans (hb.mono aa.o.size);have d:=zh (ag.o.below hb);clear hb;refine hK.o _ _ (af.o _ s.o) (fun _=>?_);clear hK K
    try simp only[Act.put,zA,zG,zF]
    have au:Hid (Bk (((W3.setCell ⟨gb,0,none⟩ (.bool (rq (r0+Ah*v)).1)).setCell ⟨gb,1,none⟩ (.string (rq (r0+Ah*v)).2.1)).setCell ⟨gb,2,none⟩ (.string (rq (r0+Ah*v)).2.2)) gb 34 [.bool (rq (r0+Ah*v)).1,.string (rq (r0+Ah*v)).2.1,.string (rq (r0+Ah*v)).2.2]):=((d.o.set 0 (.bool (rq (r0+Ah*v)).1)).set 1 (.string (rq (r0+Ah*v)).2.1)).set 2 (.string (rq (r0+Ah*v)).2.2);have ar:Hid (Kp [gb] w (((W3.setCell ⟨gb,0,none⟩ (.bool (rq (r0+Ah*v)).1)).setCell ⟨gb,1,none⟩ (.string (rq (r0+Ah*v)).2.1)).setCell ⟨gb,2,none⟩ (.string (rq (r0+Ah*v)).2.2))):=((((Kp.refl [gb] w).below s.o).set (a:=⟨gb,0,none⟩) _ (.inl (by simp))).set (a:=⟨gb,1,none⟩) _ (.inl (by simp))).set (a:=⟨gb,2,none⟩) _ (.inl (by simp));have t1:=d.o.c0;have t2:=d.o.c1;have t3:=d.o.c2;have t4:=d.o.frozen 0;have t5:=d.o.frozen 1;have t6:=d.o.frozen 2;have t7:=d.o.lt;refine zP (rs:=[8]) (by kernel_rfl) (by simp) ?_;refine zK (o:=_) rfl (fun K hK=>?_) ?_
    .go_simp;refine hK.o _ _ (⟨((((hl.o.below s.o).far (p:=⟨gb,0,none⟩) n1.symm _).far (p:=⟨gb,1,none⟩) n1.symm _).far (p:=⟨gb,2,none⟩) n1.symm _).c1,((((hl.o.below s.o).far (p:=⟨gb,0,none⟩) n1.symm _).far (p:=⟨gb,1,none⟩) n1.symm _).far (p:=⟨gb,2,none⟩) n1.symm _).c2,((((hl.o.below s.o).far (p:=⟨gb,0,none⟩) n1.symm _).far (p:=⟨gb,1,none⟩) n1.symm _).far (p:=⟨gb,2,none⟩) n1.symm _).c3,((((hl.o.below s.o).far (p:=⟨gb,0,none⟩) n1.symm _).far (p:=⟨gb,1,none⟩) n1.symm _).far (p:=⟨gb,2,none⟩) n1.symm _).c4⟩) (fun _=>?_);clear hK K
     try simp only[Act.put,zA,zG,zF]
     refine ym (by kernel_rfl) ?_ _;refine yF ?_;exact h.o _ _ _ _ _ _ _ _ _ au ar
    exact zN
   exact zN
  exact zN
 exact zN
theorem Km{W:World}{b:Nat}{v:Value}(h:W.cell? ⟨b,0,none⟩=some v):∀j u,[v][j]? = some u->W.cell? ((⟨b,0,none⟩:Addr).add j)=some u:=by
 intro j u hj
 match j,hj with
 |0,hj=>simp only[List.getElem?_cons_zero,Option.some.injEq]at hj;subst hj;simpa [Addr.add] using h
 |j+1,hj=>simp at hj
theorem SH{W:World}{b:Nat}{x y z:Value}(h0:W.cell? ⟨b,0,none⟩=some x)(h1:W.cell? ⟨b,1,none⟩=some y)(h2:W.cell? ⟨b,2,none⟩=some z):∀j u,[x,y,z][j]? = some u->W.cell? ((⟨b,0,none⟩:Addr).add j)=some u:=by
 intro j u hj
 match j,hj with
 |0,hj=>simp at hj;subst hj;simpa [Addr.add] using h0
 |1,hj=>simp at hj;subst hj;simpa [Addr.add] using h1
 |2,hj=>simp at hj;subst hj;simpa [Addr.add] using h2
 |j+3,hj=>simp at hj
theorem Qo{P:Program}{md:Region.Mode}{ops:Array Oper}{Q:Exit->Act->World->Prop}{S:World->Prop}{n:Nat}{l:Array Bool}{a:Act}{w:World}
 (h:∀F:Nat->Array Bool->Act->World->Prop,F=wpAnyH P md ops Q S->F n l a w):wpAnyH P md ops Q S n l a w:=h _ rfl
theorem V9{F:Nat->Array Bool->Act->World->Prop}{n n':Nat}{l l':Array Bool}{a a':Act}{w:World}(hn:n'=n)(hl:l'=l)(ha:a'=a)(h:F n l a w):F n' l' a' w:=by rw[hn,hl,ha];exact h
theorem Eq{W:World}{base n m:Nat}{e:TypeId}{u:Value}{xs:List Value}(h:W.ownsRow base e m u n xs):∃A cap,u=.slice A n cap:=by
 rcases h.2 with⟨rfl,h0⟩|⟨g,cap,cur,rfl,_⟩
 .exact⟨none,0,by rw[h0]⟩
 exact⟨_,cap,rfl⟩
structure G22(xb gb:Nat)(uv:Value)(Aa Ab:Option Addr)(i ca cb:Nat)(x:Raw)(w W:World):Prop where
 k:Kp (xb::((Value.slice Aa i ca).ownBlock.toList++(Value.slice Ab i cb).ownBlock.toList)) w W
 y:Bk W xb 79 [uv,.slice Aa i ca,.slice Ab i cb]
 b:Bk W gb 34 [.bool x.1,.string x.2.1,.string x.2.2]
theorem G22.alloc{xb gb:Nat}{uv:Value}{Aa Ab:Option Addr}{i ca cb:Nat}{x:Raw}{w W:World}(h:G22 xb gb uv Aa Ab i ca cb x w W)(o:Obj):G22 xb gb uv Aa Ab i ca cb x w (W.alloc o):=⟨h.k.alloc o,h.y.alloc o,h.b.alloc o⟩
theorem Ak{W:World}{b:Nat}{t:TypeId}{v0 v1 v2:Value}(h:Bk W b t [v0,v1,v2]):W.cell? ⟨b,0,none⟩=some v0/\W.cell? ⟨b,1,none⟩=some v1/\W.cell? ⟨b,2,none⟩=some v2:=⟨h.c0,h.c1,h.c2⟩
theorem Iy{x:Nat}{w W W':World}{L:List Nat}{o:Option Nat}(h:Kp (x::L) w W)(hg:W.grownBy W' o)(hl:∀b,o=some b->b∈L\/w.heap.size<=b):Kp (x::L) w W' :=
 h.grown hg fun b e=>(hl b e).imp (zt _) id
theorem WW{c1 c2 c3 c4 c5 c6 c7 c8 aL aM aN aa aO aP aQ aR aS aT aU aV aW aX aY aZ a0 a1 a2 a3 a4 a5 a6 a7 a8 a9 ba bb bc bd be bf bg bh bi bj bk bm bn bo bp bq br bs bt bu bv bx bz bA bB bC bD bE bF bG bH bI bJ bK bL bM bN bO bP bQ bR bS bT bU bW bX bY bZ b0 b1 aD cc cd a89 ce cf aw cg ax al ch ci cj ar b4 ak ae aH aI aJ aK:Value}{Q:Exit->Act->World->Prop}(xb gb rb m i ca cb B1:Nat)(Aa Ab:Option Addr)(uv:Value)(ah cbs:List Value)(x:Raw)(w:World)(hi:i<=1000)(hx:Bk w xb 79 [uv,.slice Aa i ca,.slice Ab i cb])(hb:Bk w gb 34 [.bool x.1,.string x.2.1,.string x.2.2])(ngx:gb≠xb)(aA:B1<=w.heap.size)(b7:xb<B1)(oa:w.ownsRow B1 27 1 (Value.slice Aa i ca) i ah)(ob:w.ownsRow B1 34 3 (Value.slice Ab i cb) i cbs)(ap:∀b,(Value.slice Aa i ca).ownBlock=some b->(Value.slice Ab i cb).ownBlock≠some b)(nga:(Value.slice Aa i ca).ownBlock≠some gb)(ngb:(Value.slice Ab i cb).ownBlock≠some gb)
 (h:∀(u87 u88 u89 u90 u91 u92 u93 u94 u95 u96 u97 u98 u99 u100 u101 u102 u103 u104 u105 u106:Value)(Aa2 Ab2:Option Addr)(ad ai:Nat)(W:World)(_:Hid (Kp (xb::((Value.slice Aa i ca).ownBlock.toList++(Value.slice Ab i cb).ownBlock.toList)) w W))(_:Hid (Bk W xb 79 [uv,.slice Aa2 (i+1) ad,.slice Ab2 (i+1) ai]))(_:Hid (W.ownsRow B1 27 1 (Value.slice Aa2 (i+1) ad) (i+1) (ah++[.slice (some ⟨rb,0,none⟩) m m])))(_:Hid (W.ownsRow B1 34 3 (Value.slice Ab2 (i+1) ai) (i+1) (cbs++[.bool x.1,.string x.2.1,.string x.2.2])))(_:Hid (∀b,(Value.slice Aa2 (i+1) ad).ownBlock=some b->(Value.slice Ab2 (i+1) ai).ownBlock≠some b))(_:Hid ((Value.slice Aa2 (i+1) ad).ownBlock=(Value.slice Aa i ca).ownBlock\/∃b,(Value.slice Aa2 (i+1) ad).ownBlock=some b/\w.heap.size<=b))(_:Hid ((Value.slice Ab2 (i+1) ai).ownBlock=(Value.slice Ab i cb).ownBlock\/∃b,(Value.slice Ab2 (i+1) ai).ownBlock=some b/\w.heap.size<=b)),Q .normal ⟨#[.pointer (some ⟨xb,0,none⟩),c1,c2,c3,c4,c5,c6,c7,c8,.slice (some ⟨rb,0,none⟩) m m,aL,.pointer (some ⟨gb,0,none⟩),aM,aN,aa,aO,aP,aQ,aR,aS,aT,aU,aV,aW,aX,aY,aZ,a0,a1,a2,a3,a4,a5,a6,a7,a8,a9,ba,bb,bc,bd,be,bf,bg,bh,bi,bj,bk,bm,bn,bo,bp,bq,br,bs,bt,bu,bv,bx,bz,bA,bB,bC,bD,bE,bF,bG,bH,bI,bJ,bK,bL,bM,bN,bO,bP,bQ,bR,bS,bT,bU,bW,bX,bY,bZ,b0,b1,u87,u88,u89,u90,u91,u92,u93,u94,u95,u96,u97,u98,u99,u100,u101,u102,u103,u104,u105,u106,aD],[]⟩ W):
 Code.wp prog (bdR 22) Q ⟨#[.pointer (some ⟨xb,0,none⟩),c1,c2,c3,c4,c5,c6,c7,c8,.slice (some ⟨rb,0,none⟩) m m,aL,.pointer (some ⟨gb,0,none⟩),aM,aN,aa,aO,aP,aQ,aR,aS,aT,aU,aV,aW,aX,aY,aZ,a0,a1,a2,a3,a4,a5,a6,a7,a8,a9,ba,bb,bc,bd,be,bf,bg,bh,bi,bj,bk,bm,bn,bo,bp,bq,br,bs,bt,bu,bv,bx,bz,bA,bB,bC,bD,bE,bF,bG,bH,bI,bJ,bK,bL,bM,bN,bO,bP,bQ,bR,bS,bT,bU,bW,bX,bY,bZ,b0,b1,cc,cd,a89,ce,cf,aw,cg,ax,al,ch,ci,cj,ar,b4,ak,ae,aH,aI,aJ,aK,aD],[]⟩ w:=by
 conv=>arg 2;whnf
 conv=>arg 4;zeta
 replace h:=zh h;have cm:Hid (Kp (xb::((Value.slice Aa i ca).ownBlock.toList++(Value.slice Ab i cb).ownBlock.toList)) w w.drew):=(Kp.refl _ w).drew;have cq:Hid (Bk w.drew xb 79 [uv,.slice Aa i ca,.slice Ab i cb]):=hx.below (zI _ w).drew;have b5:Hid (Bk w.drew gb 34 [.bool x.1,.string x.2.1,.string x.2.2]):=hb.below (zI _ w).drew;have cu:=zh (AK oa (zI _ w).drew);have cw:=zh (AK ob (zI _ w).drew);have b6:Hid (∀b,(Value.slice Aa i ca).ownBlock=some b->B1<=b/\b<w.heap.size):=fun b e=>oa.lt b e;have cC:Hid (∀b,(Value.slice Ab i cb).ownBlock=some b->B1<=b/\b<w.heap.size):=fun b e=>ob.lt b e;have nxa:Hid ((Value.slice Aa i ca).ownBlock≠some xb):=fun e=>by have:=(oa.lt xb e).1;omega
 have nxb:Hid ((Value.slice Ab i cb).ownBlock≠some xb):=fun e=>by have:=(ob.lt xb e).1;omega
 have gl:=hb.lt;have xl:=hx.lt;replace ap:=zh ap;clear oa ob hb hx;replace aA:=zh aA;replace nga:=zh nga;replace ngb:=zh ngb;replace ngx:=zh ngx;replace b7:=zh b7;replace gl:=zh gl;replace xl:=zh xl;have aG:Hid (∀b,(Value.slice Aa i ca).ownBlock=some b->b∈((Value.slice Aa i ca).ownBlock.toList++(Value.slice Ab i cb).ownBlock.toList)\/w.heap.size<=b):=fun b e=>.inl (by rw[e];simp);have co:Hid (∀b,(Value.slice Ab i cb).ownBlock=some b->b∈((Value.slice Aa i ca).ownBlock.toList++(Value.slice Ab i cb).ownBlock.toList)\/w.heap.size<=b):=fun b e=>.inl (by rw[e];simp);obtain⟨i0,aC,aF⟩:=Option.map_eq_some_iff.1 Kf;simp only[Prod.mk.injEq]at aF;obtain⟨z0i0,z1i0,z2i0⟩:=aF;replace aC:=zh aC;replace z0i0:=zh z0i0;replace z1i0:=zh z1i0;replace z2i0:=zh z2i0;obtain⟨i3,b2,aF⟩:=Option.map_eq_some_iff.1 infoQ;simp only[Prod.mk.injEq]at aF;obtain⟨z0i3,z1i3,z2i3⟩:=aF;replace b2:=zh b2;replace z0i3:=zh z0i3;replace z1i3:=zh z1i3;replace z2i3:=zh z2i3;refine yS ?_;refine yU (S:=fun W=>W.cell? ⟨gb,0,none⟩=some (.bool x.1)/\W.cell? ⟨gb,1,none⟩=some (.string x.2.1)/\W.cell? ⟨gb,2,none⟩=some (.string x.2.2)) (by kernel_rfl) (Ak b5.o) (fun aq=>?_);replace aq:=zh aq;refine tkfE (v:=?_) 0 rfl (aq.o) (Or.inl ⟨by rfl,?_⟩) ?_;rotate_left
 . (intro w ag;obtain⟨q1,q2,q3⟩:=ag;go_simp<;>with_reducible rfl)
 try simp only[Act.put,zA]
 refine tkfE (v:=?_) 1 rfl (aq.o) (Or.inl ⟨by rfl,?_⟩) ?_;rotate_left
 . (intro w ag;obtain⟨q1,q2,q3⟩:=ag;go_simp<;>with_reducible rfl)
 try simp only[Act.put]
 refine tkfE (v:=?_) 2 rfl (aq.o) (Or.inl ⟨by rfl,?_⟩) ?_;rotate_left
 . (intro w ag;obtain⟨q1,q2,q3⟩:=ag;go_simp<;>with_reducible rfl)
 try simp only[Act.put]
 refine tkfE (v:=?_) 3 rfl (aq.o) (Or.inl ⟨by rfl,?_⟩) ?_;rotate_left
 . (intro w ag;obtain⟨q1,q2,q3⟩:=ag;go_simp<;>with_reducible rfl)
 try simp only[Act.put]
 refine tkfE (v:=?_) 4 rfl (aq.o) (Or.inl ⟨by rfl,?_⟩) ?_;rotate_left
 . (intro w ag;obtain⟨q1,q2,q3⟩:=ag;go_simp<;>with_reducible rfl)
 try simp only[Act.put]
 refine tkfE (v:=?_) 6 rfl (aq.o) (Or.inl ⟨by rfl,?_⟩) ?_;rotate_left
 . (intro w ag;obtain⟨q1,q2,q3⟩:=ag;go_simp<;>with_reducible rfl)
 try simp only[Act.put]
 refine tkfE (v:=?_) 9 rfl (aq.o) (Or.inl ⟨by rfl,?_⟩) ?_;rotate_left
 . (intro w ag;obtain⟨q1,q2,q3⟩:=ag;go_simp<;>with_reducible rfl)
 try simp only[Act.put]
 refine tkfE (v:=?_) 10 rfl (aq.o) (Or.inl ⟨by rfl,?_⟩) ?_;rotate_left
 . (intro w ag;obtain⟨q1,q2,q3⟩:=ag;go_simp<;>with_reducible rfl)
 try simp only[Act.put]
 refine tkfE (v:=?_) 11 rfl (aq.o) (Or.inl ⟨by rfl,?_⟩) ?_;rotate_left
 . (intro w ag;obtain⟨q1,q2,q3⟩:=ag;go_simp<;>with_reducible rfl)
 try simp only[Act.put]
 refine tkfE (v:=?_) 13 rfl (aq.o) (Or.inl ⟨by rfl,?_⟩) ?_;rotate_left
 . (intro w ag;obtain⟨q1,q2,q3⟩:=ag;go_simp<;>with_reducible rfl)
 try simp only[Act.put]
 clear aq;refine Qo (fun F hF=>?_);replace hF:=zh hF;obtain⟨fr,ab⟩:∃f:Value->Value->Value->Value->Value->Value->Act,f=fun cy cz cA cB b8 b9=>⟨#[.pointer (some ⟨xb,0,none⟩),c1,c2,c3,c4,c5,c6,c7,c8,.slice (some ⟨rb,0,none⟩) m m,aL,.pointer (some ⟨gb,0,none⟩),aM,aN,aa,aO,aP,aQ,aR,aS,aT,aU,aV,aW,aX,aY,aZ,a0,a1,a2,a3,a4,a5,a6,a7,a8,a9,ba,bb,bc,bd,be,bf,bg,bh,bi,bj,bk,bm,bn,bo,bp,bq,br,bs,bt,bu,bv,bx,bz,bA,bB,bC,bD,bE,bF,bG,bH,bI,bJ,bK,bL,bM,bN,bO,bP,bQ,bR,bS,bT,bU,bW,bX,bY,bZ,b0,b1,.pointer (some ⟨xb,0,none⟩),.pointer (some ⟨xb,0,none⟩),.pointer (some ⟨xb,0,none⟩),.pointer (some ⟨xb,0,none⟩),.pointer (some ⟨xb,1,none⟩),cy,.slice (some ⟨rb,0,none⟩) m m,cz,cA,.pointer (some ⟨xb,0,none⟩),.pointer (some ⟨xb,0,none⟩),.pointer (some ⟨xb,2,none⟩),cB,.agg #[.bool x.1,.string x.2.1,.string x.2.2],b8,b9,aH,aI,aJ,aK,aD],[]⟩:=⟨_,rfl⟩;replace ab:=zh ab;have cl:Hid (G22 xb gb uv Aa Ab i ca cb x w w.drew):=⟨cm.o,cq.o,b5.o⟩
 have Lx5x7x8x12x14x15:∀(l7:Nat)(Aa2:Option Addr)(ad:Nat)(s:Nat)(Ab2:Option Addr)(ai:Nat)(W:World),Hid (G22 xb gb uv Aa Ab i ca cb x w W)->Hid (W.ownsRow B1 27 1 (Value.slice Aa2 (i+1) ad) (i+1) (ah++[.slice (some ⟨rb,0,none⟩) m m]))->Hid ((Value.slice Aa2 (i+1) ad).ownBlock=(Value.slice Aa i ca).ownBlock\/∃b,(Value.slice Aa2 (i+1) ad).ownBlock=some b/\w.heap.size<=b)->Hid (W.ownsRow B1 34 3 (Value.slice Ab2 (i+1) ai) (i+1) (cbs++[.bool x.1,.string x.2.1,.string x.2.2]))->Hid ((Value.slice Ab2 (i+1) ai).ownBlock=(Value.slice Ab i cb).ownBlock\/∃b,(Value.slice Ab2 (i+1) ai).ownBlock=some b/\w.heap.size<=b)->Hid (∀b,(Value.slice Aa2 (i+1) ad).ownBlock=some b->(Value.slice Ab2 (i+1) ai).ownBlock≠some b)->F 6 #[true,true,true,true,true,true,true,true,true,true,true,true,true,true,true,true,false,false,false,false,false,false] (fr (.slice Aa i ca) (.slice (some ⟨l7,0,none⟩) 1 1) (.slice Aa2 (i+1) ad) (.slice Ab i cb) (.slice (some ⟨s,0,none⟩) 1 1) (.slice Ab2 (i+1) ai)) W:=by
  intro l7 Aa2 ad s Ab2 ai W hg oa na ob nb ap;rw[hF.o,ab.o];dsimp only;refine tkfE (v:=?_) 16 rfl (Ak hg.o.b) (Or.inl ⟨by rfl,?_⟩) ?_;rotate_left
  . (intro w ag;obtain⟨q1,q2,q3⟩:=ag;go_simp<;>with_reducible rfl)
  try simp only[Act.put,zA,zG,zF]
  refine tkfE (v:=?_) 17 rfl (Ak hg.o.b) (Or.inl ⟨by rfl,?_⟩) ?_;rotate_left
  . (intro w ag;obtain⟨q1,q2,q3⟩:=ag;go_simp<;>with_reducible rfl)
  try simp only[Act.put,zA,zG,zF]
  have x1:=hg.o.y.c1;have f1:=hg.o.y.frozen 1;have x9:=hg.o.y.lt;refine zP (rs:=[18]) (by kernel_rfl) (by simp) ?_;refine zK (o:=_) rfl (fun K hK=>?_) ?_
  .go_simp;have aj:Hid (Bk (W.setCell ⟨xb,1,none⟩ (.slice Aa2 (i+1) ad)) gb 34 [.bool x.1,.string x.2.1,.string x.2.2]):=hg.o.b.far (p:=⟨xb,1,none⟩) ngx.o _;have ao:Hid (Bk (W.setCell ⟨xb,1,none⟩ (.slice Aa2 (i+1) ad)) xb 79 [uv,.slice Aa2 (i+1) ad,.slice Ab i cb]):=hg.o.y.set 1 (.slice Aa2 (i+1) ad);have av:Hid (Kp (xb::((Value.slice Aa i ca).ownBlock.toList++(Value.slice Ab i cb).ownBlock.toList)) w (W.setCell ⟨xb,1,none⟩ (.slice Aa2 (i+1) ad))):=hg.o.k.set (a:=⟨xb,1,none⟩) _ (.inl (by simp));have nxa2:Hid ((Value.slice Aa2 (i+1) ad).ownBlock≠some xb):=fun e=>by rcases na.o with c|⟨b,c,d⟩;(· exact nxa.o (c▸e));(· rw[c]at e;cases e;have:=xl.o;omega)
   have nxb2:Hid ((Value.slice Ab2 (i+1) ai).ownBlock≠some xb):=fun e=>by rcases nb.o with c|⟨b,c,d⟩;(· exact nxb.o (c▸e));(· rw[c]at e;cases e;have:=xl.o;omega)
   have b3:=zh (oa.o.kept (AO W ⟨xb,1,none⟩ (.slice Aa2 (i+1) ad)) (.inr nxa2.o));have az:=zh (ob.o.kept (AO W ⟨xb,1,none⟩ (.slice Aa2 (i+1) ad)) (.inr nxb2.o));clear x1 f1 x9;refine hK.o _ _ (Ak aj.o) (fun _=>?_);clear hK K
   try simp only[zA,zG,zF]
   refine tkfE (v:=?_) 19 rfl (Ak aj.o) (Or.inl ⟨by rfl,?_⟩) ?_;rotate_left
   . (intro w ag;obtain⟨q1,q2,q3⟩:=ag;go_simp<;>with_reducible rfl)
   try simp only[Act.put,zA,zG,zF]
   refine tkfE (v:=?_) 20 rfl (Ak aj.o) (Or.inl ⟨by rfl,?_⟩) ?_;rotate_left
   . (intro w ag;obtain⟨q1,q2,q3⟩:=ag;go_simp<;>with_reducible rfl)
   try simp only[Act.put,zA,zG,zF]
   have x1:=ao.o.c2;have f1:=ao.o.frozen 2;have x9:=ao.o.lt;refine zP (rs:=[21]) (by kernel_rfl) (by simp) ?_;refine zK (o:=_) rfl (fun K hK=>?_) ?_
   .go_simp;have ck:Hid (Bk ((W.setCell ⟨xb,1,none⟩ (.slice Aa2 (i+1) ad)).setCell ⟨xb,2,none⟩ (.slice Ab2 (i+1) ai)) gb 34 [.bool x.1,.string x.2.1,.string x.2.2]):=aj.o.far (p:=⟨xb,2,none⟩) ngx.o _;have cr:Hid (Bk ((W.setCell ⟨xb,1,none⟩ (.slice Aa2 (i+1) ad)).setCell ⟨xb,2,none⟩ (.slice Ab2 (i+1) ai)) xb 79 [uv,.slice Aa2 (i+1) ad,.slice Ab2 (i+1) ai]):=ao.o.set 2 (.slice Ab2 (i+1) ai);have cn:Hid (Kp (xb::((Value.slice Aa i ca).ownBlock.toList++(Value.slice Ab i cb).ownBlock.toList)) w ((W.setCell ⟨xb,1,none⟩ (.slice Aa2 (i+1) ad)).setCell ⟨xb,2,none⟩ (.slice Ab2 (i+1) ai))):=av.o.set (a:=⟨xb,2,none⟩) _ (.inl (by simp));have cv:=zh (b3.o.kept (AO (W.setCell ⟨xb,1,none⟩ (.slice Aa2 (i+1) ad)) ⟨xb,2,none⟩ (.slice Ab2 (i+1) ai)) (.inr nxa2.o));have cx:=zh (az.o.kept (AO (W.setCell ⟨xb,1,none⟩ (.slice Aa2 (i+1) ad)) ⟨xb,2,none⟩ (.slice Ab2 (i+1) ai)) (.inr nxb2.o));clear x1 f1 x9;refine hK.o _ _ (Ak ck.o) (fun _=>?_);clear hK K
    try simp only[zA,zG,zF]
    refine ym (by kernel_rfl) ?_ _;refine yF ?_;exact h.o _ _ _ _ _ _ _ _ _ _ _ _ _ _ _ _ _ _ _ _ _ _ _ _ _ cn cr cv cx ap na nb
   exact zN
  exact zN
 have Lx5x7x8x12x14:∀(l7:Nat)(Aa2:Option Addr)(ad:Nat)(s:Nat)(W:World),Hid (G22 xb gb uv Aa Ab i ca cb x w W)->Hid (W.ownsRow B1 27 1 (Value.slice Aa2 (i+1) ad) (i+1) (ah++[.slice (some ⟨rb,0,none⟩) m m]))->Hid ((Value.slice Aa2 (i+1) ad).ownBlock=(Value.slice Aa i ca).ownBlock\/∃b,(Value.slice Aa2 (i+1) ad).ownBlock=some b/\w.heap.size<=b)->Hid (W.ownsRow B1 34 3 (Value.slice Ab i cb) i cbs)->Hid (∀b,(Value.slice Aa2 (i+1) ad).ownBlock=some b->(Value.slice Ab i cb).ownBlock≠some b)->Hid ((W.cell? ⟨s,0,none⟩=some (.bool x.1)/\W.cell? ⟨s,1,none⟩=some (.string x.2.1)/\W.cell? ⟨s,2,none⟩=some (.string x.2.2))/\w.heap.size<=s/\s<W.heap.size)->F 7 #[true,true,true,true,true,true,true,true,true,true,true,true,true,true,true,false,false,false,false,false,false,false] (fr (.slice Aa i ca) (.slice (some ⟨l7,0,none⟩) 1 1) (.slice Aa2 (i+1) ad) (.slice Ab i cb) (.slice (some ⟨s,0,none⟩) 1 1) ae) W:=by
  intro l7 Aa2 ad s W hg oa na ob ap aa;rw[hF.o,ab.o];dsimp only;refine zP (rs:=[15]) (by kernel_rfl) (by simp) ?_;refine zK (o:=_) rfl (fun K hK=>?_) ?_
  .rw[zE (by rfl)];refine Nt.AE _ _ _ 27 rfl B1 34 i3 (.agg #[.bool false,.string ⟨#[]⟩,.string ⟨#[]⟩]) 3 40 underlying27 b2.o z0i3.o z1i3.o z2i3.o rfl (by decide) (.slice Ab i cb) i cbs rfl ob.o ⟨s,0,none⟩ 1 1 [.bool x.1,.string x.2.1,.string x.2.2] rfl rfl (SH aa.o.1.1 aa.o.1.2.1 aa.o.1.2.2) (fun u hu=>DC x u hu) (by omega) (by unfold maxLen;omega) (by omega) (zV aA.o hg.o.k.size) ?_;intro vx wx an af am;obtain⟨A9,c9,rfl⟩:=Eq an;have aj:=zh (hg.o.b.grown af (fun e=>ngb.o e.symm));have ao:=zh (hg.o.y.grown af (fun e=>nxb.o e.symm));have av:=zh (Iy hg.o.k af co.o);have b3:=zh (oa.o.kept af (by cases e:(Value.slice Aa2 (i+1) ad).ownBlock with|none=>exact .inl rfl|some b=>exact .inr (fun e2=>ap.o b e e2.symm)));have ct:Hid ((Value.slice A9 (i+1) c9).ownBlock=(Value.slice Ab i cb).ownBlock\/∃b,(Value.slice A9 (i+1) c9).ownBlock=some b/\w.heap.size<=b):=am.imp id fun e=>⟨_,e,hg.o.k.size⟩;have ay:Hid (∀b,(Value.slice Aa2 (i+1) ad).ownBlock=some b->(Value.slice A9 (i+1) c9).ownBlock≠some b):=fun b e e2=>by rcases am with c|c;(· exact ap.o b e (c▸e2));(· rw[c]at e2;cases e2;have:=(oa.o.lt _ e).2;omega)
   refine hK.o _ _ (Ak aj.o) (fun _=>?_);clear hK K
   try simp only[Act.put,zA,zG,zF]
   rw[<-hF.o];have hl:=Lx5x7x8x12x14x15 l7 Aa2 ad s A9 c9 wx (zh ⟨av.o,ao.o,aj.o⟩) b3 na (zh an) ct ay;rw[ab.o]at hl;exact hl
  exact zN
 have Lx5x7x12x14:∀(l7:Nat)(s:Nat)(W:World),Hid (G22 xb gb uv Aa Ab i ca cb x w W)->Hid (W.ownsRow B1 27 1 (Value.slice Aa i ca) i ah)->Hid (W.ownsRow B1 34 3 (Value.slice Ab i cb) i cbs)->Hid (∀b,(Value.slice Aa i ca).ownBlock=some b->(Value.slice Ab i cb).ownBlock≠some b)->Hid (W.cell? ⟨l7,0,none⟩=some (.slice (some ⟨rb,0,none⟩) m m)/\w.heap.size<=l7/\l7<W.heap.size)->Hid ((W.cell? ⟨s,0,none⟩=some (.bool x.1)/\W.cell? ⟨s,1,none⟩=some (.string x.2.1)/\W.cell? ⟨s,2,none⟩=some (.string x.2.2))/\w.heap.size<=s/\s<W.heap.size)->F 8 #[true,true,true,true,true,true,true,true,false,true,true,true,true,true,true,false,false,false,false,false,false,false] (fr (.slice Aa i ca) (.slice (some ⟨l7,0,none⟩) 1 1) al (.slice Ab i cb) (.slice (some ⟨s,0,none⟩) 1 1) ae) W:=by
  intro l7 s W hg oa ob ap c7 aa;rw[hF.o,ab.o];dsimp only;refine zP (rs:=[8]) (by kernel_rfl) (by simp) ?_;refine zK (o:=_) rfl (fun K hK=>?_) ?_
  .rw [zE (by rfl)];refine Nt.AE _ _ _ 77 rfl B1 27 i0 (.slice none 0 0) 1 24 underlying77 aC.o z0i0.o z1i0.o z2i0.o rfl (by decide) (.slice Aa i ca) i ah rfl oa.o ⟨l7,0,none⟩ 1 1 [.slice (some ⟨rb,0,none⟩) m m] rfl rfl (Km c7.o.1) (Ci.AQ _ rfl) (by omega) (by unfold maxLen;omega) (by omega) (zV aA.o hg.o.k.size) ?_;intro vx wx an af am;obtain⟨A9,c9,rfl⟩:=Eq an;have aj:=zh (hg.o.b.grown af (fun e=>nga.o e.symm));have ao:=zh (hg.o.y.grown af (fun e=>nxa.o e.symm));have av:=zh (Iy hg.o.k af aG.o);have az:=zh (ob.o.kept af (by cases e:(Value.slice Ab i cb).ownBlock with|none=>exact .inl rfl|some b=>exact .inr (fun e2=>ap.o b e2.symm e)));have aB:Hid ((Value.slice A9 (i+1) c9).ownBlock=(Value.slice Aa i ca).ownBlock\/∃b,(Value.slice A9 (i+1) c9).ownBlock=some b/\w.heap.size<=b):=am.imp id fun e=>⟨_,e,hg.o.k.size⟩;have ay:Hid (∀b,(Value.slice A9 (i+1) c9).ownBlock=some b->(Value.slice Ab i cb).ownBlock≠some b):=fun b e e2=>by rcases am with c|c;(· exact ap.o b (c▸e) e2);(· rw[c]at e;cases e;have:=(ob.o.lt _ e2).2;omega)
   have aE:Hid (((wx.cell? ⟨s,0,none⟩=some (.bool x.1)/\wx.cell? ⟨s,1,none⟩=some (.string x.2.1)/\wx.cell? ⟨s,2,none⟩=some (.string x.2.2))/\w.heap.size<=s/\s<wx.heap.size)):=by
    have au:=af.block s aa.o.2.2 (fun e=>by have:=(b6.o _ e.symm).2;have:=aa.o.2.1;omega);exact⟨⟨(zR (a:=⟨s,0,none⟩) au).trans aa.o.1.1,(zR (a:=⟨s,1,none⟩) au).trans aa.o.1.2.1,(zR (a:=⟨s,2,none⟩) au).trans aa.o.1.2.2⟩,aa.o.2.1,zL aa.o.2.2 af.size⟩
   refine hK.o _ _ (Ak aj.o) (fun _=>?_);clear hK K
   try simp only[Act.put,zA,zG,zF]
   rw[<-hF.o];have hl:=Lx5x7x8x12x14 l7 A9 c9 s wx (zh ⟨av.o,ao.o,aj.o⟩) (zh an) aB az ay aE;rw[ab.o]at hl;exact hl
  exact zN
 have Lx5x7x8x12:∀(l7:Nat)(Aa2:Option Addr)(ad:Nat)(W:World),Hid (G22 xb gb uv Aa Ab i ca cb x w W)->Hid (W.ownsRow B1 27 1 (Value.slice Aa2 (i+1) ad) (i+1) (ah++[.slice (some ⟨rb,0,none⟩) m m]))->Hid ((Value.slice Aa2 (i+1) ad).ownBlock=(Value.slice Aa i ca).ownBlock\/∃b,(Value.slice Aa2 (i+1) ad).ownBlock=some b/\w.heap.size<=b)->Hid (W.ownsRow B1 34 3 (Value.slice Ab i cb) i cbs)->Hid (∀b,(Value.slice Aa2 (i+1) ad).ownBlock=some b->(Value.slice Ab i cb).ownBlock≠some b)->F 8 #[true,true,true,true,true,true,true,true,true,true,true,true,true,true,false,false,false,false,false,false,false,false] (fr (.slice Aa i ca) (.slice (some ⟨l7,0,none⟩) 1 1) (.slice Aa2 (i+1) ad) (.slice Ab i cb) ak ae) W:=by
  intro l7 Aa2 ad W hg oa na ob ap;rw[hF.o,ab.o];dsimp only;refine zP (rs:=[14]) (by kernel_rfl) (by simp) ?_;refine zK (o:=_) rfl (fun K hK=>?_) ?_
  .go_simp;refine hK.o _ _ (Ak (hg.o.b.alloc _)) (fun _=>?_);clear hK K
   try simp only[zA,zG,zF]
   rw[<-hF.o];have hl:=Lx5x7x8x12x14 l7 Aa2 ad W.heap.size (W.alloc (.cells #[.bool x.1,.string x.2.1,.string x.2.2] 34)) (zh ((hg.o.alloc _))) (zh ((oa.o.alloc _))) (zh (na.o)) (zh ((ob.o.alloc _))) (zh (ap.o)) (zh (⟨⟨(Bk.new W 34 [.bool x.1,.string x.2.1,.string x.2.2]).c0,(Bk.new W 34 [.bool x.1,.string x.2.1,.string x.2.2]).c1,(Bk.new W 34 [.bool x.1,.string x.2.1,.string x.2.2]).c2⟩,hg.o.k.size,by rw[zT];exact yB _⟩));rw[ab.o]at hl;exact hl
  exact zN
 have Lx5x7x12:∀(l7:Nat)(W:World),Hid (G22 xb gb uv Aa Ab i ca cb x w W)->Hid (W.ownsRow B1 27 1 (Value.slice Aa i ca) i ah)->Hid (W.ownsRow B1 34 3 (Value.slice Ab i cb) i cbs)->Hid (∀b,(Value.slice Aa i ca).ownBlock=some b->(Value.slice Ab i cb).ownBlock≠some b)->Hid (W.cell? ⟨l7,0,none⟩=some (.slice (some ⟨rb,0,none⟩) m m)/\w.heap.size<=l7/\l7<W.heap.size)->F 9 #[true,true,true,true,true,true,true,true,false,true,true,true,true,true,false,false,false,false,false,false,false,false] (fr (.slice Aa i ca) (.slice (some ⟨l7,0,none⟩) 1 1) al (.slice Ab i cb) ak ae) W:=by
  intro l7 W hg oa ob ap c7;rw[hF.o,ab.o];dsimp only;refine zP (rs:=[8,14]) (by kernel_rfl) (by simp) ?_;refine zK (o:=_) rfl (fun K hK=>?_) ?_
  .rw[zE (by rfl)];refine Nt.AE _ _ _ 77 rfl B1 27 i0 (.slice none 0 0) 1 24 underlying77 aC.o z0i0.o z1i0.o z2i0.o rfl (by decide) (.slice Aa i ca) i ah rfl oa.o ⟨l7,0,none⟩ 1 1 [.slice (some ⟨rb,0,none⟩) m m] rfl rfl (Km c7.o.1) (Ci.AQ _ rfl) (by omega) (by unfold maxLen;omega) (by omega) (zV aA.o hg.o.k.size) ?_;intro vx wx an af am;obtain⟨A9,c9,rfl⟩:=Eq an;have aj:=zh (hg.o.b.grown af (fun e=>nga.o e.symm));have ao:=zh (hg.o.y.grown af (fun e=>nxa.o e.symm));have av:=zh (Iy hg.o.k af aG.o);have az:=zh (ob.o.kept af (by cases e:(Value.slice Ab i cb).ownBlock with|none=>exact .inl rfl|some b=>exact .inr (fun e2=>ap.o b e2.symm e)));have aB:Hid ((Value.slice A9 (i+1) c9).ownBlock=(Value.slice Aa i ca).ownBlock\/∃b,(Value.slice A9 (i+1) c9).ownBlock=some b/\w.heap.size<=b):=am.imp id fun e=>⟨_,e,hg.o.k.size⟩;have ay:Hid (∀b,(Value.slice A9 (i+1) c9).ownBlock=some b->(Value.slice Ab i cb).ownBlock≠some b):=fun b e e2=>by rcases am with c|c;(· exact ap.o b (c▸e) e2);(· rw[c]at e;cases e;have:=(ob.o.lt _ e2).2;omega)
   refine hK.o _ _ (Ak aj.o) (fun _=>?_);clear hK K
   try simp only[Act.put,zA,zG,zF]
   rw[<-hF.o];have hl:=Lx5x7x8x12 l7 A9 c9 wx (zh ⟨av.o,ao.o,aj.o⟩) (zh an) aB az ay;rw[ab.o]at hl;exact hl
  refine zK (o:=_) rfl (fun K hK=>?_) ?_
  .go_simp;refine hK.o _ _ (Ak (hg.o.b.alloc _)) (fun _=>?_);clear hK K
   try simp only[zA,zG,zF]
   rw[<-hF.o];have hl:=Lx5x7x12x14 l7 W.heap.size (W.alloc (.cells #[.bool x.1,.string x.2.1,.string x.2.2] 34)) (zh ((hg.o.alloc _))) (zh ((oa.o.alloc _))) (zh ((ob.o.alloc _))) (zh (ap.o)) (zh (⟨(zk _ _ _ c7.o.2.2).trans c7.o.1,c7.o.2.1,by rw[zT];exact xU c7.o.2.2⟩)) (zh (⟨⟨(Bk.new W 34 [.bool x.1,.string x.2.1,.string x.2.2]).c0,(Bk.new W 34 [.bool x.1,.string x.2.1,.string x.2.2]).c1,(Bk.new W 34 [.bool x.1,.string x.2.1,.string x.2.2]).c2⟩,hg.o.k.size,by rw[zT];exact yB _⟩));rw[ab.o]at hl;exact hl
  exact zN
 have Lx5x7x8x14:∀(l7:Nat)(Aa2:Option Addr)(ad:Nat)(s:Nat)(W:World),Hid (G22 xb gb uv Aa Ab i ca cb x w W)->Hid (W.ownsRow B1 27 1 (Value.slice Aa2 (i+1) ad) (i+1) (ah++[.slice (some ⟨rb,0,none⟩) m m]))->Hid ((Value.slice Aa2 (i+1) ad).ownBlock=(Value.slice Aa i ca).ownBlock\/∃b,(Value.slice Aa2 (i+1) ad).ownBlock=some b/\w.heap.size<=b)->Hid (W.ownsRow B1 34 3 (Value.slice Ab i cb) i cbs)->Hid (∀b,(Value.slice Aa2 (i+1) ad).ownBlock=some b->(Value.slice Ab i cb).ownBlock≠some b)->Hid ((W.cell? ⟨s,0,none⟩=some (.bool x.1)/\W.cell? ⟨s,1,none⟩=some (.string x.2.1)/\W.cell? ⟨s,2,none⟩=some (.string x.2.2))/\w.heap.size<=s/\s<W.heap.size)->F 8 #[true,true,true,true,true,true,true,true,true,true,true,true,false,true,true,false,false,false,false,false,false,false] (fr (.slice Aa i ca) (.slice (some ⟨l7,0,none⟩) 1 1) (.slice Aa2 (i+1) ad) ar (.slice (some ⟨s,0,none⟩) 1 1) ae) W:=by
  intro l7 Aa2 ad s W hg oa na ob ap aa;rw[hF.o,ab.o];dsimp only;refine zP (rs:=[12]) (by kernel_rfl) (by simp) ?_;have x1:=hg.o.y.c2;have x9:=hg.o.y.lt;refine zK (o:=_) rfl (fun K hK=>?_) ?_
  .go_simp;clear x1 x9;refine hK.o _ _ (Ak hg.o.b) (fun _=>?_);clear hK K
   try simp only[zA,zG,zF]
   rw[<-hF.o];have hl:=Lx5x7x8x12x14 l7 Aa2 ad s W hg oa na ob ap aa;rw[ab.o]at hl;exact hl
  clear x1 x9;exact zN
 have Lx5x7x14:∀(l7:Nat)(s:Nat)(W:World),Hid (G22 xb gb uv Aa Ab i ca cb x w W)->Hid (W.ownsRow B1 27 1 (Value.slice Aa i ca) i ah)->Hid (W.ownsRow B1 34 3 (Value.slice Ab i cb) i cbs)->Hid (∀b,(Value.slice Aa i ca).ownBlock=some b->(Value.slice Ab i cb).ownBlock≠some b)->Hid (W.cell? ⟨l7,0,none⟩=some (.slice (some ⟨rb,0,none⟩) m m)/\w.heap.size<=l7/\l7<W.heap.size)->Hid ((W.cell? ⟨s,0,none⟩=some (.bool x.1)/\W.cell? ⟨s,1,none⟩=some (.string x.2.1)/\W.cell? ⟨s,2,none⟩=some (.string x.2.2))/\w.heap.size<=s/\s<W.heap.size)->F 9 #[true,true,true,true,true,true,true,true,false,true,true,true,false,true,true,false,false,false,false,false,false,false] (fr (.slice Aa i ca) (.slice (some ⟨l7,0,none⟩) 1 1) al ar (.slice (some ⟨s,0,none⟩) 1 1) ae) W:=by
  intro l7 s W hg oa ob ap c7 aa;rw[hF.o,ab.o];dsimp only;refine zP (rs:=[8,12]) (by kernel_rfl) (by simp) ?_;refine zK (o:=_) rfl (fun K hK=>?_) ?_
  .rw [zE (by rfl)];refine Nt.AE _ _ _ 77 rfl B1 27 i0 (.slice none 0 0) 1 24 underlying77 aC.o z0i0.o z1i0.o z2i0.o rfl (by decide) (.slice Aa i ca) i ah rfl oa.o ⟨l7,0,none⟩ 1 1 [.slice (some ⟨rb,0,none⟩) m m] rfl rfl (Km c7.o.1) (Ci.AQ _ rfl) (by omega) (by unfold maxLen;omega) (by omega) (zV aA.o hg.o.k.size) ?_;intro vx wx an af am;obtain⟨A9,c9,rfl⟩:=Eq an;have aj:=zh (hg.o.b.grown af (fun e=>nga.o e.symm));have ao:=zh (hg.o.y.grown af (fun e=>nxa.o e.symm));have av:=zh (Iy hg.o.k af aG.o);have az:=zh (ob.o.kept af (by cases e:(Value.slice Ab i cb).ownBlock with|none=>exact .inl rfl|some b=>exact .inr (fun e2=>ap.o b e2.symm e)));have aB:Hid ((Value.slice A9 (i+1) c9).ownBlock=(Value.slice Aa i ca).ownBlock\/∃b,(Value.slice A9 (i+1) c9).ownBlock=some b/\w.heap.size<=b):=am.imp id fun e=>⟨_,e,hg.o.k.size⟩;have ay:Hid (∀b,(Value.slice A9 (i+1) c9).ownBlock=some b->(Value.slice Ab i cb).ownBlock≠some b):=fun b e e2=>by rcases am with c|c;(· exact ap.o b (c▸e) e2);(· rw[c]at e;cases e;have:=(ob.o.lt _ e2).2;omega)
   have aE:Hid (((wx.cell? ⟨s,0,none⟩=some (.bool x.1)/\wx.cell? ⟨s,1,none⟩=some (.string x.2.1)/\wx.cell? ⟨s,2,none⟩=some (.string x.2.2))/\w.heap.size<=s/\s<wx.heap.size)):=by
    have au:=af.block s aa.o.2.2 (fun e=>by have:=(b6.o _ e.symm).2;have:=aa.o.2.1;omega);exact⟨⟨(zR (a:=⟨s,0,none⟩) au).trans aa.o.1.1,(zR (a:=⟨s,1,none⟩) au).trans aa.o.1.2.1,(zR (a:=⟨s,2,none⟩) au).trans aa.o.1.2.2⟩,aa.o.2.1,zL aa.o.2.2 af.size⟩
   refine hK.o _ _ (Ak aj.o) (fun _=>?_);clear hK K
   try simp only[Act.put,zA,zG,zF]
   rw[<-hF.o];have hl:=Lx5x7x8x14 l7 A9 c9 s wx (zh ⟨av.o,ao.o,aj.o⟩) (zh an) aB az ay aE;rw[ab.o]at hl;exact hl
  have x1:=hg.o.y.c2;have x9:=hg.o.y.lt;refine zK (o:=_) rfl (fun K hK=>?_) ?_
  .go_simp;clear x1 x9;refine hK.o _ _ (Ak hg.o.b) (fun _=>?_);clear hK K
   try simp only[zA,zG,zF]
   rw[<-hF.o];have hl:=Lx5x7x12x14 l7 s W hg oa ob ap c7 aa;rw[ab.o]at hl;exact hl
  clear x1 x9;exact zN
 have Lx5x7x8:∀(l7:Nat)(Aa2:Option Addr)(ad:Nat)(W:World),Hid (G22 xb gb uv Aa Ab i ca cb x w W)->Hid (W.ownsRow B1 27 1 (Value.slice Aa2 (i+1) ad) (i+1) (ah++[.slice (some ⟨rb,0,none⟩) m m]))->Hid ((Value.slice Aa2 (i+1) ad).ownBlock=(Value.slice Aa i ca).ownBlock\/∃b,(Value.slice Aa2 (i+1) ad).ownBlock=some b/\w.heap.size<=b)->Hid (W.ownsRow B1 34 3 (Value.slice Ab i cb) i cbs)->Hid (∀b,(Value.slice Aa2 (i+1) ad).ownBlock=some b->(Value.slice Ab i cb).ownBlock≠some b)->F 9 #[true,true,true,true,true,true,true,true,true,true,true,true,false,true,false,false,false,false,false,false,false,false] (fr (.slice Aa i ca) (.slice (some ⟨l7,0,none⟩) 1 1) (.slice Aa2 (i+1) ad) ar ak ae) W:=by
  intro l7 Aa2 ad W hg oa na ob ap;rw[hF.o,ab.o];dsimp only;refine zP (rs:=[12,14]) (by kernel_rfl) (by simp) ?_;have x1:=hg.o.y.c2;have x9:=hg.o.y.lt;refine zK (o:=_) rfl (fun K hK=>?_) ?_
  .go_simp;clear x1 x9;refine hK.o _ _ (Ak hg.o.b) (fun _=>?_);clear hK K
   try simp only[zA,zG,zF]
   rw[<-hF.o];have hl:=Lx5x7x8x12 l7 Aa2 ad W hg oa na ob ap;rw[ab.o]at hl;exact hl
  clear x1 x9;refine zK (o:=_) rfl (fun K hK=>?_) ?_
  .go_simp;refine hK.o _ _ (Ak (hg.o.b.alloc _)) (fun _=>?_);clear hK K
   try simp only[zA,zG,zF]
   rw[<-hF.o];have hl:=Lx5x7x8x14 l7 Aa2 ad W.heap.size (W.alloc (.cells #[.bool x.1,.string x.2.1,.string x.2.2] 34)) (zh ((hg.o.alloc _))) (zh ((oa.o.alloc _))) (zh (na.o)) (zh ((ob.o.alloc _))) (zh (ap.o)) (zh (⟨⟨(Bk.new W 34 [.bool x.1,.string x.2.1,.string x.2.2]).c0,(Bk.new W 34 [.bool x.1,.string x.2.1,.string x.2.2]).c1,(Bk.new W 34 [.bool x.1,.string x.2.1,.string x.2.2]).c2⟩,hg.o.k.size,by rw[zT];exact yB _⟩));rw[ab.o]at hl;exact hl
  exact zN
 have Lx5x7:∀(l7:Nat)(W:World),Hid (G22 xb gb uv Aa Ab i ca cb x w W)->Hid (W.ownsRow B1 27 1 (Value.slice Aa i ca) i ah)->Hid (W.ownsRow B1 34 3 (Value.slice Ab i cb) i cbs)->Hid (∀b,(Value.slice Aa i ca).ownBlock=some b->(Value.slice Ab i cb).ownBlock≠some b)->Hid (W.cell? ⟨l7,0,none⟩=some (.slice (some ⟨rb,0,none⟩) m m)/\w.heap.size<=l7/\l7<W.heap.size)->F 10 #[true,true,true,true,true,true,true,true,false,true,true,true,false,true,false,false,false,false,false,false,false,false] (fr (.slice Aa i ca) (.slice (some ⟨l7,0,none⟩) 1 1) al ar ak ae) W:=by
  intro l7 W hg oa ob ap c7;rw[hF.o,ab.o];dsimp only;refine zP (rs:=[8,12,14]) (by kernel_rfl) (by simp) ?_;refine zK (o:=_) rfl (fun K hK=>?_) ?_
  .rw[zE (by rfl)];refine Nt.AE _ _ _ 77 rfl B1 27 i0 (.slice none 0 0) 1 24 underlying77 aC.o z0i0.o z1i0.o z2i0.o rfl (by decide) (.slice Aa i ca) i ah rfl oa.o ⟨l7,0,none⟩ 1 1 [.slice (some ⟨rb,0,none⟩) m m] rfl rfl (Km c7.o.1) (Ci.AQ _ rfl) (by omega) (by unfold maxLen;omega) (by omega) (zV aA.o hg.o.k.size) ?_;intro vx wx an af am;obtain⟨A9,c9,rfl⟩:=Eq an;have aj:=zh (hg.o.b.grown af (fun e=>nga.o e.symm));have ao:=zh (hg.o.y.grown af (fun e=>nxa.o e.symm));have av:=zh (Iy hg.o.k af aG.o);have az:=zh (ob.o.kept af (by cases e:(Value.slice Ab i cb).ownBlock with|none=>exact .inl rfl|some b=>exact .inr (fun e2=>ap.o b e2.symm e)));have aB:Hid ((Value.slice A9 (i+1) c9).ownBlock=(Value.slice Aa i ca).ownBlock\/∃b,(Value.slice A9 (i+1) c9).ownBlock=some b/\w.heap.size<=b):=am.imp id fun e=>⟨_,e,hg.o.k.size⟩;have ay:Hid (∀b,(Value.slice A9 (i+1) c9).ownBlock=some b->(Value.slice Ab i cb).ownBlock≠some b):=fun b e e2=>by rcases am with c|c;(· exact ap.o b (c▸e) e2);(· rw[c]at e;cases e;have:=(ob.o.lt _ e2).2;omega)
   refine hK.o _ _ (Ak aj.o) (fun _=>?_);clear hK K
   try simp only[Act.put,zA,zG,zF]
   rw[<-hF.o];have hl:=Lx5x7x8 l7 A9 c9 wx (zh ⟨av.o,ao.o,aj.o⟩) (zh an) aB az ay;rw[ab.o]at hl;exact hl
  have x1:=hg.o.y.c2;have x9:=hg.o.y.lt;refine zK (o:=_) rfl (fun K hK=>?_) ?_
  .go_simp;clear x1 x9;refine hK.o _ _ (Ak hg.o.b) (fun _=>?_);clear hK K
   try simp only[zA,zG,zF]
   rw[<-hF.o];have hl:=Lx5x7x12 l7 W hg oa ob ap c7;rw[ab.o]at hl;exact hl
  clear x1 x9;refine zK (o:=_) rfl (fun K hK=>?_) ?_
  .go_simp;refine hK.o _ _ (Ak (hg.o.b.alloc _)) (fun _=>?_);clear hK K
   try simp only[zA,zG,zF]
   rw[<-hF.o];have hl:=Lx5x7x14 l7 W.heap.size (W.alloc (.cells #[.bool x.1,.string x.2.1,.string x.2.2] 34)) (zh ((hg.o.alloc _))) (zh ((oa.o.alloc _))) (zh ((ob.o.alloc _))) (zh (ap.o)) (zh (⟨(zk _ _ _ c7.o.2.2).trans c7.o.1,c7.o.2.1,by rw[zT];exact xU c7.o.2.2⟩)) (zh (⟨⟨(Bk.new W 34 [.bool x.1,.string x.2.1,.string x.2.2]).c0,(Bk.new W 34 [.bool x.1,.string x.2.1,.string x.2.2]).c1,(Bk.new W 34 [.bool x.1,.string x.2.1,.string x.2.2]).c2⟩,hg.o.k.size,by rw[zT];exact yB _⟩));rw[ab.o]at hl;exact hl
  exact zN
 have Lx5x12x14:∀(s:Nat)(W:World),Hid (G22 xb gb uv Aa Ab i ca cb x w W)->Hid (W.ownsRow B1 27 1 (Value.slice Aa i ca) i ah)->Hid (W.ownsRow B1 34 3 (Value.slice Ab i cb) i cbs)->Hid (∀b,(Value.slice Aa i ca).ownBlock=some b->(Value.slice Ab i cb).ownBlock≠some b)->Hid ((W.cell? ⟨s,0,none⟩=some (.bool x.1)/\W.cell? ⟨s,1,none⟩=some (.string x.2.1)/\W.cell? ⟨s,2,none⟩=some (.string x.2.2))/\w.heap.size<=s/\s<W.heap.size)->F 9 #[true,true,true,true,true,true,true,false,false,true,true,true,true,true,true,false,false,false,false,false,false,false] (fr (.slice Aa i ca) ax al (.slice Ab i cb) (.slice (some ⟨s,0,none⟩) 1 1) ae) W:=by
  intro s W hg oa ob ap aa;rw[hF.o,ab.o];dsimp only;refine zP (rs:=[7]) (by kernel_rfl) (by simp) ?_;refine zK (o:=_) rfl (fun K hK=>?_) ?_
  .go_simp;refine hK.o _ _ (Ak (hg.o.b.alloc _)) (fun _=>?_);clear hK K
   try simp only[zA,zG,zF]
   rw[<-hF.o];have hl:=Lx5x7x12x14 W.heap.size s (W.alloc (.cells #[.slice (some ⟨rb,0,none⟩) m m] 27)) (zh ((hg.o.alloc _))) (zh ((oa.o.alloc _))) (zh ((ob.o.alloc _))) (zh (ap.o)) (zh (⟨(Bk.new W 27 [.slice (some ⟨rb,0,none⟩) m m]).c0,hg.o.k.size,by rw[zT];exact yB _⟩)) (zh (⟨⟨(zk _ _ _ aa.o.2.2).trans aa.o.1.1,(zk _ _ _ aa.o.2.2).trans aa.o.1.2.1,(zk _ _ _ aa.o.2.2).trans aa.o.1.2.2⟩,aa.o.2.1,by rw[zT];exact xU aa.o.2.2⟩));rw[ab.o]at hl;exact hl
  exact zN
 have Lx5x12:∀(W:World),Hid (G22 xb gb uv Aa Ab i ca cb x w W)->Hid (W.ownsRow B1 27 1 (Value.slice Aa i ca) i ah)->Hid (W.ownsRow B1 34 3 (Value.slice Ab i cb) i cbs)->Hid (∀b,(Value.slice Aa i ca).ownBlock=some b->(Value.slice Ab i cb).ownBlock≠some b)->F 10 #[true,true,true,true,true,true,true,false,false,true,true,true,true,true,false,false,false,false,false,false,false,false] (fr (.slice Aa i ca) ax al (.slice Ab i cb) ak ae) W:=by
  intro  W hg oa ob ap;rw[hF.o,ab.o];dsimp only;refine zP (rs:=[7,14]) (by kernel_rfl) (by simp) ?_;refine zK (o:=_) rfl (fun K hK=>?_) ?_
  .go_simp;refine hK.o _ _ (Ak (hg.o.b.alloc _)) (fun _=>?_);clear hK K
   try simp only[zA,zG,zF]
   rw[<-hF.o];have hl:=Lx5x7x12 W.heap.size (W.alloc (.cells #[.slice (some ⟨rb,0,none⟩) m m] 27)) (zh ((hg.o.alloc _))) (zh ((oa.o.alloc _))) (zh ((ob.o.alloc _))) (zh (ap.o)) (zh (⟨(Bk.new W 27 [.slice (some ⟨rb,0,none⟩) m m]).c0,hg.o.k.size,by rw[zT];exact yB _⟩));rw[ab.o]at hl;exact hl
  refine zK (o:=_) rfl (fun K hK=>?_) ?_
  .go_simp;refine hK.o _ _ (Ak (hg.o.b.alloc _)) (fun _=>?_);clear hK K
   try simp only[zA,zG,zF]
   rw[<-hF.o];have hl:=Lx5x12x14 W.heap.size (W.alloc (.cells #[.bool x.1,.string x.2.1,.string x.2.2] 34)) (zh ((hg.o.alloc _))) (zh ((oa.o.alloc _))) (zh ((ob.o.alloc _))) (zh (ap.o)) (zh (⟨⟨(Bk.new W 34 [.bool x.1,.string x.2.1,.string x.2.2]).c0,(Bk.new W 34 [.bool x.1,.string x.2.1,.string x.2.2]).c1,(Bk.new W 34 [.bool x.1,.string x.2.1,.string x.2.2]).c2⟩,hg.o.k.size,by rw[zT];exact yB _⟩));rw[ab.o]at hl;exact hl
  exact zN
 have Lx5x14:∀(s:Nat)(W:World),Hid (G22 xb gb uv Aa Ab i ca cb x w W)->Hid (W.ownsRow B1 27 1 (Value.slice Aa i ca) i ah)->Hid (W.ownsRow B1 34 3 (Value.slice Ab i cb) i cbs)->Hid (∀b,(Value.slice Aa i ca).ownBlock=some b->(Value.slice Ab i cb).ownBlock≠some b)->Hid ((W.cell? ⟨s,0,none⟩=some (.bool x.1)/\W.cell? ⟨s,1,none⟩=some (.string x.2.1)/\W.cell? ⟨s,2,none⟩=some (.string x.2.2))/\w.heap.size<=s/\s<W.heap.size)->F 10 #[true,true,true,true,true,true,true,false,false,true,true,true,false,true,true,false,false,false,false,false,false,false] (fr (.slice Aa i ca) ax al ar (.slice (some ⟨s,0,none⟩) 1 1) ae) W:=by
  intro s W hg oa ob ap aa;rw[hF.o,ab.o];dsimp only;refine zP (rs:=[7,12]) (by kernel_rfl) (by simp) ?_;refine zK (o:=_) rfl (fun K hK=>?_) ?_
  .go_simp;refine hK.o _ _ (Ak (hg.o.b.alloc _)) (fun _=>?_);clear hK K
   try simp only[zA,zG,zF]
   rw[<-hF.o];have hl:=Lx5x7x14 W.heap.size s (W.alloc (.cells #[.slice (some ⟨rb,0,none⟩) m m] 27)) (zh ((hg.o.alloc _))) (zh ((oa.o.alloc _))) (zh ((ob.o.alloc _))) (zh (ap.o)) (zh (⟨(Bk.new W 27 [.slice (some ⟨rb,0,none⟩) m m]).c0,hg.o.k.size,by rw[zT];exact yB _⟩)) (zh (⟨⟨(zk _ _ _ aa.o.2.2).trans aa.o.1.1,(zk _ _ _ aa.o.2.2).trans aa.o.1.2.1,(zk _ _ _ aa.o.2.2).trans aa.o.1.2.2⟩,aa.o.2.1,by rw[zT];exact xU aa.o.2.2⟩));rw[ab.o]at hl;exact hl
  have x1:=hg.o.y.c2;have x9:=hg.o.y.lt;refine zK (o:=_) rfl (fun K hK=>?_) ?_
  .go_simp;clear x1 x9;refine hK.o _ _ (Ak hg.o.b) (fun _=>?_);clear hK K
   try simp only[zA,zG,zF]
   rw[<-hF.o];have hl:=Lx5x12x14 s W hg oa ob ap aa;rw[ab.o]at hl;exact hl
  clear x1 x9;exact zN
 have Lx5:∀(W:World),Hid (G22 xb gb uv Aa Ab i ca cb x w W)->Hid (W.ownsRow B1 27 1 (Value.slice Aa i ca) i ah)->Hid (W.ownsRow B1 34 3 (Value.slice Ab i cb) i cbs)->Hid (∀b,(Value.slice Aa i ca).ownBlock=some b->(Value.slice Ab i cb).ownBlock≠some b)->F 11 #[true,true,true,true,true,true,true,false,false,true,true,true,false,true,false,false,false,false,false,false,false,false] (fr (.slice Aa i ca) ax al ar ak ae) W:=by
  intro  W hg oa ob ap;rw[hF.o,ab.o];dsimp only;refine zP (rs:=[7,12,14]) (by kernel_rfl) (by simp) ?_;refine zK (o:=_) rfl (fun K hK=>?_) ?_
  .go_simp;refine hK.o _ _ (Ak (hg.o.b.alloc _)) (fun _=>?_);clear hK K
   try simp only[zA,zG,zF]
   rw[<-hF.o];have hl:=Lx5x7 W.heap.size (W.alloc (.cells #[.slice (some ⟨rb,0,none⟩) m m] 27)) (zh ((hg.o.alloc _))) (zh ((oa.o.alloc _))) (zh ((ob.o.alloc _))) (zh (ap.o)) (zh (⟨(Bk.new W 27 [.slice (some ⟨rb,0,none⟩) m m]).c0,hg.o.k.size,by rw[zT];exact yB _⟩));rw[ab.o]at hl;exact hl
  have x1:=hg.o.y.c2;have x9:=hg.o.y.lt;refine zK (o:=_) rfl (fun K hK=>?_) ?_
  .go_simp;clear x1 x9;refine hK.o _ _ (Ak hg.o.b) (fun _=>?_);clear hK K
   try simp only[zA,zG,zF]
   rw[<-hF.o];have hl:=Lx5x12  W hg oa ob ap;rw[ab.o]at hl;exact hl
  clear x1 x9;refine zK (o:=_) rfl (fun K hK=>?_) ?_
  .go_simp;refine hK.o _ _ (Ak (hg.o.b.alloc _)) (fun _=>?_);clear hK K
   try simp only[zA,zG,zF]
   rw[<-hF.o];have hl:=Lx5x14 W.heap.size (W.alloc (.cells #[.bool x.1,.string x.2.1,.string x.2.2] 34)) (zh ((hg.o.alloc _))) (zh ((oa.o.alloc _))) (zh ((ob.o.alloc _))) (zh (ap.o)) (zh (⟨⟨(Bk.new W 34 [.bool x.1,.string x.2.1,.string x.2.2]).c0,(Bk.new W 34 [.bool x.1,.string x.2.1,.string x.2.2]).c1,(Bk.new W 34 [.bool x.1,.string x.2.1,.string x.2.2]).c2⟩,hg.o.k.size,by rw[zT];exact yB _⟩));rw[ab.o]at hl;exact hl
  exact zN
 have Lx7x12x14:∀(l7:Nat)(s:Nat)(W:World),Hid (G22 xb gb uv Aa Ab i ca cb x w W)->Hid (W.ownsRow B1 27 1 (Value.slice Aa i ca) i ah)->Hid (W.ownsRow B1 34 3 (Value.slice Ab i cb) i cbs)->Hid (∀b,(Value.slice Aa i ca).ownBlock=some b->(Value.slice Ab i cb).ownBlock≠some b)->Hid (W.cell? ⟨l7,0,none⟩=some (.slice (some ⟨rb,0,none⟩) m m)/\w.heap.size<=l7/\l7<W.heap.size)->Hid ((W.cell? ⟨s,0,none⟩=some (.bool x.1)/\W.cell? ⟨s,1,none⟩=some (.string x.2.1)/\W.cell? ⟨s,2,none⟩=some (.string x.2.2))/\w.heap.size<=s/\s<W.heap.size)->F 9 #[true,true,true,true,true,false,true,true,false,true,true,true,true,true,true,false,false,false,false,false,false,false] (fr aw (.slice (some ⟨l7,0,none⟩) 1 1) al (.slice Ab i cb) (.slice (some ⟨s,0,none⟩) 1 1) ae) W:=by
  intro l7 s W hg oa ob ap c7 aa;rw[hF.o,ab.o];dsimp only;refine zP (rs:=[5]) (by kernel_rfl) (by simp) ?_;have x1:=hg.o.y.c1;have x9:=hg.o.y.lt;refine zK (o:=_) rfl (fun K hK=>?_) ?_
  .go_simp;clear x1 x9;refine hK.o _ _ (Ak hg.o.b) (fun _=>?_);clear hK K
   try simp only[zA,zG,zF]
   rw[<-hF.o];have hl:=Lx5x7x12x14 l7 s W hg oa ob ap c7 aa;rw[ab.o]at hl;exact hl
  clear x1 x9;exact zN
 have Lx7x12:∀(l7:Nat)(W:World),Hid (G22 xb gb uv Aa Ab i ca cb x w W)->Hid (W.ownsRow B1 27 1 (Value.slice Aa i ca) i ah)->Hid (W.ownsRow B1 34 3 (Value.slice Ab i cb) i cbs)->Hid (∀b,(Value.slice Aa i ca).ownBlock=some b->(Value.slice Ab i cb).ownBlock≠some b)->Hid (W.cell? ⟨l7,0,none⟩=some (.slice (some ⟨rb,0,none⟩) m m)/\w.heap.size<=l7/\l7<W.heap.size)->F 10 #[true,true,true,true,true,false,true,true,false,true,true,true,true,true,false,false,false,false,false,false,false,false] (fr aw (.slice (some ⟨l7,0,none⟩) 1 1) al (.slice Ab i cb) ak ae) W:=by
  intro l7 W hg oa ob ap c7;rw[hF.o,ab.o];dsimp only;refine zP (rs:=[5,14]) (by kernel_rfl) (by simp) ?_;have x1:=hg.o.y.c1;have x9:=hg.o.y.lt;refine zK (o:=_) rfl (fun K hK=>?_) ?_
  .go_simp;clear x1 x9;refine hK.o _ _ (Ak hg.o.b) (fun _=>?_);clear hK K
   try simp only[zA,zG,zF]
   rw[<-hF.o];have hl:=Lx5x7x12 l7 W hg oa ob ap c7;rw[ab.o]at hl;exact hl
  clear x1 x9;refine zK (o:=_) rfl (fun K hK=>?_) ?_
  .go_simp;refine hK.o _ _ (Ak (hg.o.b.alloc _)) (fun _=>?_);clear hK K
   try simp only[zA,zG,zF]
   rw[<-hF.o];have hl:=Lx7x12x14 l7 W.heap.size (W.alloc (.cells #[.bool x.1,.string x.2.1,.string x.2.2] 34)) (zh ((hg.o.alloc _))) (zh ((oa.o.alloc _))) (zh ((ob.o.alloc _))) (zh (ap.o)) (zh (⟨(zk _ _ _ c7.o.2.2).trans c7.o.1,c7.o.2.1,by rw[zT];exact xU c7.o.2.2⟩)) (zh (⟨⟨(Bk.new W 34 [.bool x.1,.string x.2.1,.string x.2.2]).c0,(Bk.new W 34 [.bool x.1,.string x.2.1,.string x.2.2]).c1,(Bk.new W 34 [.bool x.1,.string x.2.1,.string x.2.2]).c2⟩,hg.o.k.size,by rw[zT];exact yB _⟩));rw[ab.o]at hl;exact hl
  exact zN
 have Lx7x14:∀(l7:Nat)(s:Nat)(W:World),Hid (G22 xb gb uv Aa Ab i ca cb x w W)->Hid (W.ownsRow B1 27 1 (Value.slice Aa i ca) i ah)->Hid (W.ownsRow B1 34 3 (Value.slice Ab i cb) i cbs)->Hid (∀b,(Value.slice Aa i ca).ownBlock=some b->(Value.slice Ab i cb).ownBlock≠some b)->Hid (W.cell? ⟨l7,0,none⟩=some (.slice (some ⟨rb,0,none⟩) m m)/\w.heap.size<=l7/\l7<W.heap.size)->Hid ((W.cell? ⟨s,0,none⟩=some (.bool x.1)/\W.cell? ⟨s,1,none⟩=some (.string x.2.1)/\W.cell? ⟨s,2,none⟩=some (.string x.2.2))/\w.heap.size<=s/\s<W.heap.size)->F 10 #[true,true,true,true,true,false,true,true,false,true,true,true,false,true,true,false,false,false,false,false,false,false] (fr aw (.slice (some ⟨l7,0,none⟩) 1 1) al ar (.slice (some ⟨s,0,none⟩) 1 1) ae) W:=by
  intro l7 s W hg oa ob ap c7 aa;rw[hF.o,ab.o];dsimp only;refine zP (rs:=[5,12]) (by kernel_rfl) (by simp) ?_;have x1:=hg.o.y.c1;have x9:=hg.o.y.lt;refine zK (o:=_) rfl (fun K hK=>?_) ?_
  .go_simp;clear x1 x9;refine hK.o _ _ (Ak hg.o.b) (fun _=>?_);clear hK K
   try simp only[zA,zG,zF]
   rw[<-hF.o];have hl:=Lx5x7x14 l7 s W hg oa ob ap c7 aa;rw[ab.o]at hl;exact hl
  clear x1 x9;have x1:=hg.o.y.c2;have x9:=hg.o.y.lt;refine zK (o:=_) rfl (fun K hK=>?_) ?_
  .go_simp;clear x1 x9;refine hK.o _ _ (Ak hg.o.b) (fun _=>?_);clear hK K
   try simp only[zA,zG,zF]
   rw[<-hF.o];have hl:=Lx7x12x14 l7 s W hg oa ob ap c7 aa;rw[ab.o]at hl;exact hl
  clear x1 x9;exact zN
 have Lx7:∀(l7:Nat)(W:World),Hid (G22 xb gb uv Aa Ab i ca cb x w W)->Hid (W.ownsRow B1 27 1 (Value.slice Aa i ca) i ah)->Hid (W.ownsRow B1 34 3 (Value.slice Ab i cb) i cbs)->Hid (∀b,(Value.slice Aa i ca).ownBlock=some b->(Value.slice Ab i cb).ownBlock≠some b)->Hid (W.cell? ⟨l7,0,none⟩=some (.slice (some ⟨rb,0,none⟩) m m)/\w.heap.size<=l7/\l7<W.heap.size)->F 11 #[true,true,true,true,true,false,true,true,false,true,true,true,false,true,false,false,false,false,false,false,false,false] (fr aw (.slice (some ⟨l7,0,none⟩) 1 1) al ar ak ae) W:=by
  intro l7 W hg oa ob ap c7;rw[hF.o,ab.o];dsimp only;refine zP (rs:=[5,12,14]) (by kernel_rfl) (by simp) ?_;have x1:=hg.o.y.c1;have x9:=hg.o.y.lt;refine zK (o:=_) rfl (fun K hK=>?_) ?_
  .go_simp;clear x1 x9;refine hK.o _ _ (Ak hg.o.b) (fun _=>?_);clear hK K
   try simp only[zA,zG,zF]
   rw[<-hF.o];have hl:=Lx5x7 l7 W hg oa ob ap c7;rw[ab.o]at hl;exact hl
  clear x1 x9;have x1:=hg.o.y.c2;have x9:=hg.o.y.lt;refine zK (o:=_) rfl (fun K hK=>?_) ?_
  .go_simp;clear x1 x9;refine hK.o _ _ (Ak hg.o.b) (fun _=>?_);clear hK K
   try simp only[zA,zG,zF]
   rw[<-hF.o];have hl:=Lx7x12 l7 W hg oa ob ap c7;rw[ab.o]at hl;exact hl
  clear x1 x9;refine zK (o:=_) rfl (fun K hK=>?_) ?_
  .go_simp;refine hK.o _ _ (Ak (hg.o.b.alloc _)) (fun _=>?_);clear hK K
   try simp only[zA,zG,zF]
   rw[<-hF.o];have hl:=Lx7x14 l7 W.heap.size (W.alloc (.cells #[.bool x.1,.string x.2.1,.string x.2.2] 34)) (zh ((hg.o.alloc _))) (zh ((oa.o.alloc _))) (zh ((ob.o.alloc _))) (zh (ap.o)) (zh (⟨(zk _ _ _ c7.o.2.2).trans c7.o.1,c7.o.2.1,by rw[zT];exact xU c7.o.2.2⟩)) (zh (⟨⟨(Bk.new W 34 [.bool x.1,.string x.2.1,.string x.2.2]).c0,(Bk.new W 34 [.bool x.1,.string x.2.1,.string x.2.2]).c1,(Bk.new W 34 [.bool x.1,.string x.2.1,.string x.2.2]).c2⟩,hg.o.k.size,by rw[zT];exact yB _⟩));rw[ab.o]at hl;exact hl
  exact zN
 have Lx12x14:∀(s:Nat)(W:World),Hid (G22 xb gb uv Aa Ab i ca cb x w W)->Hid (W.ownsRow B1 27 1 (Value.slice Aa i ca) i ah)->Hid (W.ownsRow B1 34 3 (Value.slice Ab i cb) i cbs)->Hid (∀b,(Value.slice Aa i ca).ownBlock=some b->(Value.slice Ab i cb).ownBlock≠some b)->Hid ((W.cell? ⟨s,0,none⟩=some (.bool x.1)/\W.cell? ⟨s,1,none⟩=some (.string x.2.1)/\W.cell? ⟨s,2,none⟩=some (.string x.2.2))/\w.heap.size<=s/\s<W.heap.size)->F 10 #[true,true,true,true,true,false,true,false,false,true,true,true,true,true,true,false,false,false,false,false,false,false] (fr aw ax al (.slice Ab i cb) (.slice (some ⟨s,0,none⟩) 1 1) ae) W:=by
  intro s W hg oa ob ap aa;rw[hF.o,ab.o];dsimp only;refine zP (rs:=[5,7]) (by kernel_rfl) (by simp) ?_;have x1:=hg.o.y.c1;have x9:=hg.o.y.lt;refine zK (o:=_) rfl (fun K hK=>?_) ?_
  .go_simp;clear x1 x9;refine hK.o _ _ (Ak hg.o.b) (fun _=>?_);clear hK K
   try simp only[zA,zG,zF]
   rw[<-hF.o];have hl:=Lx5x12x14 s W hg oa ob ap aa;rw[ab.o]at hl;exact hl
  clear x1 x9;refine zK (o:=_) rfl (fun K hK=>?_) ?_
  .go_simp;refine hK.o _ _ (Ak (hg.o.b.alloc _)) (fun _=>?_);clear hK K
   try simp only[zA,zG,zF]
   rw[<-hF.o];have hl:=Lx7x12x14 W.heap.size s (W.alloc (.cells #[.slice (some ⟨rb,0,none⟩) m m] 27)) (zh ((hg.o.alloc _))) (zh ((oa.o.alloc _))) (zh ((ob.o.alloc _))) (zh (ap.o)) (zh (⟨(Bk.new W 27 [.slice (some ⟨rb,0,none⟩) m m]).c0,hg.o.k.size,by rw[zT];exact yB _⟩)) (zh (⟨⟨(zk _ _ _ aa.o.2.2).trans aa.o.1.1,(zk _ _ _ aa.o.2.2).trans aa.o.1.2.1,(zk _ _ _ aa.o.2.2).trans aa.o.1.2.2⟩,aa.o.2.1,by rw[zT];exact xU aa.o.2.2⟩));rw[ab.o]at hl;exact hl
  exact zN
 have Lx12:∀(W:World),Hid (G22 xb gb uv Aa Ab i ca cb x w W)->Hid (W.ownsRow B1 27 1 (Value.slice Aa i ca) i ah)->Hid (W.ownsRow B1 34 3 (Value.slice Ab i cb) i cbs)->Hid (∀b,(Value.slice Aa i ca).ownBlock=some b->(Value.slice Ab i cb).ownBlock≠some b)->F 11 #[true,true,true,true,true,false,true,false,false,true,true,true,true,true,false,false,false,false,false,false,false,false] (fr aw ax al (.slice Ab i cb) ak ae) W:=by
  intro  W hg oa ob ap;rw[hF.o,ab.o];dsimp only;refine zP (rs:=[5,7,14]) (by kernel_rfl) (by simp) ?_;have x1:=hg.o.y.c1;have x9:=hg.o.y.lt;refine zK (o:=_) rfl (fun K hK=>?_) ?_
  .go_simp;clear x1 x9;refine hK.o _ _ (Ak hg.o.b) (fun _=>?_);clear hK K
   try simp only[zA,zG,zF]
   rw[<-hF.o];have hl:=Lx5x12  W hg oa ob ap;rw[ab.o]at hl;exact hl
  clear x1 x9;refine zK (o:=_) rfl (fun K hK=>?_) ?_
  .go_simp;refine hK.o _ _ (Ak (hg.o.b.alloc _)) (fun _=>?_);clear hK K
   try simp only[zA,zG,zF]
   rw[<-hF.o];have hl:=Lx7x12 W.heap.size (W.alloc (.cells #[.slice (some ⟨rb,0,none⟩) m m] 27)) (zh ((hg.o.alloc _))) (zh ((oa.o.alloc _))) (zh ((ob.o.alloc _))) (zh (ap.o)) (zh (⟨(Bk.new W 27 [.slice (some ⟨rb,0,none⟩) m m]).c0,hg.o.k.size,by rw[zT];exact yB _⟩));rw[ab.o]at hl;exact hl
  refine zK (o:=_) rfl (fun K hK=>?_) ?_
  .go_simp;refine hK.o _ _ (Ak (hg.o.b.alloc _)) (fun _=>?_);clear hK K
   try simp only[zA,zG,zF]
   rw[<-hF.o];have hl:=Lx12x14 W.heap.size (W.alloc (.cells #[.bool x.1,.string x.2.1,.string x.2.2] 34)) (zh ((hg.o.alloc _))) (zh ((oa.o.alloc _))) (zh ((ob.o.alloc _))) (zh (ap.o)) (zh (⟨⟨(Bk.new W 34 [.bool x.1,.string x.2.1,.string x.2.2]).c0,(Bk.new W 34 [.bool x.1,.string x.2.1,.string x.2.2]).c1,(Bk.new W 34 [.bool x.1,.string x.2.1,.string x.2.2]).c2⟩,hg.o.k.size,by rw[zT];exact yB _⟩));rw[ab.o]at hl;exact hl
  exact zN
 have Lx14:∀(s:Nat)(W:World),Hid (G22 xb gb uv Aa Ab i ca cb x w W)->Hid (W.ownsRow B1 27 1 (Value.slice Aa i ca) i ah)->Hid (W.ownsRow B1 34 3 (Value.slice Ab i cb) i cbs)->Hid (∀b,(Value.slice Aa i ca).ownBlock=some b->(Value.slice Ab i cb).ownBlock≠some b)->Hid ((W.cell? ⟨s,0,none⟩=some (.bool x.1)/\W.cell? ⟨s,1,none⟩=some (.string x.2.1)/\W.cell? ⟨s,2,none⟩=some (.string x.2.2))/\w.heap.size<=s/\s<W.heap.size)->F 11 #[true,true,true,true,true,false,true,false,false,true,true,true,false,true,true,false,false,false,false,false,false,false] (fr aw ax al ar (.slice (some ⟨s,0,none⟩) 1 1) ae) W:=by
  intro s W hg oa ob ap aa;rw[hF.o,ab.o];dsimp only;refine zP (rs:=[5,7,12]) (by kernel_rfl) (by simp) ?_;have x1:=hg.o.y.c1;have x9:=hg.o.y.lt;refine zK (o:=_) rfl (fun K hK=>?_) ?_
  .go_simp;clear x1 x9;refine hK.o _ _ (Ak hg.o.b) (fun _=>?_);clear hK K
   try simp only[zA,zG,zF]
   rw[<-hF.o];have hl:=Lx5x14 s W hg oa ob ap aa;rw[ab.o]at hl;exact hl
  clear x1 x9;refine zK (o:=_) rfl (fun K hK=>?_) ?_
  .go_simp;refine hK.o _ _ (Ak (hg.o.b.alloc _)) (fun _=>?_);clear hK K
   try simp only[zA,zG,zF]
   rw[<-hF.o];have hl:=Lx7x14 W.heap.size s (W.alloc (.cells #[.slice (some ⟨rb,0,none⟩) m m] 27)) (zh ((hg.o.alloc _))) (zh ((oa.o.alloc _))) (zh ((ob.o.alloc _))) (zh (ap.o)) (zh (⟨(Bk.new W 27 [.slice (some ⟨rb,0,none⟩) m m]).c0,hg.o.k.size,by rw[zT];exact yB _⟩)) (zh (⟨⟨(zk _ _ _ aa.o.2.2).trans aa.o.1.1,(zk _ _ _ aa.o.2.2).trans aa.o.1.2.1,(zk _ _ _ aa.o.2.2).trans aa.o.1.2.2⟩,aa.o.2.1,by rw[zT];exact xU aa.o.2.2⟩));rw[ab.o]at hl;exact hl
  have x1:=hg.o.y.c2;have x9:=hg.o.y.lt;refine zK (o:=_) rfl (fun K hK=>?_) ?_
  .go_simp;clear x1 x9;refine hK.o _ _ (Ak hg.o.b) (fun _=>?_);clear hK K
   try simp only[zA,zG,zF]
   rw[<-hF.o];have hl:=Lx12x14 s W hg oa ob ap aa;rw[ab.o]at hl;exact hl
  clear x1 x9;exact zN
 have L:∀(W:World),Hid (G22 xb gb uv Aa Ab i ca cb x w W)->Hid (W.ownsRow B1 27 1 (Value.slice Aa i ca) i ah)->Hid (W.ownsRow B1 34 3 (Value.slice Ab i cb) i cbs)->Hid (∀b,(Value.slice Aa i ca).ownBlock=some b->(Value.slice Ab i cb).ownBlock≠some b)->F 12 #[true,true,true,true,true,false,true,false,false,true,true,true,false,true,false,false,false,false,false,false,false,false] (fr aw ax al ar ak ae) W:=by
  intro  W hg oa ob ap;rw[hF.o,ab.o];dsimp only;refine zP (rs:=[5,7,12,14]) (by kernel_rfl) (by simp) ?_;have x1:=hg.o.y.c1;have x9:=hg.o.y.lt;refine zK (o:=_) rfl (fun K hK=>?_) ?_
  .go_simp;clear x1 x9;refine hK.o _ _ (Ak hg.o.b) (fun _=>?_);clear hK K
   try simp only[zA,zG,zF]
   rw[<-hF.o];have hl:=Lx5  W hg oa ob ap;rw[ab.o]at hl;exact hl
  clear x1 x9;refine zK (o:=_) rfl (fun K hK=>?_) ?_
  .go_simp;refine hK.o _ _ (Ak (hg.o.b.alloc _)) (fun _=>?_);clear hK K
   try simp only[zA,zG,zF]
   rw[<-hF.o];have hl:=Lx7 W.heap.size (W.alloc (.cells #[.slice (some ⟨rb,0,none⟩) m m] 27)) (zh ((hg.o.alloc _))) (zh ((oa.o.alloc _))) (zh ((ob.o.alloc _))) (zh (ap.o)) (zh (⟨(Bk.new W 27 [.slice (some ⟨rb,0,none⟩) m m]).c0,hg.o.k.size,by rw[zT];exact yB _⟩));rw[ab.o]at hl;exact hl
  have x1:=hg.o.y.c2;have x9:=hg.o.y.lt;refine zK (o:=_) rfl (fun K hK=>?_) ?_
  .go_simp;clear x1 x9;refine hK.o _ _ (Ak hg.o.b) (fun _=>?_);clear hK K
   try simp only[zA,zG,zF]
   rw[<-hF.o];have hl:=Lx12  W hg oa ob ap;rw[ab.o]at hl;exact hl
  clear x1 x9;refine zK (o:=_) rfl (fun K hK=>?_) ?_
  .go_simp;refine hK.o _ _ (Ak (hg.o.b.alloc _)) (fun _=>?_);clear hK K
   try simp only[zA,zG,zF]
   rw[<-hF.o];have hl:=Lx14 W.heap.size (W.alloc (.cells #[.bool x.1,.string x.2.1,.string x.2.2] 34)) (zh ((hg.o.alloc _))) (zh ((oa.o.alloc _))) (zh ((ob.o.alloc _))) (zh (ap.o)) (zh (⟨⟨(Bk.new W 34 [.bool x.1,.string x.2.1,.string x.2.2]).c0,(Bk.new W 34 [.bool x.1,.string x.2.1,.string x.2.2]).c1,(Bk.new W 34 [.bool x.1,.string x.2.1,.string x.2.2]).c2⟩,hg.o.k.size,by rw[zT];exact yB _⟩));rw[ab.o]at hl;exact hl
  exact zN
 have hl:=L w.drew cl cu cw ap;rw[ab.o]at hl;exact V9 (by kernel_rfl) (by kernel_rfl) (by kernel_rfl) hl
end Sh
end
section
namespace Sh
open Nt Ci
theorem He(p:Nat)(f:Nat->Rat)(l m:List Lp):A6 p f (l++m)=A6 p f l+A6 p f m:=by
 induction l with
 |nil=>show A6 p f m=0+A6 p f m;grind
 |cons x l ih=>
  rw[xB]
  show (if x.1=p then x.2.2*f x.2.1 else 0)+A6 p f (l++m)=(if x.1=p then x.2.2*f x.2.1 else 0)+A6 p f l+A6 p f m
  rw[ih,Rat.add_assoc]
theorem D1{p:Nat}{f:Nat->Rat}{l:List Lp}{k:Nat}(h:k<l.length):A6 p f (l.take (k+1))=A6 p f (l.take k)+if l[k].1=p then l[k].2.2*f l[k].2.1 else 0:=by
 rw[zS h,He]
 congr 1
 show (if l[k].1=p then l[k].2.2*f l[k].2.1 else 0)+0=_
 exact vB _
theorem Kn{p:Nat}{f:Nat->Rat}{l:List Lp}(hp:∀x,x∈l->0<x.2.2)(hf:∀x,x∈l->0<=f x.2.1)(k:Nat):A6 p f (l.take k)<=A6 p f l:=by
 have h:=He p f (l.take k) (l.drop k);rw[yt]at h;have h2:=Cj (p:=p) (f:=f) (L:=l.drop k) (fun x hx=>hp x (wM hx)) fun x hx _=>hf x (wM hx);grind
theorem Caps.take{n:Nat}{L:List Lp}(h:Caps n L)(k:Nat):Caps n (L.take k):=by
 refine⟨fun x hx=>h.lt x (yH hx),fun x hx=>h.whole x (yH hx),fun x hx=>h.pos x (yH hx),fun p=>?_⟩;have h1:=Kn (p:=p) (f:=fun _=>1) h.pos (fun _ _=>by decide) k;have h2:=h.le1 p;grind
theorem Ut{n:Nat}{L:List Lp}(h:Caps n L)(p q:Nat)(b:Bool):Fit 6000 ((if b=true then 1 else 0)-A6 p (fun h=>if h=q then 1 else 0) L):=by
 have h0:=Cj (p:=p) (f:=fun h=>if h=q then 1 else 0) h.pos fun x _ _=>by split<;>decide
 have h1:A6 p (fun h=>if h=q then 1 else 0) L<=1:=h.le_of (by decide) fun x _ _=>by split<;>decide
 have h2:=h.int_sum (p:=p) (f:=fun h=>if h=q then 1 else 0) (D:=1) fun x _ _=>by
  split
  .exact IsI.one.mul IsI.one
  exact IsI.one.mul IsI.zero
 refine⟨?_,?_,6000,by omega,zB _,?_⟩
 .split<;>grind
 .split<;>grind
 have e:((6000:Nat):Rat)*((if b=true then 1 else 0)-A6 p (fun h=>if h=q then 1 else 0) L)=(if b=true then 1 else 0)*6000+-(6000*1*A6 p (fun h=>if h=q then 1 else 0) L):=by
  rw[show ((6000:Nat):Rat)=6000 from rfl];grind
 rw[e];refine IsI.add ?_ h2.neg
 split
 .exact IsI.one.mul (IsI.nat 6000)
 exact IsI.zero.mul (IsI.nat 6000)
theorem Qp{n D:Nat}{L:List Lp}(h:Caps n L)(p:Nat){f:Nat->Rat}(hD:0<D)(hf:∀q,0<=f q/\f q<=1)(hi:∀q,IsI ((D:Rat)*f q)):Fit (6000*D) (A6 p f L):=by
 have h0:=Cj (p:=p) (f:=f) h.pos fun x _ _=>(hf x.2.1).1;have h1:A6 p f L<=1:=h.le_of (by decide) fun x _ _=>(hf x.2.1).2;have h2:=h.int_sum (p:=p) (f:=f) (D:=(D:Rat)) fun x _ _=>hi x.2.1;refine⟨by grind,h1,6000*D,wl (by omega) hD,zB _,?_⟩;rw[xI];exact h2
theorem Sys.congr{n c D:Nat}{A B:Mx}{v:Nat->Rat}(h:Sys n c D A v)(e:∀i j,i<n->j<=n->B i j=A i j):Sys n c D B v:=by
 obtain⟨⟨a1,a2,a3,a4,a5,a6⟩,h2,h3,h4,h5⟩:=h;refine⟨⟨fun i hi=>?_,fun i j hi hj hn=>?_,fun i hi=>?_,fun i hi=>?_,fun i hi=>?_,a6⟩,h2,h3,fun i j hi hj=>?_,fun i hi=>?_⟩
 .rw[e i i hi (by omega)];exact a1 i hi
 .rw[e i j hi (by omega)];exact a2 i j hi hj hn
 .rw[e i n hi (zB _)];exact a3 i hi
 .rw[e i n hi (zB _),Az (f:=B i) (g:=A i) fun j hj=>e i j hi (by omega)];exact a4 i hi
 .rw[Az (g:=fun j=>A i j*v j) fun j hj=>by rw[e i j hi (by omega)]];exact a5 i hi
 .rw[e i j hi (by omega)];exact h4 i j hi hj
 rw[e i n hi (zB _)];exact h5 i hi
def CC(L:List Lp)(u:List Nat)(val:Nat->Rat):List (List Raw):=(List.range u.length).map fun i=>B5 u.length (sysA L u val i)
def DN(L:List Lp)(u:List Nat)(val:Nat->Rat):List Raw:=B5 u.length fun i=>sysA L u val i u.length
theorem J2{n:Nat}{f:Nat->Rat}{i:Nat}(h:i<n)(d:Raw):(B5 n f).getD i d=rq (f i):=by
 rw[C3 (by rw[Aq];exact h),Ej]
theorem Nz{L:List Lp}{u:List Nat}{val:Nat->Rat}{i:Nat}(h:i<u.length):(CC L u val).getD i []=B5 u.length (sysA L u val i):=by
 unfold CC;rw[C3 (by simpa using h)];simp
theorem VA{x:Rat}{B:Nat}(h:Fit B x)(hB:B<L1):OkQ x:=(CB h hB).ok
theorem Vb:6000^17<L1:=yM (zW (by omega) (by omega)) Lx
theorem Hf{n D:Nat}{L:List Lp}{F done u:List Nat}{val:Nat->Rat}(hL:Caps n L)(hi:Inv L F done val D)(hx:Nxt L F done u)(ab:done.length+u.length<=16)(h8:u.length<=8):
 C5 (CC L u val) (DN L u val)=.ok (B5 u.length fun i=>Ct SQ L u val (u.getD i 0)):=by
 have hs:=hx.sys hL hi
 have s:∀i j,i<u.length->j<=u.length->OkQ (sysA L u val i j):=fun i j h1 h2=>by
  have:=hs.fit (Mad.start u.length _) hs.shs (zO _) h1 h2;refine VA (this.mono ?_) Vb
  calc 6000^(u.length+1)*D<=6000^(u.length+1)*6000^done.length:=yT _ hi.dle
   _=6000^(u.length+1+done.length):=(xf _ _ _).symm
   _<=6000^17:=zW (by omega) (by omega)
 have d:(DN L u val).length=u.length:=Aq _ _;have aa:(CC L u val).length=u.length:=by unfold CC;simp
 have hb:allV (DN L u val)=true:=Cs.2 fun i h=>by
  have e:(DN L u val)[i]=rq (sysA L u val i u.length):=Ej u.length (fun i=>sysA L u val i u.length) i h;rw[e];exact OK (s i _ (by rwa [d]at h) (zB _))
 have ha:Ik (DN L u val).length (CC L u val)=true:=Il.2 fun i h=>by
  rw[aa]at h;have e:(CC L u val)[i]'(by rw[aa];exact h)=B5 u.length (sysA L u val i):=by unfold CC;simp
  rw[e,d];refine⟨Aq _ _,Cs.2 fun j hj=>?_⟩;rw[Ej];rw[Aq]at hj;exact OK (s i j h (xA hj))
 have hM:∀i j,i<u.length->j<=u.length->EA (CC L u val) (DN L u val) i j=sysA L u val i j:=fun i j h1 h2=>by
  unfold EA;rw[d]
  by_cases e:j=u.length
  .rw[zE e,e];unfold DN;rw[J2 h1,Sp]
  rw[zC e,Nz h1,J2 (by omega),Sp]
 have hS:∀x,Fit ((6000^(u.length+1)*D)*(6000^(u.length+1)*D)) x->SQ x=true:=fun x h=>Nu x (h.mono (Jw hi.dle ab));obtain⟨M,m1,m2,_⟩:=(hs.congr hM).result (S:=SQ) hS;obtain⟨N,n1,n2,_⟩:=hs.result (S:=SQ) hS;have hv:Ct SQ L u val=fun p=>if p∈u then N (u.idxOf p) u.length else val p:=by unfold Ct;rw[n1]
 have ad:∀i,i<u.length->M i u.length=N i u.length:=by
  have h1:Sol u.length (EA (CC L u val) (DN L u val)) (fun i=>N i u.length) (fun i=>EA (CC L u val) (DN L u val) i u.length):=fun i a=>by
   have h2:(Ao u.length fun j=>sysA L u val i j*N j u.length)=sysA L u val i u.length:=(n2 (fun i=>N i u.length)).2 (fun _ _=>rfl) i a
   show (Ao u.length fun j=>EA (CC L u val) (DN L u val) i j*N j u.length)=EA (CC L u val) (DN L u val) i u.length
   rw[hM i _ a (zB _),<-h2];exact Az fun j hj=>by rw[hM i j a (xA hj)]
  exact fun i a=>((m2 _).1 h1 i a).symm
 unfold C5;rw[zE ⟨aa.trans d.symm,hb,ha⟩,zE (by rw[d];exact h8),d,m1]
 show Except.ok (B5 u.length fun i=>M i u.length)=_
 congr 1
 apply Nn;intro i a;rw[ad i a,hv];dsimp only;rw[zE (EX a),Gl hx.nodup a]
theorem Ready.nodup{L:List Lp}{F:List Nat}:∀{us:List (List Nat)} {done:List Nat},Ready L F done us->done.Nodup->(done++us.flatten).Nodup:=by
 intro us
 induction us with
 |nil=>intro done _ h;simpa using h
 |cons u us ih=>
  intro done h hd;rw[wL,<-xS];refine ih h.2 (List.nodup_append.2 ⟨hd,h.1.nodup,fun a ha b hb e=>?_⟩);subst e;exact h.1.new a hb ha
theorem Ready.lt{n:Nat}{F:List Nat}{E:List (Nat×Nat)}:∀p,p∈(BP n E F).flatten->p<n:=by
 intro p hp;obtain⟨u,hu,hp⟩:=List.mem_flatten.1 hp;unfold BP at hu;obtain⟨c,hc,rfl⟩:=List.mem_map.1 hu;have h1:=(DR.1 hp).1;unfold Aj at hc;obtain⟨q,_,rfl⟩:=List.mem_map.1 hc;exact(Db.1 h1).1
theorem Iz{n:Nat}{L:List Lp}{F:List Nat}(hL:Caps n L):(BP n (Ae L) F).flatten.length<=n:=by
 have h:=(Fw (F:=F) hL.inN).nodup vY;rw[yW]at h;exact C6 n _ h Ready.lt
noncomputable def BE(n:Nat)(E:List (Nat×Nat))(F:List Nat):Bool:=(BP n E F).any (fun u=>decide (8<u.length))||decide (16<(BP n E F).flatten.length)
theorem SI{n:Nat}{L:List Lp}{F:List Nat}(hL:Caps n L)(hn:n<=8):BE n (Ae L) F=false:=by
 have h:=Iz (F:=F) hL;unfold BE;rw[Bool.or_eq_false_iff,List.any_eq_false];refine⟨fun u hu=>?_,zD (by omega)⟩;have:u.length<=(BP n (Ae L) F).flatten.length:=(List.sublist_flatten_of_mem hu).length_le;simp only[yN];omega
theorem N0{n:Nat}{E:List (Nat×Nat)}{F:List Nat}(h:BE n E F=false):(∀u,u∈BP n E F->u.length<=8)/\(BP n E F).flatten.length<=16:=by
 unfold BE at h;rw[Bool.or_eq_false_iff,List.any_eq_false]at h;refine⟨fun u hu=>?_,by have:=of_decide_eq_false h.2;omega⟩;have:=h.1 u hu;simp only[yN]at this;omega
section
variable {n:Nat} {L:List Lp} {u:List Nat} {val:Nat->Rat} {i k j:Nat}
def B6(L:List Lp)(u:List Nat)(i k j:Nat):Rat:=(if i=j then 1 else 0)-A6 (u.getD i 0) (fun h=>if h=u.getD j 0 then 1 else 0) (L.take k)
def AG(L:List Lp)(u:List Nat)(val:Nat->Rat)(i k:Nat):Rat:=A6 (u.getD i 0) (fun h=>if h∈u then 0 else val h) (L.take k)
theorem J3:B6 L u i 0 j=if i=j then 1 else 0:=by
 unfold B6
 show _-(0:Rat)=_
 grind
theorem J4:AG L u val i 0=0:=rfl
theorem I0(hj:j<u.length):B6 L u i L.length j=sysA L u val i j:=by
 unfold B6 sysA;dsimp only;rw[yJ];have e:¬j=u.length:=by omega
 rw[zC e]
theorem I1:AG L u val i L.length=sysA L u val i u.length:=by
 unfold AG sysA;dsimp only;rw[yJ,zE rfl]
theorem L5(hk:k<L.length)(h:L[k].1≠u.getD i 0):(∀j,B6 L u i (k+1) j=B6 L u i k j)/\AG L u val i (k+1)=AG L u val i k:=by
 refine⟨fun j=>?_,?_⟩
 .unfold B6;rw[D1 hk,zC h,vB]
 unfold AG;rw[D1 hk,zC h,vB]
theorem SJ(hu:u.Nodup)(hk:k<L.length)(h:L[k].1=u.getD i 0){c:Nat}(hc:c<u.length)(hh:L[k].2.1=u.getD c 0):
 (∀j,j<u.length->B6 L u i (k+1) j=if j=c then B6 L u i k c+-1*L[k].2.2 else B6 L u i k j)/\AG L u val i (k+1)=AG L u val i k:=by
 refine⟨fun j hj=>?_,?_⟩
 .unfold B6;rw[D1 hk,zE h,hh]
  by_cases e:j=c
  .subst e;have e1:(if u.getD j 0=u.getD j 0 then (1:Rat) else 0)=1:=zE rfl;rw[e1,zE (rfl:j=j)];grind
  have e1:(if u.getD c 0=u.getD j 0 then (1:Rat) else 0)=0:=zC fun e2=>by
   have:=Gl hu hj;rw[<-e2,Gl hu hc]at this;exact e this.symm
  rw[e1,zC e];grind
 unfold AG;rw[D1 hk,zE h,zE (by rw[hh];exact EX hc)];grind
theorem OR(hk:k<L.length)(h:L[k].1=u.getD i 0)(hh:L[k].2.1∉u):
 (∀j,j<u.length->B6 L u i (k+1) j=B6 L u i k j)/\AG L u val i (k+1)=AG L u val i k+L[k].2.2*val L[k].2.1:=by
 refine⟨fun j hj=>?_,?_⟩
 .unfold B6;have e1:(if L[k].2.1=u.getD j 0 then (1:Rat) else 0)=0:=zC fun e=>hh (by rw[e];exact EX hj);rw[D1 hk,zE h,e1];grind
 unfold AG;rw[D1 hk,zE h,zC hh]
theorem FT(hL:Caps n L):ShortQ (B6 L u i k j):=by
 have:=Ut (hL.take k) (u.getD i 0) (u.getD j 0) (decide (i=j));unfold B6;simp only[yN]at this;exact CB this (yM (by have:6000^1<=6000^34:=zW (by omega) (by omega);omega) Lx)
theorem SK{D:Nat}(h:D<=6000^16):6000*D<L1:=by
 refine yM ?_ Vb
 calc 6000*D<=6000*6000^16:=yT _ h
  _=6000^17:=by rw[zy 6000 16,zw]
structure Vals(val:Nat->Rat)(D:Nat):Prop where
 rng:∀p,0<=val p/\val p<=1
 dp:0<D
 dle:D<=6000^16
 whole:∀p,IsI ((D:Rat)*val p)
theorem Vals.fit{D:Nat}(h:Vals val D)(p:Nat):Fit D (val p):=⟨by have:=(h.rng p).1;grind,(h.rng p).2,D,h.dp,zB _,h.whole p⟩
theorem Vals.short{D:Nat}(h:Vals val D)(p:Nat):ShortQ (val p):=CB (h.fit p) (yM h.dle (yM (zW (by omega) (by omega)) Lx))
theorem FU{D:Nat}(hL:Caps n L)(h:Vals val D):ShortQ (AG L u val i k):=by
 have:=Qp (hL.take k) (u.getD i 0) (f:=fun q=>if q∈u then 0 else val q) h.dp (fun q=>by
  split
  .constructor<;>decide
  .exact h.rng q) fun q=>by
  split
  .rw[Rat.mul_zero];exact IsI.zero
  exact h.whole q
 exact CB this (SK h.dle)
theorem I2(hL:Caps n L)(hk:k<L.length):Fit 6000 L[k].2.2:=by
 have h1:=hL.pos _ (zQ hk);have h2:=hL.whole _ (zQ hk);have h3:=hL.le1 L[k].1;have h4:=Gk (p:=L[k].1) (f:=fun _=>0) (g:=fun _=>1) hL.pos (fun _ _ _=>by decide) (zQ hk) rfl;rw[Em fun _ _ _=>rfl]at h4;exact⟨by grind,by grind,6000,by omega,zB _,h2⟩
theorem WB:6000<L1:=yM (by have:6000^1<=6000^34:=zW (by omega) (by omega);omega) Lx
theorem I3(hL:Caps n L)(hk:k<L.length):ShortQ L[k].2.2:=CB (I2 hL hk) WB
theorem SL(hL:Caps n L)(hk:k<L.length):ShortQ (-1*L[k].2.2):=by
 obtain⟨a,b,d,d1,d2,d3⟩:=I2 hL hk
 have:Fit 6000 (-1*L[k].2.2):=⟨by grind,by grind,d,d1,d2,by
  have e:(d:Rat)*(-1*L[k].2.2)=-((d:Rat)*L[k].2.2):=by grind
  rw[e];exact d3.neg⟩
 exact CB this WB
theorem L6{D:Nat}(hL:Caps n L)(h:Vals val D)(hk:k<L.length)(q:Nat):ShortQ (L[k].2.2*val q):=by
 have h1:=I2 hL hk;have h0:=hL.pos _ (zQ hk);have h2:=h.rng q;have h3:=(hL.whole _ (zQ hk)).mul (h.whole q)
 have e:6000*L[k].2.2*((D:Rat)*val q)=((6000*D:Nat):Rat)*(L[k].2.2*val q):=by
  rw[xI,show ((6000:Nat):Rat)=6000 from rfl];grind
 rw[e]at h3;have h4:=xR (yu h0) h2.1;have h5:=yC h2.2 (yu h0);have h6:=h1.2.1;have:Fit (6000*D) (L[k].2.2*val q):=⟨by grind,by grind,6000*D,wl (by omega) h.dp,zB _,h3⟩;exact CB this (SK h.dle)
theorem Vc(hu:u.Nodup){h c:Nat}(hc:c<u.length)(e:h=u.getD c 0):Eo (u.map fun(q:Nat)=>(q:Int)) (h:Int)=(c:Int):=by
 have a:c<(u.map fun(q:Nat)=>(q:Int)).length:=by simpa using hc
 refine S9 a (fun j hj d=>?_) ?_
 .rw[yA];intro e2;have e3:u[j]'(by simpa using hj)=h:=by omega
  rw[e,De hc]at e3;have hp:=List.pairwise_iff_getElem.1 hu j c (by simpa using hj) hc d;exact hp e3
 rw[yA,e,De hc]
theorem SM{h:Nat}(e:h∉u):Eo (u.map fun(q:Nat)=>(q:Int)) (h:Int)=-1:=by
 refine SA fun j hj=>?_;rw[yA];intro e2
 exact e (by have e3:u[j]'(by simpa using hj)=h:=by omega
             rw[<-e3];exact zQ _)
end
theorem kp_trans{xs ys:List Nat}{w w' w'':World}(h:Kp xs w w')(h2:Kp ys w' w'')(hy:∀y,y∈ys->y∈xs\/w.heap.size<=y):Kp xs w w'' :=
 ⟨h2.os.trans h.os,h2.tape.trans h.tape,h2.output.trans h.output,zV h.size h2.size,fun k hk hx=>(h2.block k (zL hk h.size) (fun hm=>(hy k hm).elim hx (fun c=>by omega))).trans (h.block k hk hx)⟩
theorem OS{xs:List Nat}{base size m:Nat}{e:TypeId}{u:Value}{l:List Value}{w w':World}(h:w.ownsRow base e size u m l)(hk:Kp xs w w')(hb:∀b,u.ownBlock=some b->b∉xs):w'.ownsRow base e size u m l:=by
 obtain⟨h1,h2⟩:=h;refine⟨h1,?_⟩
 rcases h2 with h2|⟨g,cap,cur,hv,hg,hh,rest⟩
 .exact .inl h2
 exact .inr ⟨g,cap,cur,hv,hg,(hk.block g (Array.getElem?_eq_some_iff.1 hh).1 (hb g (by rw[hv];rfl))).trans hh,rest⟩
theorem Ko{xs:List Nat}{w w':World}{b m:Nat}{r:Nat->Raw}(h:RowB w b m r)(hk:Kp xs w w')(hb:b∉xs):RowB w' b m r:=(hk.block b h.lt hb).trans h
end Sh
end
section
open Go.RowKit Go.Shelf
namespace Sh
open Nt Ci
def BdI(w W:World)(xb m i:Nat)(uv:Value)(M:Mx):Prop :=
 ∃(Aa Ab:Option Addr)(ca cb:Nat)(bl:Nat->Nat),Kp [xb] w W/\Bk W xb 79 [uv,.slice Aa i ca,.slice Ab i cb] /\
  W.ownsRow w.heap.size 27 1 (.slice Aa i ca) i ((List.range i).map fun k=>.slice (some ⟨bl k,0,none⟩) m m) /\
  W.ownsRow w.heap.size 34 3 (.slice Ab i cb) i (AN i fun k=>rq (M k m)) /\
  (∀b,(Value.slice Aa i ca).ownBlock=some b->(Value.slice Ab i cb).ownBlock≠some b) /\
  ∀k,k<i->RowB W (bl k) m (fun j=>rq (M k j))/\(Value.slice Aa i ca).ownBlock≠some (bl k)/\(Value.slice Ab i cb).ownBlock≠some (bl k)/\bl k≠xb
theorem BdI.start{w:World}{xb m:Nat}{uv:Value}{M:Mx}(h:Bk w xb 79 [uv,.slice none 0 0,.slice none 0 0]):BdI w w xb m 0 uv M :=
 ⟨none,none,0,0,fun _=>0,Kp.refl _ _,h,zq _ _ _ _,zq _ _ _ _,(fun b e=>by cases e),fun k h=>absurd h (zi _)⟩
theorem BdI.step{w wy wz W:World}{xb m i rb:Nat}{uv:Value}{M:Mx}{Aa Ab Aa2 Ab2:Option Addr}{ca cb a h:Nat}{bl:Nat->Nat}
 (hK:Kp [xb] w wy)(ae:wy.ownsRow w.heap.size 27 1 (.slice Aa i ca) i ((List.range i).map fun k=>.slice (some ⟨bl k,0,none⟩) m m))
 (af:wy.ownsRow w.heap.size 34 3 (.slice Ab i cb) i (AN i fun k=>rq (M k m)))
 (aa:∀k,k<i->RowB wy (bl k) m (fun j=>rq (M k j))/\(Value.slice Aa i ca).ownBlock≠some (bl k)/\(Value.slice Ab i cb).ownBlock≠some (bl k)/\bl k≠xb)
 (hB:Below wy.heap.size wy wz)(ag:rb=wy.heap.size)(ai:xb<wy.heap.size)(s:RowB wz rb m fun j=>rq (M i j))
 (k1:Kp (xb::((Value.slice Aa i ca).ownBlock.toList++(Value.slice Ab i cb).ownBlock.toList)) wz W)
 (k2:Bk W xb 79 [uv,.slice Aa2 (i+1) a,.slice Ab2 (i+1) h])
 (k3:W.ownsRow w.heap.size 27 1 (.slice Aa2 (i+1) a) (i+1) (((List.range i).map fun k=>.slice (some ⟨bl k,0,none⟩) m m)++[.slice (some ⟨rb,0,none⟩) m m]))
 (k4:W.ownsRow w.heap.size 34 3 (.slice Ab2 (i+1) h) (i+1) ((AN i fun k=>rq (M k m))++[.bool (rq (M i m)).1,.string (rq (M i m)).2.1,.string (rq (M i m)).2.2]))
 (k5:∀b,(Value.slice Aa2 (i+1) a).ownBlock=some b->(Value.slice Ab2 (i+1) h).ownBlock≠some b)
 (k6:(Value.slice Aa2 (i+1) a).ownBlock=(Value.slice Aa i ca).ownBlock\/∃b,(Value.slice Aa2 (i+1) a).ownBlock=some b/\wz.heap.size<=b)
 (k7:(Value.slice Ab2 (i+1) h).ownBlock=(Value.slice Ab i cb).ownBlock\/∃b,(Value.slice Ab2 (i+1) h).ownBlock=some b/\wz.heap.size<=b):BdI w W xb m (i+1) uv M:=by
 have aj:=hB.size;have ah:=s.lt;have la:∀b,(Value.slice Aa i ca).ownBlock=some b->w.heap.size<=b/\b<wy.heap.size:=fun b e=>ae.lt b e;have lb:∀b,(Value.slice Ab i cb).ownBlock=some b->w.heap.size<=b/\b<wy.heap.size:=fun b e=>af.lt b e
 have ab:∀{b:Nat},b≠xb->(Value.slice Aa i ca).ownBlock≠some b->(Value.slice Ab i cb).ownBlock≠some b->b∉(xb::((Value.slice Aa i ca).ownBlock.toList++(Value.slice Ab i cb).ownBlock.toList)):=fun {b} h1 h2 h3 hm=>by
  rcases List.mem_cons.1 hm with c|c
  .exact h1 c
  rcases List.mem_append.1 c with c|c
  .exact h2 (by simpa using c)
  exact h3 (by simpa using c)
 refine⟨Aa2,Ab2,a,h,fun k=>if k=i then rb else bl k,?_,k2,?_,?_,k5,?_⟩
 .refine kp_trans (hK.below hB) k1 fun y hy=>?_
  rcases List.mem_cons.1 hy with c|c
  .exact .inl (by simp[c])
  rcases List.mem_append.1 c with c|c
  .exact .inr (la y (by simpa using c)).1
  exact .inr (lb y (by simpa using c)).1
 .have e:(List.range (i+1)).map (fun k=>Value.slice (some ⟨if k=i then rb else bl k,0,none⟩) m m)=((List.range i).map fun k=>.slice (some ⟨bl k,0,none⟩) m m)++[.slice (some ⟨rb,0,none⟩) m m]:=by
   rw[xX,yf,wQ,zE rfl]
   congr 1
   refine yX fun k hk=>?_;rw[zC (by have:=List.mem_range.1 hk;omega)]
  rw[e];exact k3
 .rw[Br];exact k4
 intro k hk;dsimp only
 by_cases e:k=i
 .subst e;rw[zE rfl];have n1:(Value.slice Aa k ca).ownBlock≠some rb:=fun e=>by have:=(la _ e).2;omega
  have n2:(Value.slice Ab k cb).ownBlock≠some rb:=fun e=>by have:=(lb _ e).2;omega
  refine⟨Ko s k1 (ab (by omega) n1 n2),fun e=>?_,fun e=>?_,by omega⟩
  .rcases k6 with c|⟨b,c,d⟩
   .exact n1 (c▸e)
   rw[c]at e;cases e;omega
  rcases k7 with c|⟨b,c,d⟩
  .exact n2 (c▸e)
  rw[c]at e;cases e;omega
 rw[zC e];obtain⟨r1,r2,r3,r4⟩:=aa k (by omega);have ad:=r1.lt;refine⟨Ko (r1.below hB ad) k1 (ab r4 r2 r3),fun e=>?_,fun e=>?_,r4⟩
 .rcases k6 with c|⟨b,c,d⟩
  .exact r2 (c▸e)
  rw[c]at e;cases e;omega
 rcases k7 with c|⟨b,c,d⟩
 .exact r3 (c▸e)
 rw[c]at e;cases e;omega
theorem GF{s:SR}(h:Am s=true):s.ps.length<=60:=by
 unfold Am at h;simp only[yI,yN]at h;exact h.2.1
theorem Gn(k:Int)(q:Rat)(hq:(k:Rat)=q)(hk:-10<=k/\k<=10)(w:World)(hE:Env w):
 Calls prog 42 #[.int .i64 k] w fun e w'=>e=.returned (.agg #[.bool (rq (q)).1,.string (rq (q)).2.1,.string (rq (q)).2.2])/\Below w.heap.size w w':=by
 rw[<-hq];exact Jq k hk w hE
theorem J5{s:SR}(a:Am s=true){k:Nat}(hk:k<s.cap.length):∃(co ho:Nat)(Ah:Rat),s.cap[k]=((co:Int),(ho:Int),rq Ah)/\(Ai s.cap)[k]'(by unfold Ai;simpa using hk)=(co,ho,Ah)/\co<s.ps.length/\ho<s.ps.length:=by
 obtain⟨⟨h1,h2⟩,⟨h3,h4⟩,h5⟩:=Fx a (zQ hk);have hv:=(Hb h5).1;have hr:=(E9 (x:=lkP s.cap[k]) hv).1;refine⟨s.cap[k].1.toNat,s.cap[k].2.1.toNat,vq (lkP s.cap[k]),?_,by unfold Ai;rw[yA],by omega,by omega⟩;rw[hr];have e1:((s.cap[k].1.toNat:Nat):Int)=s.cap[k].1:=by omega
 have e2:((s.cap[k].2.1.toNat:Nat):Int)=s.cap[k].2.1:=by omega
 rw[e1,e2];rfl
theorem Qq{D:Nat}(s:SR)(Ap Ac Av U:Option Addr)(cp cc cv cu:Nat)(u:List Nat)(val:Nat->Rat)(xb vb mb:Nat)(w:World)
 (aT:Am s=true)(ce:s.cap.length<=300)(hm:u.length<=8)(hu:u.Nodup)(bR:∀p,p∈u->p<s.ps.length)(hv:Vals val D)
 (hx:Bk w xb 79 [.slice U u.length cu,.slice none 0 0,.slice none 0 0])
 (ak:∀W,Kp [xb] w W->Env W)(bm:∀W,Kp [xb] w W->InLk W Ac s.cap)(a4:∀W,Kp [xb] w W->InInt W U (u.map fun(q:Nat)=>(q:Int)))(bh:∀W,Kp [xb] w W->VM W vb mb s.ps.length val):
 Calls prog 44 #[.pointer (some ⟨xb,0,none⟩),.agg #[.slice Ap s.ps.length cp,.slice Ac s.cap.length cc,.slice Av s.vot.length cv],.func (.func 43) #[] #[.pointer (some ⟨vb,0,none⟩)]] w fun e w'=>e=.returned (.tuple #[])/\∃w3,Kp [xb] w w3/\BdI w3 w' xb u.length u.length (.slice U u.length cu) (sysA (Ai s.cap) u val):=by
 have b7:=GF aT;have hL:=BW aT;have ch:=hx.lt;have bg:Hid (Kp [xb] w (w.alloc (.cells #[.slice Ap s.ps.length cp,.slice Ac s.cap.length cc,.slice Av s.vot.length cv] 25))):=(Kp.refl [xb] w).alloc _;have bN:Hid (Bk (w.alloc (.cells #[.slice Ap s.ps.length cp,.slice Ac s.cap.length cc,.slice Av s.vot.length cv] 25)) w.heap.size 25 (SC s Ap Ac Av cp cc cv)):=Bk.new w _ _;have aW:Hid (Bk (w.alloc (.cells #[.slice Ap s.ps.length cp,.slice Ac s.cap.length cc,.slice Av s.vot.length cv] 25)) xb 79 [.slice U u.length cu,.slice none 0 0,.slice none 0 0]):=hx.alloc _;have bU:=zh (fun W hW=>Gn (-1) (-1) (by decide +kernel) (by omega) W hW);have bo:=zh (fun W hW=>Gn 0 0 (by decide +kernel) (by omega) W hW);have bW:=zh (fun W hW=>Gn 1 1 (by decide +kernel) (by omega) W hW);have kix:Hid (∀W x,Kp [xb] w W->Calls prog 74 #[.slice U u.length cu,.int .i64 x] W fun e w'=>e=.returned (.int .i64 (Eo (u.map fun(q:Nat)=>(q:Int)) x))/\w'=W):=fun W x h=>by have:=Qi U cu _ x W (a4 W h) (by rw[zU];omega);rwa [zU]at this
 have kva:Hid (∀W (p:Nat),p<s.ps.length->Kp [xb] w W->Calls prog 43 #[.int .i64 (p:Int),.pointer (some ⟨vb,0,none⟩)] W fun e w'=>e=.returned (.agg #[.bool (rq (val p)).1,.string (rq (val p)).2.1,.string (rq (val p)).2.2])/\Below W.heap.size W w'):=fun W p hp h=>Jz s.ps.length val vb mb p hp (by omega) W (ak W h) (bh W h);have bH:=zh (fun k h=>J5 aT (k:=k) h);have aM:(Ai s.cap).length=s.cap.length:=by unfold Ai;rw[zU]
 have b6:Hid (∀i (h:i<u.length),u[i]<s.ps.length/\u.getD i 0=u[i]):=fun i h=>⟨bR _ (zQ h),De h⟩;have a8:(u.map fun(q:Nat)=>(q:Int)).length=u.length:=zU ..;replace ak:=zh ak;replace bm:=zh bm;replace a4:=zh a4;replace bh:=zh bh;replace hL:=zh hL;replace hv:=zh hv;replace hu:=zh hu;replace aT:=zh aT;replace hx:=zh hx;replace aM:=zh aM;replace a8:=zh a8;clear bR;obtain⟨m,an⟩:∃m,m=u.length:=⟨_,rfl⟩;have k1:=zh (bU.o (w.alloc (.cells #[.slice Ap s.ps.length cp,.slice Ac s.cap.length cc,.slice Av s.vot.length cv] 25)) (ak.o _ bg.o));rw[<-an]at hx aW hm kix ⊢;replace an:=zh an;have x0:=aW.o.c0;have x9:=aW.o.lt;go_enter func44,ntmps44
 go_wp2_with fail
 refine k1.o.q fun w2 hb=>?_;have bu:=zh (bg.o.below hb);have bj:=zh (bN.o.below hb);have ba:=zh (aW.o.below hb);clear hb k1 bU x0 x9 bg bN aW;obtain⟨w3,ao⟩:∃W,W=(w2.alloc (.cells #[.bool (rq (-1)).1,.string (rq (-1)).2.1,.string (rq (-1)).2.2] 34)):=⟨_,rfl⟩;obtain⟨mnb,az⟩:∃x,x=w2.heap.size:=⟨_,rfl⟩;have bv:Hid (Kp [xb] w w3):=by rw[ao];exact bu.o.alloc _
 have bO:Hid (Bk w3 w.heap.size 25 (SC s Ap Ac Av cp cc cv)):=by rw[ao];exact bj.o.alloc _
 have bS:Hid (Bk w3 xb 79 [.slice U m cu,.slice none 0 0,.slice none 0 0]):=by rw[ao];exact ba.o.alloc _
 have bc:Hid (Bk w3 mnb 34 [.bool (rq (-1)).1,.string (rq (-1)).2.1,.string (rq (-1)).2.2]):=by rw[ao,az];exact Bk.new _ _ _
 have bP:Hid (w2.heap.size<w3.heap.size/\w.heap.size<w2.heap.size):=⟨by rw[ao];simp,bj.o.lt⟩;have x0:=ba.o.c0;have x9:=ba.o.lt
 go_wp2_with fail
 (try rw[<-ao])
 (try rw[<-az])
 replace ao:=zh ao;clear x0 x9 bu bj ba;have bt:Hid (BdI w3 w3 xb m 0 (.slice U m cu) (sysA (Ai s.cap) u val)):=BdI.start bS.o;have aj:Hid (xb<w3.heap.size/\w.heap.size<w3.heap.size/\mnb<w3.heap.size/\mnb≠xb/\w.heap.size≠xb):=⟨bS.o.lt,bO.o.lt,bc.o.lt,by have:=bP.o;omega,by omega⟩;replace az:=zh az
 go_loopw [21] (fun ix wr=>∃(i:Nat),i<=m/\ix=.int .i64 (i:Int)/\Hid (BdI w3 wr xb m i (.slice U m cu) (sysA (Ai s.cap) u val))) (fun ix _=>m-(intOf ix).toNat)
 case atStart=>exact⟨0,zO _,rfl,bt⟩
 case round=>
  clear bt;obtain⟨i,hi,rfl,hI⟩:=hrel;obtain⟨wy,rfl⟩:∃z,z=wr:=⟨_,rfl⟩
  by_cases him:i<m
  rotate_left
  .obtain rfl:i=m:=by omega
   go_wp2
   (try simp only[Exit.inBlock,Exit.then])
   go_end0;exact⟨rfl,w3,bv.o,hI.o⟩
  obtain⟨Aa,Ab,ca,cb,bl,ah,aG,aP,aQ,bi,aw⟩:=hI.o;replace ah:=zh ah;replace aG:=zh aG;replace aP:=zh aP;replace aQ:=zh aQ;replace bi:=zh bi;replace aw:=zh aw;clear hI;have bF:i<u.length:=by rw[<-an.o];exact him
  have bx:Hid (Kp [xb] w wy):=kp_trans bv.o ah.o (fun y hy=>.inl hy);have am:=zh (fun W (h:Below wy.heap.size wy W)=>bx.o.below h);obtain⟨ub,uo,bZ,cg,bQ⟩:=(a4.o wy bx.o) (by rw[a8.o];omega);subst bZ;have e1:=bQ i (by rw[a8.o];omega);rw[yA]at e1;obtain⟨b5,a6⟩:=b6.o i bF;obtain⟨p,hp⟩:∃p,p=u[i]'bF:=⟨_,rfl⟩;rw[<-hp]at e1 b5 a6;replace hp:=zh hp;clear bQ;have j0:(0:Int)<=(i:Int):=by omega
  have j1:(i:Int)<(m:Int):=by omega
  have x0:=aG.o.c0;have x9:=aG.o.lt;have b2:=DA 27 underlying27 m (by omega);obtain⟨rb,al⟩:∃x,x=wy.heap.size:=⟨_,rfl⟩;obtain⟨w5,aU⟩:∃W,W=(wy.alloc (.cells (AN m fun _=>zraw).toArray 34)):=⟨_,rfl⟩;have bp:Hid (Below wy.heap.size wy w5):=by rw[aU];exact(zI _ wy).alloc (zB _) _
  have bz:Hid (RowB w5 rb m fun j=>if j<0 then rq 0 else zraw):=by rw[aU,al];refine RowB.congr (r:=fun _=>zraw) (zo wy _) fun j _=>?_;rw[zC (zi _)]
  go_wp2_with fail
  (try rw[<-aU])
  (try rw[<-al])
  replace aU:=zh aU;replace al:=zh al;clear b2 x0 x9 e1
  go_loopw [34] (fun kx wr=>∃(k:Nat),k<=m/\kx=.int .i64 (k:Int)/\Hid (Below wy.heap.size wy wr)/\Hid (RowB wr rb m fun j=>if j<k then rq 0 else zraw)) (fun kx _=>m-(intOf kx).toNat)
  case atStart=>exact⟨0,zO _,rfl,bp,bz⟩
  case round=>
   clear bp bz;obtain⟨k,hk,rfl,a,ai⟩:=hrel;obtain⟨wz,rfl⟩:∃z,z=wr:=⟨_,rfl⟩
   by_cases hkm:k<m
   .have k0:=zh (bo.o wz (ak.o _ (am.o _ a.o)));have q0:(0:Int)<=(k:Int):=by omega
    have q1:(k:Int)<(m:Int):=by omega
    go_wp2_with fail
    refine k0.o.q fun w6 hb=>?_;have aZ:Hid (Below wy.heap.size wy w6):=a.o.trans (hb.mono a.o.size);have ab:Hid (RowB w6 rb m fun j=>if j<k then rq 0 else zraw):=ai.o.below hb ai.o.lt;clear hb k0 a ai;obtain⟨r1,r2,r3⟩:=ab.o.cell hkm;have f1:=ab.o.frozen (k*3);have f2:=ab.o.frozen (k*3+1);have f3:=ab.o.frozen (k*3+2);have r9:=ab.o.lt;have ax:Hid (wy.heap.size<=rb):=wE al.o.symm;have aA:Hid (Below wy.heap.size wy (((w6.setCell ⟨rb,k*3,none⟩ (.bool (rq (0)).1)).setCell ⟨rb,k*3+1,none⟩ (.string (rq (0)).2.1)).setCell ⟨rb,k*3+2,none⟩ (.string (rq (0)).2.2))):=((aZ.o.setCell (p:=⟨rb,k*3,none⟩) ax.o _).setCell (p:=⟨rb,k*3+1,none⟩) ax.o _).setCell (p:=⟨rb,k*3+2,none⟩) ax.o _;have aK:Hid (RowB (((w6.setCell ⟨rb,k*3,none⟩ (.bool (rq (0)).1)).setCell ⟨rb,k*3+1,none⟩ (.string (rq (0)).2.1)).setCell ⟨rb,k*3+2,none⟩ (.string (rq (0)).2.2)) rb m fun j=>if j<k+1 then rq 0 else zraw):=(ab.o.set hkm (rq 0)).congr fun j _=>by by_cases c:j=k;(· rw[zE c,zE (by omega)]);(· rw[zC c];by_cases d:j<k;(· rw[zE d,zE (by omega)]);(· rw[zC d,zC (by omega)]))
    generalize (if k<k then rq 0 else zraw)=rz at r1 r2 r3;go_wp2;exact⟨⟨k+1,by omega,by go_num,aA,aK⟩,by simp only[intOf];omega⟩
   obtain rfl:k=m:=by omega
   have au:Hid (RowB wz rb k fun _=>rq 0):=ai.o.congr fun j hj=>by rw[zE hj]
   clear ai;have k2:=zh (bW.o wz (ak.o _ (am.o _ a.o)))
   go_wp2_with fail
   refine k2.o.q fun w6 hb=>?_;have aZ:Hid (Below wy.heap.size wy w6):=a.o.trans (hb.mono a.o.size);have ab:Hid (RowB w6 rb k fun _=>rq 0):=au.o.below hb au.o.lt;clear hb k2 bW a au;obtain⟨r1,r2,r3⟩:=ab.o.cell him;have f1:=ab.o.frozen (i*3);have f2:=ab.o.frozen (i*3+1);have f3:=ab.o.frozen (i*3+2);have r9:=ab.o.lt;have ax:Hid (wy.heap.size<=rb):=wE al.o.symm;obtain⟨w7,aV⟩:∃W,W=(((w6.setCell ⟨rb,i*3,none⟩ (.bool (rq (1)).1)).setCell ⟨rb,i*3+1,none⟩ (.string (rq (1)).2.1)).setCell ⟨rb,i*3+2,none⟩ (.string (rq (1)).2.2)):=⟨_,rfl⟩;have aA:Hid (Below wy.heap.size wy w7):=by rw[aV];exact((aZ.o.setCell (p:=⟨rb,i*3,none⟩) ax.o _).setCell (p:=⟨rb,i*3+1,none⟩) ax.o _).setCell (p:=⟨rb,i*3+2,none⟩) ax.o _
   have aK:Hid (RowB w7 rb k fun j=>rq (B6 (Ai s.cap) u i 0 j)):=by rw[aV];exact(ab.o.set him (rq 1)).congr fun j _=>by rw[J3];by_cases c:j=i;(· rw[zE c,zE c.symm]);(· rw[zC c,zC (fun e=>c e.symm)])
   have k3:=zh (bo.o w7 (ak.o _ (am.o _ aA.o)))
   go_wp2_with fail
   (try rw[<-aV])
   replace aV:=zh aV;refine k3.o.q fun w8 hb=>?_;have a0:Hid (Below wy.heap.size wy w8):=aA.o.trans (hb.mono aA.o.size);have au:Hid (RowB w8 rb k fun j=>rq (B6 (Ai s.cap) u i 0 j)):=aK.o.below hb aK.o.lt;clear hb k3 aZ ab aA aK r1 r2 r3 f1 f2 f3 r9 bo;obtain⟨gb,aD⟩:∃x,x=w8.heap.size:=⟨_,rfl⟩;obtain⟨w9,ay⟩:∃W,W=(w8.alloc (.cells #[.bool (rq (0)).1,.string (rq (0)).2.1,.string (rq (0)).2.2] 34)):=⟨_,rfl⟩;have be:Hid (Below wy.heap.size wy w9):=by rw[ay];exact a0.o.alloc a0.o.size _
   have bA:Hid (RowB w9 rb k fun j=>rq (B6 (Ai s.cap) u i 0 j)):=by rw[ay];exact au.o.alloc _
   have bq:Hid (Bk w9 gb 34 [.bool (rq (AG (Ai s.cap) u val i 0)).1,.string (rq (AG (Ai s.cap) u val i 0)).2.1,.string (rq (AG (Ai s.cap) u val i 0)).2.2]):=by rw[ay,aD,J4];exact Bk.new _ _ _
   have aF:Hid (rb<gb/\wy.heap.size<=gb):=⟨by rw[aD];exact au.o.lt,by rw[aD];exact a0.o.size⟩;have bk:=zh ((bO.o.kp ah.o (by have:=aj.o;simp;omega)).below be.o);have u1:=bk.o.c1;have u9:=bk.o.lt;rw[ay]at u1 u9
   go_wp2_with fail
   (try rw[<-ay])
   (try rw[<-aD])
   replace ay:=zh ay;replace aD:=zh aD;clear u1 u9 a0 au bk
   go_loopw [50] (fun kx wr=>∃(c:Nat),c<=s.cap.length/\kx=.int .i64 (c:Int)/\Hid (Below wy.heap.size wy wr)/\Hid (RowB wr rb k fun j=>rq (B6 (Ai s.cap) u i c j))/\Hid (Bk wr gb 34 [.bool (rq (AG (Ai s.cap) u val i c)).1,.string (rq (AG (Ai s.cap) u val i c)).2.1,.string (rq (AG (Ai s.cap) u val i c)).2.2])) (fun kx _=>s.cap.length-(intOf kx).toNat)
   case atStart=>exact⟨0,zO _,rfl,be,bA,bq⟩
   case round=>
    clear be bA bq;obtain⟨c,hc,rfl,a,ai,a2⟩:=hrel;obtain⟨wz,rfl⟩:∃z,z=wr:=⟨_,rfl⟩
    by_cases hcl2:c<s.cap.length
    .obtain ⟨aY,off,bX,cd,bE⟩:=(bm.o wz (am.o _ a.o)) (by omega);subst bX;obtain⟨e1,e2,e3,e4,e5⟩:=bE c hcl2;obtain⟨co,ho,Ah,aN,ad,cf,b0⟩:=bH.o c hcl2;rw[aN]at e1 e2 e3 e4 e5;replace e1:wz.cell? ⟨aY,off+c*5,none⟩=some (.int .i64 (co:Int)):=e1;replace e2:wz.cell? ⟨aY,off+c*5+1,none⟩=some (.int .i64 (ho:Int)):=e2;replace e3:wz.cell? ⟨aY,off+c*5+2,none⟩=some (.bool (rq Ah).1):=e3;replace e4:wz.cell? ⟨aY,off+c*5+3,none⟩=some (.string (rq Ah).2.1):=e4;replace e5:wz.cell? ⟨aY,off+c*5+4,none⟩=some (.string (rq Ah).2.2):=e5;have ae:c<(Ai s.cap).length:=by rw[aM.o];exact hcl2
     have aS:(Ai s.cap)[c].2.2=Ah:=by rw[ad]
     have aR:=I3 hL.o ae;have a5:=SL hL.o ae;have b4:=zh (fun q=>L6 hL.o hv.o ae q);rw[aS]at aR a5;replace aR:=zh aR;replace a5:=zh a5;have bn:Hid (co≠p->(∀j,B6 (Ai s.cap) u i (c+1) j=B6 (Ai s.cap) u i c j)/\AG (Ai s.cap) u val i (c+1)=AG (Ai s.cap) u val i c):=fun b3=>L5 ae (by rw[ad,a6];exact b3);have bG:Hid (co=p->∀t (ht:t<u.length),ho=u.getD t 0->(∀j,j<u.length->B6 (Ai s.cap) u i (c+1) j=if j=t then B6 (Ai s.cap) u i c t+-1*Ah else B6 (Ai s.cap) u i c j)/\AG (Ai s.cap) u val i (c+1)=AG (Ai s.cap) u val i c):=fun he t ht hh=>by have h:=SJ (val:=val) (i:=i) hu.o ae (by rw[ad,a6];exact he) ht (by rw[ad];exact hh);rwa [aS]at h
     have bd:Hid (co=p->ho∉u->(∀j,j<u.length->B6 (Ai s.cap) u i (c+1) j=B6 (Ai s.cap) u i c j)/\AG (Ai s.cap) u val i (c+1)=AG (Ai s.cap) u val i c+Ah*val ho):=fun he hh=>by have h:=OR (val:=val) (i:=i) ae (by rw[ad,a6];exact he) (by rw[ad];exact hh);rwa [ad]at h
     replace aN:=zh aN;replace ad:=zh ad;replace aS:=zh aS;replace ae:=zh ae;clear bE;have c0:(0:Int)<=(c:Int):=by omega
     have c1:(c:Int)<(s.cap.length:Int):=by omega
     obtain⟨lb,aE⟩:∃x,x=wz.heap.size:=⟨_,rfl⟩;obtain⟨wa,aq⟩:∃W,W=(wz.alloc (.cells #[.int .i64 (co:Int),.int .i64 (ho:Int),.bool (rq Ah).1,.string (rq Ah).2.1,.string (rq Ah).2.2] 55)):=⟨_,rfl⟩;have aH:Hid (Below wy.heap.size wy wa):=by rw[aq];exact a.o.alloc a.o.size _
     have a3:Hid (RowB wa rb k fun j=>rq (B6 (Ai s.cap) u i c j)):=by rw[aq];exact ai.o.alloc _
     have a1:Hid (Bk wa gb 34 [.bool (rq (AG (Ai s.cap) u val i c)).1,.string (rq (AG (Ai s.cap) u val i c)).2.1,.string (rq (AG (Ai s.cap) u val i c)).2.2]):=by rw[aq];exact a2.o.alloc _
     have af:Hid (Bk wa lb 55 [.int .i64 (co:Int),.int .i64 (ho:Int),.bool (rq Ah).1,.string (rq Ah).2.1,.string (rq Ah).2.2]):=by rw[aq,aE];exact Bk.new _ _ _
     have bJ:Hid (rb≠lb/\gb≠lb):=⟨by rw[aE];exact yb ai.o.lt,by rw[aE];exact yb a2.o.lt⟩;have y0:=af.o.c0;have y1:=af.o.c1;have y9:=af.o.lt;rw[aq,aE]at y0 y1 y9
     by_cases hcp:co=p
     rotate_left
     .have t1:((co:Int) != (p:Int))=true:=by rw[zj];omega
      have aa:=bn.o hcp;have bB:Hid (RowB wa rb k fun j=>rq (B6 (Ai s.cap) u i (c+1) j)):=a3.o.congr fun j _=>by rw[aa.1 j]
      have br:Hid (Bk wa gb 34 [.bool (rq (AG (Ai s.cap) u val i (c+1))).1,.string (rq (AG (Ai s.cap) u val i (c+1))).2.1,.string (rq (AG (Ai s.cap) u val i (c+1))).2.2]):=by rw[aa.2];exact a1.o
      replace hcp:=zh hcp;rw[aq]at aH bB br;clear aa bn bG bd a3 a1 af;go_wp2;exact⟨⟨c+1,by omega,by go_num,aH,bB,br⟩,by simp only[intOf];omega⟩
     have t1:((co:Int) != (p:Int))=false:=by rw[yo];omega
     have bb:=zh hcp;clear hcp;have aX:=zh (aG.o.below aH.o);clear bn y0 y1 y9;have y0:=af.o.c0;have y9:=af.o.lt;rw[aq,aE]at y0 y9
     go_wp2_with fail
     subst aq;subst aE;clear y0 y9;have b1:=zh (fun W (h:Below wy.heap.size wy W)=>am.o W h);have ag:Hid (Below wy.heap.size wy (wz.alloc (.cells #[.int .i64 (co:Int),.int .i64 (ho:Int),.bool (rq Ah).1,.string (rq Ah).2.1,.string (rq Ah).2.2] 55)).drew):=aH.o.drew;have bD:Hid ((wz.alloc (.cells #[.int .i64 (co:Int),.int .i64 (ho:Int),.bool (rq Ah).1,.string (rq Ah).2.1,.string (rq Ah).2.2] 55)).drew.cell? ⟨xb,0,none⟩=some (.slice (some ⟨ub,uo,none⟩) k cu)/\(wz.alloc (.cells #[.int .i64 (co:Int),.int .i64 (ho:Int),.bool (rq Ah).1,.string (rq Ah).2.1,.string (rq Ah).2.2] 55)).drew.cell? ⟨wz.heap.size,1,none⟩=some (.int .i64 (ho:Int))):=⟨aX.o.c0,af.o.c1⟩;have x0:=aX.o.c0;have x9:=aX.o.lt;have y1:=af.o.c1;have y9:=af.o.lt
     go_region_held3 (fun W=>W.cell? ⟨xb,0,none⟩=some (.slice (some ⟨ub,uo,none⟩) k cu)/\W.cell? ⟨wz.heap.size,1,none⟩=some (.int .i64 (ho:Int))) (first|(with_reducible exact bD.o)|(with_reducible exact⟨aX.o.c0,af.o.c1⟩)|go_keep) (first|(go_at_call 74;refine(kix.o _ _ (b1.o _ ag.o)).q fun w7b hq=>?_;obtain rfl:=hq.symm))
     clear x0 x9 y1 y9 bD;have aL:Hid (RowB (wz.alloc (.cells #[.int .i64 (co:Int),.int .i64 (ho:Int),.bool (rq Ah).1,.string (rq Ah).2.1,.string (rq Ah).2.2] 55)).drew rb k fun j=>rq (B6 (Ai s.cap) u i c j)):=a3.o;have aI:Hid (Bk (wz.alloc (.cells #[.int .i64 (co:Int),.int .i64 (ho:Int),.bool (rq Ah).1,.string (rq Ah).2.1,.string (rq Ah).2.2] 55)).drew gb 34 [.bool (rq (AG (Ai s.cap) u val i c)).1,.string (rq (AG (Ai s.cap) u val i c)).2.1,.string (rq (AG (Ai s.cap) u val i c)).2.2]):=a1.o;have aJ:Hid (Bk (wz.alloc (.cells #[.int .i64 (co:Int),.int .i64 (ho:Int),.bool (rq Ah).1,.string (rq Ah).2.1,.string (rq Ah).2.2] 55)).drew wz.heap.size 55 [.int .i64 (co:Int),.int .i64 (ho:Int),.bool (rq Ah).1,.string (rq Ah).2.1,.string (rq Ah).2.2]):=af.o;obtain⟨wd,a9⟩:∃W,W=(wz.alloc (.cells #[.int .i64 (co:Int),.int .i64 (ho:Int),.bool (rq Ah).1,.string (rq Ah).2.1,.string (rq Ah).2.2] 55)).drew:=⟨_,rfl⟩;rw[<-a9]at ag aL aI aJ
     (try rw[<-a9])
     replace a9:=zh a9;clear aH a3 a1 af aX;have aO:Hid (Bk wd mnb 34 [.bool (rq (-1)).1,.string (rq (-1)).2.1,.string (rq (-1)).2.2]):=(bc.o.kp ah.o (by have:=aj.o;simp;omega)).below ag.o;have bI:Hid (rb≠mnb):=fun e=>by have h1:=aj.o;have h2:=ah.o.size;have h3:=al.o;omega
     by_cases hu1:ho∈u
     .obtain⟨t,ht,a7⟩:∃t,t<u.length/\ho=u.getD t 0:=⟨u.idxOf ho,List.idxOf_lt_length_iff.2 hu1,(EY hu1).symm⟩;have av:Eo (u.map fun(q:Nat)=>(q:Int)) (ho:Int)=(t:Int):=Vc hu.o ht a7;have aa:=bG.o bb.o t ht a7;rw[av];rw[<-an.o]at ht aa;replace aa:=zh aa;replace av:=zh av;replace hu1:=zh hu1;replace a7:=zh a7;have t2:decide ((0:Int)<=(t:Int))=true:=zH (by omega)
      go_wp2_with fail
      refine WU mnb rb wz.heap.size k t _ (B6 (Ai s.cap) u i c t) Ah _ _ wd (ak.o _ (am.o _ ag.o)) ht (by omega) aL.o rfl aO.o aJ.o bI.o bJ.o.1 (FT hL.o) aR.o a5.o ?_;intro _ _ _ _ _ _ _ _ _ _ _ we bC ar;have bf:Hid (Below wy.heap.size wy we):=ar.o.to_below ag.o (fun x hx=>by have:=al.o;simp at hx;omega);have aC:Hid (RowB we rb k fun j=>rq (B6 (Ai s.cap) u i (c+1) j)):=bC.o.congr fun j hj=>by rw[aa.o.1 j hj];split<;>rfl
      have aB:Hid (Bk we gb 34 [.bool (rq (AG (Ai s.cap) u val i (c+1))).1,.string (rq (AG (Ai s.cap) u val i (c+1))).2.1,.string (rq (AG (Ai s.cap) u val i (c+1))).2.2]):=by rw[aa.o.2];exact aI.o.kp ar.o (by have:=aF.o;simp;omega)
      clear bC ar aL aI aJ ag aO;go_wp2;exact⟨⟨c+1,by omega,by go_num,bf,aC,aB⟩,by simp only[intOf];omega⟩
     have av:Eo (u.map fun(q:Nat)=>(q:Int)) (ho:Int)=-1:=SM hu1;have aa:=bd.o bb.o hu1;rw[av];rw[<-an.o]at aa;replace aa:=zh aa;replace av:=zh av;replace hu1:=zh hu1;have bL:=zh (b4.o ho);rw[aS.o]at bL
     go_wp2_with fail
     refine WV gb wz.heap.size vb (ho:Int) (AG (Ai s.cap) u val i c) Ah (val ho) _ wd (ak.o _ (am.o _ ag.o)) aI.o aJ.o bJ.o.2 (FU hL.o hv.o) aR.o (hv.o.short ho) bL.o (fun W hW=>kva.o W ho b0 (am.o _ (ag.o.trans (hW.mono ag.o.size)))) ?_;intro _ _ _ _ _ _ _ _ we bs ar;have bf:Hid (Below wy.heap.size wy we):=ar.o.to_below ag.o (fun x hx=>by have:=aF.o;simp at hx;omega);have aC:Hid (RowB we rb k fun j=>rq (B6 (Ai s.cap) u i (c+1) j)):=(Ko aL.o ar.o (by have:=aF.o;simp;omega)).congr fun j hj=>by rw[aa.o.1 j hj]
     have aB:Hid (Bk we gb 34 [.bool (rq (AG (Ai s.cap) u val i (c+1))).1,.string (rq (AG (Ai s.cap) u val i (c+1))).2.1,.string (rq (AG (Ai s.cap) u val i (c+1))).2.2]):=by rw[aa.o.2];exact bs.o
     clear bs ar aL aI aJ ag aO;go_wp2;exact⟨⟨c+1,by omega,by go_num,bf,aC,aB⟩,by simp only[intOf];omega⟩
    obtain rfl:c=s.cap.length:=by omega
    have aC:Hid (RowB wz rb k fun j=>rq (sysA (Ai s.cap) u val i j)):=ai.o.congr fun j hj=>by rw[<-aM.o,I0 (val:=val) (by rw[<-an.o];exact hj)]
    have aB:Hid (Bk wz gb 34 [.bool (rq (sysA (Ai s.cap) u val i k)).1,.string (rq (sysA (Ai s.cap) u val i k)).2.1,.string (rq (sysA (Ai s.cap) u val i k)).2.2]):=by have h:=a2.o;rw[<-aM.o,I1,<-an.o]at h;exact h
    have bT:=zh (aG.o.below a.o);have bK:=zh (AK aP.o a.o);have bM:=zh (AK aQ.o a.o);clear ai a2 bH kix kva
    go_wp2_with fail
    refine WW xb gb rb k i ca cb w3.heap.size Aa Ab _ _ _ (rq (sysA (Ai s.cap) u val i k)) wz (by omega) bT.o aB.o (by have h1:=aj.o;have h2:=ah.o.size;have h3:=aF.o;omega) (zV ah.o.size a.o.size) aj.o.1 bK.o bM.o bi.o (fun e=>by have h1:=(aP.o.lt _ e).2;have h3:=aF.o;omega) (fun e=>by have h1:=(aQ.o.lt _ e).2;have h3:=aF.o;omega) ?_;intro _ _ _ _ _ _ _ _ _ _ _ _ _ _ _ _ _ _ _ _ Aa2 Ab2 b8 b9 we k1 k2 k3 k4 k5 k6 k7;have bY:Hid (BdI w3 we xb k (i+1) (.slice (some ⟨ub,uo,none⟩) k cu) (sysA (Ai s.cap) u val)):=BdI.step ah.o aP.o aQ.o aw.o a.o al.o (by have h1:=aj.o;have h2:=ah.o.size;omega) aC.o k1.o k2.o k3.o k4.o k5.o k6.o k7.o;clear k1 k2 k3 k4 k5 k6 k7 bT bK bM aC aB a;go_wp2;exact⟨⟨i+1,by omega,by go_num,bY⟩,by simp only[intOf];omega⟩
end Sh
end
end Go.Proofs.YtmfjbpcecpgchaaGreatDoor

/- Parts of the proof. -/
import Derived.Laws.AppendOwnNone
import Derived.Test.YtefmpngjjmddjaaGreatDoorCards
import Derived.Test.YtefmpngjjmddjaaGreatDoorTie
import Derived.Deep.DeepWitnessRowRef
import Derived.Deep.DeepLaidRun
import Derived.Stop.LaidErr
import Derived.LaidMore
import Derived.WalkLawsBesides
import Derived.WalkSpells
import Derived.StillTailTactics
import Derived.Test.YtefmpngjjmddjaaGreatDoorKgA
set_option maxHeartbeats 2000000
set_option maxRecDepth 100000
open Go.Proofs.Tryz
namespace Go.Proofs.YtefmpngjjmddjaaGreatDoor
section
open Go.RowKit
namespace Nt
def RelMul(B:Nat)(w:World)(xs ys:List Nat)(g:Nat)(i:Nat)(wr:World):Prop :=
 ∃zs,zs.length=xs.length+ys.length/\InR zs/\Row 202 wr g zs/\lv zs=lo xs i*lv ys/\(∀j,i+ys.length<=j->lim zs j=0)/\Below B w wr
def RelMulIn(B:Nat)(w:World)(xs ys:List Nat)(g:Nat)(i j c:Nat)(wr:World):Prop :=
 ∃ zs,zs.length=xs.length+ys.length/\InR zs/\Row 202 wr g zs/\c<1000000000 /\
  lv zs+c*1000000000^(i+j)=lo xs i*lv ys+1000000000^i*(lim xs i*lo ys j)/\(∀j,i+ys.length<=j->lim zs j=0)/\Below B w wr
theorem QP{Z Z' R P x z c c':Nat}{T:Nat}(h:Z+c*P=R)(hs:Z'+P*z=Z+P*(x%1000000000))(hc:c'=x/1000000000)(hx:x=z+T+c):
 Z'+c'*(P*1000000000)=R+P*T:=by
 have e1:P*x=P*z+P*T+P*c:=by rw[hx,xR,xR]
 have e2:P*x=P*(x%1000000000)+P*(1000000000*(x/1000000000)):=by rw[<-xR,Nat.mod_add_div]
 have e3:c'*(P*1000000000)=P*(1000000000*(x/1000000000)):=by
  rw[hc,yN,yf]
 have e4:c*P=P*c:=yN _ _;omega
theorem RelMulIn.step{B:Nat}{w wr:World}{xs ys:List Nat}{g i j c:Nat}(h:RelMulIn B w xs ys g i j c wr)(hB:B<=g)(hi:i<xs.length)(hj:j<ys.length)(hx:InR xs)(hy:InR ys)
 {z T:Nat}{y:Int}(hz:wr.cell? ⟨g,i+j,none⟩=some (.int .u64 (z:Int)))(hT:T=lim xs i*lim ys j)(he:y=(((z+T+c)%1000000000:Nat):Int)):
 RelMulIn B w xs ys g i (j+1) ((z+T+c)/1000000000) (wr.setCell ⟨g,i+j,none⟩ (.int .u64 y)):=by
 subst he hT;obtain⟨zs,h1,h2,h3,h4,h5,h6,h7⟩:=h;have d:=h3.cell (i:=i+j) (by omega);rw[hz]at d;have aa:z=lim zs (i+j):=by simp at d;omega
 have b1:=h2.lim (i+j);have b2:=hx.lim i;have b3:=hy.lim j;have b4:lim xs i*lim ys j<=999999999*999999999:=wX (by omega) (by omega);refine⟨zs.set (i+j) ((z+lim xs i*lim ys j+c)%1000000000),by simpa using h1,h2.set _ _ (vF _ (by omega)),h3.set _ _,by omega,?_,fun p hp=>?_,h7.setCell hB _⟩
 .have hs:=Mi zs (i+j) ((z+lim xs i*lim ys j+c)%1000000000) (by omega);rw[<-aa]at hs;have:=QP h5 hs rfl rfl;rw[Ca,show i+(j+1)=i+j+1 from rfl,yY,this,xR,xR]
  have e:1000000000^(i+j)*(lim xs i*lim ys j)=1000000000^i*(lim xs i*(1000000000^j*lim ys j)):=by
   rw[wF,yf,Nat.mul_left_comm (1000000000^j)]
  omega
 rw[F1 _ _ _ _ (by omega)];exact h6 p hp
theorem RelMul.start{B:Nat}{w wr:World}{xs ys:List Nat}{g i:Nat}(h:RelMul B w xs ys g i wr):RelMulIn B w xs ys g i 0 0 wr:=by
 obtain⟨zs,h1,h2,h3,h4,h5,h6⟩:=h;exact⟨zs,h1,h2,h3,by omega,by simp[h4,Dz],h5,h6⟩
theorem RelMulIn.done{B:Nat}{w wr:World}{xs ys:List Nat}{g i c:Nat}(h:RelMulIn B w xs ys g i ys.length c wr)(hB:B<=g)(hi:i<xs.length):
 RelMul B w xs ys g (i+1) (wr.setCell ⟨g,i+ys.length,none⟩ (.int .u64 (c:Int))):=by
 obtain⟨zs,h1,h2,h3,h4,h5,h6,h7⟩:=h;refine⟨zs.set (i+ys.length) c,by simpa using h1,h2.set _ _ h4,h3.set _ _,?_,fun p hp=>?_,h7.setCell hB _⟩
 .have hs:=Mi zs (i+ys.length) c (by omega);rw[h6 _ (zB _)]at hs;rw[D9 ys _ (zB _)]at h5;rw[Ca,yS,yf];have:c*1000000000^(i+ys.length)=1000000000^(i+ys.length)*c:=yN _ _;omega
 rw[F1 _ _ _ _ (by omega)];exact h6 p (by omega)
theorem QQ(z a b c:Nat):((z:Int)+a*b+c)/1000000000=(((z+a*b+c)/1000000000:Nat):Int):=by
 rw[vU,yr,yr,xM];rfl
theorem QR(z a b c:Nat):((z:Int)+a*b+c)%1000000000=(((z+a*b+c)%1000000000:Nat):Int):=by
 rw[vT,yr,yr,xM];rfl
theorem RelMulIn.at{B:Nat}{w wr:World}{xs ys:List Nat}{g i j c:Nat}(h:RelMulIn B w xs ys g i j c wr)(hi:i<xs.length)(hj:j<ys.length):
 ∃z:Nat,z<1000000000/\wr.cell? ⟨g,i+j,none⟩=some (.int .u64 (z:Int))/\wr.frozen? ⟨g,i+j,none⟩=false/\c<1000000000/\Below B w wr:=by
 obtain⟨zs,h1,h2,h3,h4,h5,h6,h7⟩:=h;exact⟨lim zs (i+j),h2.lim _,h3.cell (by omega),h3.frozen _,h4,h7⟩
theorem QS(w:World)(a:Option Addr)(cap:Nat)(xs:List Nat)(c:Option Addr)(cap':Nat)(ys:List Nat)(hl:xs.length<=1000)(ar:ys.length<=1000)
 (hx:InR xs)(hy:InR ys)
 (ha:xs≠[]->∃b off,a=some ⟨b,off,none⟩/\b<w.heap.size/\∀i,i<xs.length->w.cell? ⟨b,off+i,none⟩=some (.int .u64 (lim xs i)))
 (hc:ys≠[]->∃b off,c=some ⟨b,off,none⟩/\b<w.heap.size/\∀i,i<ys.length->w.cell? ⟨b,off+i,none⟩=some (.int .u64 (lim ys i))):
 Calls prog 134 #[.slice a xs.length cap,.slice c ys.length cap'] w (Cj w.heap.size w (lv xs*lv ys)):=by
 have h:=Ec (xs.length+ys.length) (by omega);rw[yr]at h;go_enter func134,ntmps134;go_wp2
 go_loopw [20] (fun i wr=>∃k:Nat,k<=xs.length/\i=.int .i64 k/\RelMul w.heap.size w xs ys w.heap.size k wr)
  (fun i _=>xs.length-(intOf i).toNat)
 case atStart=>exact⟨0,zQ _,rfl,List.replicate (xs.length+ys.length) 0,by simp,InR.zeros _,Row.made0 _ _ _,by rw[Dz,xv];exact Ht _ (fun j hj=>EW _ _),(fun j hj=>EW _ _),(zI _ _).alloc (zB _) _⟩
 case round=>
  obtain⟨k,hk,rfl,hrel⟩:=hrel
  by_cases hkn:k<xs.length
  .obtain ⟨bx,ox,ag,ai,aa⟩:=ha (by intro e;simp[e]at hkn);obtain⟨zs,z1,z2,z3,z4,z5,z6⟩:=id hrel;have am:=(z6.cell (p:=⟨bx,ox+k,none⟩) ai).trans (aa k hkn);have ap:=hx.lim k;subst ag;have HC:=zh hc;clear aa ha z1 z2 z3 z4 z5 z6 h hc;have HR:=zh hrel;clear hrel;go_wp2;obtain⟨wo,rfl⟩:∃wo:World,wo=wr:=⟨_,rfl⟩
   go_loopw [8,27] (fun cc j wr=>∃q c:Nat,q<=ys.length/\j=.int .i64 q/\cc=.int .u64 c/\RelMulIn w.heap.size w xs ys w.heap.size k q c wr)
    (fun _ j _=>ys.length-(intOf j).toNat)
   case atStart=>exact⟨0,0,zQ _,rfl,rfl,HR.o.start⟩
   case round=>
    obtain⟨q,c2,hq,rfl,rfl,hrel⟩:=hrel
    by_cases hqn:q<ys.length
    .obtain ⟨b2,oy,ah,aj,ab⟩:=HC.o (by intro e;simp[e]at hqn);subst ah;obtain⟨z,hz,ae,al,ao,d⟩:=hrel.at hkn hqn;have an:=d.cell (p:=⟨b2,oy+q,none⟩) aj |>.trans (ab q hqn)
     have aq:=hy.lim q
     have ak:(lim xs k:Int)*(lim ys q:Int)<=999999998000000001:=by
      have:lim xs k*lim ys q<=999999999*999999999:=wX (by omega) (by omega);have:((lim xs k*lim ys q:Nat):Int)<=((999999999*999999999:Nat):Int):=by exact_mod_cast this
      simpa using this
     have af:0<=(lim xs k:Int)*(lim ys q:Int):=Int.mul_nonneg (by omega) (by omega);replace hrel:=zh hrel;replace hx:=zh hx;replace hy:=zh hy;clear ab d HC;go_wp2
     exact ⟨⟨q+1,(z+lim xs k*lim ys q+c2)/1000000000,by omega,by go_num,congrArg (Value.int .u64) (QQ _ _ _ _),
      hrel.o.step (zB _) hkn hqn hx.o hy.o ae rfl (QR _ _ _ _)⟩,by simp only[intOf];omega⟩
    obtain rfl:q=ys.length:=by omega
    have HR':=zh (hrel.done (zB _) hkn);obtain⟨zs,z1,z2,z3,z4,z5,z6,z7⟩:=hrel;have ae:=z3.cell (i:=k+ys.length) (by omega);have al:=z3.frozen (k+ys.length);replace hx:=zh hx;replace hy:=zh hy;clear z1 z2 z3 z5 z6 z7 HC;go_wp2;exact⟨⟨k+1,by omega,by go_num,HR'.o⟩,by simp only[intOf];omega⟩
  obtain rfl:k=xs.length:=by omega
  obtain⟨zs,z1,z2,z3,z4,z5,z6⟩:=id hrel;have Z1:=zh z1;have Z4:=zh z4;have ad:=z3.sl;rw[z1]at ad;clear z1 z4 hrel ha hc h z5
  go_wp2_with (go_at_call 154;refine(Dj _ _ _ (by have:=Z1.o;omega) ad).mono ?_;rintro e w' ⟨v,k,rfl,ht,hs,hf,rfl⟩)
  go_ret;exact⟨v,rfl,⟨zs.take k,ht.canon z2,by rw[ht.lv,Z4.o,D9 _ _ (zB _)],hs⟩,hf _ (zB _),z6⟩
theorem JZ(w:World)(v u:Value)(n m:Nat)(hn:Num w v n)(hm:Num w u m)(h:BM n)(d:BM m):
 Calls prog 134 #[v,u] w (Cj w.heap.size w (n*m)):=by
 obtain⟨xs,hx,rfl,aa⟩:=hn;obtain⟨ys,hy,rfl,ab⟩:=hm;have hl:=hx.len_le (k:=200) h;have ad:=hy.len_le (k:=200) d;obtain⟨a,cap,rfl,ha⟩:=aa.addr;obtain⟨c,cap',rfl,hc⟩:=ab.addr;exact QS w a cap xs c cap' ys (by omega) (by omega) hx.1 hy.1 ha hc
end Nt
end
section
open Go.RowKit Go.Shelf
namespace Nt
theorem NS(w:World)(x:Nat)(h0:0<x)(h:x<1000000000){X:Int}(hX:X=(x:Int)):
 Num (w.alloc (.cells #[.int .u64 X] 202)) (.slice (some ⟨w.heap.size,0,none⟩) 1 1) x:=by
 subst hX;refine⟨[x],⟨fun y hy=>?_,?_⟩,by simp[lv],?_⟩
 .simp at hy;omega
 .simp;omega
 refine Sl.mk (xs:=[x]) (by simp) (zB _) (fun i hi=>?_);have hi:i<1:=hi;obtain rfl:i=0:=by omega
 rw[yE,World.cell?_alloc_new];rfl
theorem BN{a b:Nat}(h:BM b)(d:a<=b):BM a:=yA d h
theorem Hy{a:Nat}(h:a<1000000000):BM a:=by
 have h1:1000000000^1<=1000000000^200:=zi (by omega) (by omega);rw[Nat.pow_one]at h1;exact zJ h h1
theorem QT(x y:Nat):decide (0<BG x y)=decide (y<x):=by
 unfold BG
 split
 .simp;omega
 split
 .simp;omega
 simp;omega
theorem Lf(W:World)(k:Nat)(hk:k<999999999)(bm br:Nat)(mv rv:Value)(M R:Nat)(hm:W.cell? ⟨bm,0,none⟩=some mv)(hr:W.cell? ⟨br,0,none⟩=some rv)
 (hM:Hid (Num W mv M))(hR:Hid (Num W rv R))(ab:Hid (BM (M*1000000000))):
 Calls prog 158 #[.int .i64 (k:Int),.pointer (some ⟨bm,0,none⟩),.pointer (some ⟨br,0,none⟩)] W fun e W'=>e=.returned (.bool (decide (R<M*(k+1))))/\Below W.heap.size W W':=by
 have ae:br<W.heap.size:=block_lt_of_cell hr;have ad:bm<W.heap.size:=block_lt_of_cell hm;have s1:IntKind.i64.wrap ((k:Int)+1)=(k:Int)+1:=xx _ (by omega);have s2:IntKind.u64.wrap ((k:Int)+1)=(k:Int)+1:=IntWalk.u64_in _ (by omega);have af:=NS W (k+1) (by omega) (by omega) (X:=(k:Int)+1) (by omega);have cM:=JZ (W.alloc (.cells #[.int .u64 ((k:Int)+1)] 202)).drew mv (.slice (some ⟨W.heap.size,0,none⟩) 1 1) M (k+1) (hM.o.below ((zI _ _).alloc (zB _) _).drew) af (BN ab.o (by omega)) (Hy (by omega));go_enter func158,ntmps158;go_wp2
 go_region_held3 (fun w'=>w'.cell? ⟨bm,0,none⟩=some mv/\w'.cell? ⟨br,0,none⟩=some rv)
  (first
    |go_keep
    |(go_split_ands
      refine⟨?_,?_⟩
      .assumption
      assumption))
  (first
  |(go_at_call 134;refine cM.mono ?_;rintro e w' ⟨v,rfl,hv,_,hb⟩;have h:Below W.heap.size W w':=((zI W.heap.size W).alloc (zB _) _).drew.trans (hb.mono (by simp));have ag:=(h.cell (p:=⟨bm,0,none⟩) ad).trans hm;have ah:=(h.cell (p:=⟨br,0,none⟩) ae).trans hr;replace hb:=zh hb;replace h:=zh h)
  |(go_at_call 156;refine(E5 _ _ _ (M*(k+1)) R (by assumption) (by exact hR.o.below (Hid.o (by assumption))) (BN ab.o (xP _ (by omega))) (by have:=(Hid.o (p:=Below W.heap.size W _) (by assumption)).size;omega)).q fun w2 aa=>?_;have d:Below W.heap.size W w2:=h.o.trans (aa.mono h.o.size);have ai:=(d.cell (p:=⟨bm,0,none⟩) ad).trans hm;have aj:=(d.cell (p:=⟨br,0,none⟩) ae).trans hr;replace d:=zh d;clear ag ah aa))
 go_wp2;go_ret;exact⟨congrArg (fun b=>Ending.returned (.bool b)) (QT _ _),d.o⟩
end Nt
end
section
open Go.RowKit Go.Shelf
attribute [local go_sem] Oper.semAt_some
namespace Nt
theorem AS(w:World)(o:Obj){k:Nat}{x:Obj}(h:w.heap[k]? = some x):(w.alloc o).heap[k]? = some x :=
 (yM w o k (Array.getElem?_eq_some_iff.1 h).1).trans h
theorem Ck(w:World)(o:Obj){k:Nat}(h:k=w.heap.size):(w.alloc o).heap[k]? = some o:=by
 subst h;exact yR w o
theorem X8(w:World)(o1 o2 o3 o4 o5:Obj):
 (((((w.alloc o1).alloc o2).alloc o3).alloc o4).alloc o5).heap[w.heap.size]? = some o1/\(((((w.alloc o1).alloc o2).alloc o3).alloc o4).alloc o5).heap[w.heap.size+1]? = some o2 /\
 (((((w.alloc o1).alloc o2).alloc o3).alloc o4).alloc o5).heap[w.heap.size+1+1]? = some o3/\(((((w.alloc o1).alloc o2).alloc o3).alloc o4).alloc o5).heap[w.heap.size+1+1+1]? = some o4 /\
 (((((w.alloc o1).alloc o2).alloc o3).alloc o4).alloc o5).heap[w.heap.size+1+1+1+1]? = some o5/\(((((w.alloc o1).alloc o2).alloc o3).alloc o4).alloc o5).heap.size=w.heap.size+5 /\
 Below w.heap.size w (((((w.alloc o1).alloc o2).alloc o3).alloc o4).alloc o5):=by
 refine⟨?_,?_,?_,?_,?_,by simp,?_⟩
 .exact AS _ _ (AS _ _ (AS _ _ (AS _ _ (Ck _ _ rfl))))
 .exact AS _ _ (AS _ _ (AS _ _ (Ck _ _ (by simp))))
 .exact AS _ _ (AS _ _ (Ck _ _ (by simp)))
 .exact AS _ _ (Ck _ _ (by simp))
 .exact Ck _ _ (by simp)
 exact(((((zI _ w).alloc (zB _) _).alloc (by simp) _).alloc (by simp;omega) _).alloc (by simp;omega) _).alloc (by simp;omega) _
structure KeptBut(S:Nat->Prop)(w w':World):Prop where
 os:w'.os=w.os
 tape:w'.tape=w.tape
 output:w'.output=w.output
 size:w.heap.size<=w'.heap.size
 block:∀k,k<w.heap.size->¬S k->w'.heap[k]? = w.heap[k]?
theorem KeptBut.refl(S:Nat->Prop)(w:World):KeptBut S w w:=⟨rfl,rfl,rfl,zB _,fun _ _ _=>rfl⟩
theorem KeptBut.below{S:Nat->Prop}{w w' w'':World}(h:KeptBut S w w')(hb:Below w'.heap.size w' w''):KeptBut S w w'' :=
 ⟨hb.os.trans h.os,hb.tape.trans h.tape,hb.output.trans h.output,zS h.size hb.size,fun k hk hs=>(hb.block k (zJ hk h.size)).trans (h.block k hk hs)⟩
theorem KeptBut.setCell{S:Nat->Prop}{w w':World}(h:KeptBut S w w'){p:Addr}(hp:w.heap.size<=p.block\/S p.block)(v:Value):KeptBut S w (w'.setCell p v) :=
 ⟨h.os,h.tape,h.output,by simpa [World.setCell] using h.size,fun k hk hs=>(ze _ _ _ _ (fun e=>by subst e;rcases hp with hp|hp;(· omega);(· exact hs hp))).trans (h.block k hk hs)⟩
theorem KeptBut.grown{S:Nat->Prop}{w w' w'':World}{row:Option Nat}(h:KeptBut S w w')(hg:w'.grownBy w'' row)(hr:∀k,row=some k->w.heap.size<=k\/S k):KeptBut S w w'' :=
 ⟨hg.os.trans h.os,hg.tape.trans h.tape,hg.output.trans h.output,zS h.size hg.size,fun k hk hs=>
   (hg.block k (zJ hk h.size) (fun e=>by rcases hr k e.symm with h1|h1;(· omega);(· exact hs h1))).trans (h.block k hk hs)⟩
theorem KeptBut.to{S:Nat->Prop}{B:Nat}{w0 w w':World}(h:KeptBut S w w')(h0:Below B w0 w)(hB:B<=w.heap.size)(hS:∀k,S k->B<=k):Below B w0 w' :=
 h0.trans ⟨h.os,h.tape,h.output,h.size,fun k hk=>h.block k (by omega) (fun hs=>by have:=hS k hs;omega)⟩
def Box(t:TypeId)(W:World)(b:Nat)(v:Value):Prop:=W.heap[b]? = some (.cells #[v] t (0,0))
theorem Box.cell{t:TypeId}{W:World}{b:Nat}{v:Value}(h:Box t W b v):W.cell? ⟨b,0,none⟩=some v:=by
 unfold Box at h;simp[World.cell?,h]
theorem Box.frozen{t:TypeId}{W:World}{b:Nat}{v:Value}(h:Box t W b v):W.frozen? ⟨b,0,none⟩=false:=by
 unfold Box at h;simp[World.frozen?,h]
theorem Box.lt{t:TypeId}{W:World}{b:Nat}{v:Value}(h:Box t W b v):b<W.heap.size:=(Array.getElem?_eq_some_iff.1 h).1
theorem Box.set{t:TypeId}{W:World}{b:Nat}{v:Value}(h:Box t W b v)(u:Value):Box t (W.setCell ⟨b,0,none⟩ u) b u:=by
 unfold Box at h ⊢;simp[World.setCell,Array.getElem?_modify,h]
theorem Box.other{t:TypeId}{W:World}{b:Nat}{v:Value}(h:Box t W b v)(p:Addr)(u:Value)(hp:b≠p.block):Box t (W.setCell p u) b v:=by
 unfold Box at h ⊢;rw[ze _ _ _ _ hp];exact h
theorem Box.below{t:TypeId}{W W':World}{b n:Nat}{v:Value}(h:Box t W b v)(hb:Below n W W')(hn:b<n):Box t W' b v:=by
 unfold Box at h ⊢;rw[hb.block b hn];exact h
theorem Row.other{t:TypeId}{W:World}{g:Nat}{zs:List Nat}(h:Row t W g zs)(p:Addr)(u:Value)(hp:g≠p.block):Row t (W.setCell p u) g zs:=by
 unfold Row at h ⊢;rw[ze _ _ _ _ hp];exact h
theorem Row.below{t:TypeId}{W W':World}{g n:Nat}{zs:List Nat}(h:Row t W g zs)(hb:Below n W W')(hn:g<n):Row t W' g zs:=by
 unfold Row at h ⊢;rw[hb.block g hn];exact h
theorem IL(t ty e:TypeId)(i:TypeInfo)(B:Nat)(w:World)(ht:prog.underlying t=some (.slice e))(hi:prog.info? e=some i)(hz:i.zero=some (.int .u64 0))(hs:i.size=1)(aa:i.bytes=8)
 (v sv:Value)(n:Nat)(xs ys:List Nat)(d:Own e B w v n xs)(ab:Sl w sv ys)(hb:n+ys.length<=1000000)(hB:B<=w.heap.size):
 ∃v' w',(Builtin.append_ #[t,t] ty #[v,sv]).run prog w=.ok v' w'/\Own e B w' v' (n+ys.length) (xs++ys)/\w.grownBy w' v.ownBlock:=by
 rcases ab.shape with⟨rfl,rfl⟩|⟨b,off,cap,rfl,ad,_,hc⟩
 .refine⟨v,w,run_append_owned_none w B t ty e i 1 ht hi v n _ d,?_,World.grownBy.refl _ _⟩
  simpa using d
 obtain ⟨v',w',h1,h2,h3,_⟩:=wg w B t ty e i (.int .u64 0) 1 8 ht hi hz hs aa rfl (by decide) v n _ d ⟨b,off,none⟩ ys.length cap (Cd ys) (by simp[Cd])
  (fun j u hj=>by
    simp only[Cd,xq,Option.map_eq_some_iff]at hj;obtain⟨y,hy,rfl⟩:=hj;have h:=(List.getElem?_eq_some_iff.1 hy).1;have:=hc j h;rw[F0 _ _ h,(List.getElem?_eq_some_iff.1 hy).2]at this;rw[Lib.add_plain];exact this)
  (fun u hu=>by simp only[Cd,vX]at hu;obtain⟨y,_,rfl⟩:=hu;rfl) (by unfold maxLen;omega) (by omega) hB
 refine⟨v',w',h1,?_,h3⟩;unfold Own;rw[Cd,zw];exact h2
theorem F8{F:Fence}{N:Nat}(w:World){ops:Array Oper}{rest:List Oper}{o:Oper}{a:Act}{Q:Exit->Act->World->Prop}
 (hg:o.guard=none)(s x:Operand)(t:TypeId)(d:o.op=Op.call { callee:=Callee.builtin Builtin.append,args:=#[s,x],argTypes:=#[t,t] })(e:TypeId)(i:TypeInfo)(B:Nat)
 (ht:prog.underlying t=some (.slice e))(hi:prog.info? e=some i)(hz:i.zero=some (.int .u64 0))(ag:i.size=1)(ad:i.bytes=8)
 (v sv:Value)(n:Nat)(xs ys:List Nat)(hs:a.eval s=v)(hx:a.eval x=sv)(h:Own e B w v n xs)(af:Sl w sv ys)(hb:n+ys.length<=1000000)(hB:B<=w.heap.size)
 (hK:∀v' w',Own e B w' v' (n+ys.length) (xs++ys)->w.grownBy w' v.ownBlock->wpListIn F N prog ops Q rest (a.put o.dst v') w'):
 wpListIn F N prog ops Q (o::rest) a w:=by
 refine wpListIn_plain hg fun K ab=>?_;obtain⟨v',w',aa,r1,r2⟩:=IL t o.type e i B w ht hi hz ag ad v sv n xs ys h af hb hB;unfold Oper.wpIn;refine⟨?_,?_⟩
 .simp[Oper.about,d,resolve,Target.leads,Sem.run_pure]
 rw[Oper.semAt_plain F _ _ (by rw[d];intro c ae;cases ae)];simp[execOp,d,resolve,invoke,builtin,hs,hx,aa,Result.andThen];exact ab _ _ (hK v' w' r1 r2)
theorem Sl.kept{A B:World}{row:Option Nat}{v:Value}{xs:List Nat}(h:Sl A v xs)(hg:A.grownBy B row)(hr:∀r,row=some r->∃o:Obj,A.heap[r]? = some o/\o.isCells=false):Sl B v xs:=by
 obtain⟨a,cap,rfl,hn,hs⟩:=h;refine⟨a,cap,rfl,hn,fun ad e=>?_⟩;obtain⟨h1,h2,h3,h4⟩:=hs ad e;exact⟨h1,zJ h2 hg.size,h3,fun i hi=>cell_kept (h4 i hi) hg hr⟩
theorem Num.kept{A B:World}{row:Option Nat}{v:Value}{n:Nat}(h:Num A v n)(hg:A.grownBy B row)(hr:∀r,row=some r->∃o:Obj,A.heap[r]? = some o/\o.isCells=false):Num B v n:=by
 obtain⟨xs,h1,h2,h3⟩:=h;exact⟨xs,h1,h2,h3.kept hg hr⟩
theorem Sl.setCell{W:World}{v:Value}{xs:List Nat}{B:Nat}(h:Sl W v xs)(hf:From B v)(p:Addr)(hp:p.block<B)(u:Value):Sl (W.setCell p u) v xs:=by
 obtain⟨a,cap,rfl,hn,hs⟩:=h;refine⟨a,cap,rfl,hn,fun ad e=>?_⟩;obtain⟨h1,h2,h3,h4⟩:=hs ad e;subst e;have hB:B<=ad.block:=hf;refine⟨h1,by simpa [World.setCell] using h2,h3,fun i hi=>?_⟩;rw[<-h4 i hi];exact zT (w:=W) (a:=⟨ad.block,ad.off+i,none⟩) (ze _ _ _ _ (by show ad.block≠p.block;omega))
theorem Num.setCell{W:World}{v:Value}{n B:Nat}(h:Num W v n)(hf:From B v)(p:Addr)(hp:p.block<B)(u:Value):Num (W.setCell p u) v n:=by
 obtain⟨xs,h1,h2,h3⟩:=h;exact⟨xs,h1,h2,h3.setCell hf p hp u⟩
theorem From.mono{B B':Nat}{v:Value}(h:From B v)(hb:B'<=B):From B' v:=by
 unfold From at h ⊢
 split
 .exact zS hb h
 trivial
theorem Num.shape{W:World}{v:Value}{n:Nat}(h:Num W v n):∃a l c,v=.slice a l c:=by
 obtain⟨xs,_,_,a,c,h,_⟩:=h;exact⟨a,_,c,h⟩
def CD(xs:List Nat)(M:Nat)(s:Nat×List Nat)(x:B5 xs.length):Nat×List Nat :=
 if lim xs x.1+1000000000*s.1<M then (lim xs x.1+1000000000*s.1,s.2)
 else ((lim xs x.1+1000000000*s.1)%M,s.2.set x.1 ((lim xs x.1+1000000000*s.1)/M))
def BE(xs:List Nat)(M:Nat)(pre:List (B5 xs.length)):Nat×List Nat:=pre.foldl (CD xs M) (0,List.replicate xs.length 0)
theorem F9(xs:List Nat)(M:Nat)(pre:List (B5 xs.length))(x:B5 xs.length):BE xs M (pre++[x])=CD xs M (BE xs M pre) x:=by
 simp[BE,List.foldl_append]
def V3(w W1:World)(xs:List Nat)(M:Nat)(pre:List (B5 xs.length))(W:World):Prop :=
 (∃rv,Box 186 W (w.heap.size+1+1+1) rv/\Num W rv (BE xs M pre).1/\From W1.heap.size rv)/\Row 202 W (w.heap.size+1) (BE xs M pre).2 /\
 (BE xs M pre).1<M/\(BE xs M pre).2.length=xs.length/\InR (BE xs M pre).2/\KeptBut (fun k=>k=w.heap.size+1\/k=w.heap.size+1+1+1) W1 W
theorem IM(xs:List Nat)(M:Nat)(p:Nat)(hp:p<xs.length)(s:Nat×List Nat)(hM:0<M)(hz:s.2.length=xs.length)(h0:∀j,j<=p->lim s.2 j=0)
 (h4:lv s.2*M+1000000000^(p+1)*s.1+lo xs (p+1)=lv xs):
 (CD xs M s ⟨p,hp⟩).1<M/\(CD xs M s ⟨p,hp⟩).2.length=xs.length/\(∀j,j<p->lim (CD xs M s ⟨p,hp⟩).2 j=0) /\
 lv (CD xs M s ⟨p,hp⟩).2*M+1000000000^p*(CD xs M s ⟨p,hp⟩).1+lo xs p=lv xs:=by
 obtain⟨r,zs⟩:=s;dsimp only at hz h0 h4;rw[Ca,yY]at h4;unfold CD;dsimp only;generalize lim xs p=x at h4 ⊢;have key:1000000000^p*(x+1000000000*r)=1000000000^p*x+1000000000^p*1000000000*r:=by rw[xR,yf]
 split
 .rename_i hlt;exact⟨hlt,hz,fun j hj=>h0 j (by omega),by dsimp only;omega⟩
 rename_i hge;have hs:=Mi zs p ((x+1000000000*r)/M) (by omega);rw[h0 p (zB _)]at hs;refine⟨vF _ hM,by simpa using hz,fun j hj=>by rw[F1 _ _ _ _ (by omega)];exact h0 j (by omega),?_⟩;dsimp only;have e1:lv (zs.set p ((x+1000000000*r)/M))=lv zs+1000000000^p*((x+1000000000*r)/M):=by omega
 have e2:1000000000^p*(x+1000000000*r)=1000000000^p*(M*((x+1000000000*r)/M))+1000000000^p*((x+1000000000*r)%M):=by rw[<-xR,Nat.div_add_mod]
 have e3:1000000000^p*((x+1000000000*r)/M)*M=1000000000^p*(M*((x+1000000000*r)/M)):=by rw[yf,yN M]
 rw[e1,yS,e3];omega
theorem Mp(xs:List Nat)(M:Nat)(hM:0<M)(k:Nat)(hk:k<=xs.length):
 (BE xs M (Cy xs.length k)).1<M/\(BE xs M (Cy xs.length k)).2.length=xs.length/\(∀j,j<xs.length-k->lim (BE xs M (Cy xs.length k)).2 j=0) /\
 lv (BE xs M (Cy xs.length k)).2*M+1000000000^(xs.length-k)*(BE xs M (Cy xs.length k)).1+lo xs (xs.length-k)=lv xs:=by
 induction k with
 |zero=>
  refine⟨hM,by simp[BE,CZ],fun j hj=>by simp only[BE,CZ,List.foldl_nil];exact EW _ _,?_⟩;simp only[BE,CZ,List.foldl_nil,Nat.sub_zero];rw[Ht _ (fun j hj=>EW _ _),D9 _ _ (zB _)];omega
 |succ k ih=>
  obtain⟨_,h2,h3,h4⟩:=ih (by omega);rw[Cz _ _ (by omega),F9];have e1:xs.length-(k+1)=xs.length-1-k:=by omega
  have e2:xs.length-k=xs.length-1-k+1:=by omega
  rw[e1];rw[e2]at h3 h4;exact IM xs M _ _ _ hM h2 (fun j hj=>h3 j (by omega)) h4
theorem ON(xs:List Nat)(M:Nat)(hM:0<M):lv (BE xs M (Cy xs.length xs.length)).2=lv xs/M/\(BE xs M (Cy xs.length xs.length)).1=lv xs%M:=by
 obtain⟨h1,_,_,h4⟩:=Mp xs M hM xs.length (zB _);rw[Nat.sub_self,Nat.pow_zero,Nat.one_mul,Dz,ya]at h4;constructor
 .rw[<-h4,yN,Nat.mul_add_div hM,Nat.div_eq_of_lt h1,ya]
 rw[<-h4,yN,Nat.mul_add_mod,Nat.mod_eq_of_lt h1]
theorem QU(w:World)(a:Option Addr)(cap:Nat)(xs:List Nat)(mc:Option Addr)(ml mcap M:Nat)(hl:xs.length<=200)(hx:Hid (InR xs))(b:Nat)(hb:b<w.heap.size)
 (ha:Hid (SlAt w b (.slice a xs.length cap) xs))(hM:Hid (Num w (.slice mc ml mcap) M))(ax:0<M)(aC:Hid (BM (M*1000000000))):
 Calls prog 132 #[.slice a xs.length cap,.slice mc ml mcap] w fun e w' =>
  (∃v u,e=.returned (.tuple #[v,u])/\Num w' v (lv xs/M)/\Num w' u (lv xs%M))/\Below w.heap.size w w':=by
 have bm:=Ec xs.length (by omega);refine(callsIn_wide (n:=9)).1 ?_;refine vA func132 rfl trivial ?_ rfl;simp only[ntmps132,xJ,zZ,ye,Nat.reduceAdd,Nat.reduceSub,xB,xC,xS,xG,yT,yi]
 gi_wp2_with (first
  |(refine⟨trivial,?_⟩;gi_at_call 155;refine(Da Fence.wide _ trivial rfl _ _ _ _).mono ?_;rintro e w' ⟨rfl,rfl⟩)
  |(gi_at_call 155;refine(Da Fence.wide _ trivial rfl _ _ _ _).mono ?_;rintro e w' ⟨rfl,rfl⟩))
 obtain⟨f1,f2,f3,f4,f5,f6,f7⟩:=X8 w (.cells #[.slice mc ml mcap] 186) (.cells (madeCells #[.int .u64 0] xs.length) 202) (.cells #[.slice (some ⟨w.heap.size+1,0,none⟩) xs.length xs.length] 186) (.cells #[.slice none 0 0] 186) (.cells #[.slice a xs.length cap] 186);generalize ((((w.alloc (.cells #[.slice mc ml mcap] 186)).alloc (.cells (madeCells #[.int .u64 0] xs.length) 202)).alloc (.cells #[.slice (some ⟨w.heap.size+1,0,none⟩) xs.length xs.length] 186)).alloc (.cells #[.slice none 0 0] 186)).alloc (.cells #[.slice a xs.length cap] 186)=W1 at f1 f2 f3 f4 f5 f6 f7 ⊢;rw[KS]at f2;have aV:W1.cell? ⟨w.heap.size+1+1+1+1,0,none⟩=some (.slice a xs.length cap):=Box.cell f5;have aY:SlAt W1 b (.slice a xs.length cap) xs:=ha.o.keep (c:=b) (Keep2.of_below f7 hb hb);have a1:Num W1 (.slice mc ml mcap) M:=hM.o.below f7
 refine wpIn_rangeFunc_ownF rfl (by decide) (gf:=193) (lb:=#[.pointer (some ⟨w.heap.size+1+1+1+1,0,none⟩)]) rfl trivial (enters_of func193 (by kernel_rfl) rfl)
  (F5 Fence.wide _ trivial rfl (by decide) (w.heap.size+1+1+1+1) b _ xs (by omega) W1 (by omega) (by omega) aV aY) (fun h k=>h.trans k)
  (fun W l o o' hl h ho hw=>?kb) (zI _ _) (fun _=>rfl)
  (V3 w W1 xs M) (fun _ _ _=>False)
  (fun s A B row hs hg hr=>?own)
  (fun _ _ _ _ _ hs _ _=>hs)
  ⟨⟨_,f4,⟨[],⟨fun x hx=>absurd hx (by simp),by simp⟩,rfl,Sl.nil _⟩,trivial⟩,f2,ax,by simp[BE],InR.zeros _,KeptBut.refl _ _⟩
  (fun x=>{ tmps:=#[.slice a xs.length cap,.slice mc ml mcap,undef,.pointer (some ⟨w.heap.size,0,none⟩),.slice none 0 0,.slice none 0 0,.pointer (some ⟨w.heap.size+1+1,0,none⟩),.pointer (some ⟨w.heap.size+1+1+1,0,none⟩),
    .int .i64 (x.1:Int),.int .u64 (lim xs x.1),undef,.slice a xs.length cap,.int .i64 xs.length,.slice (some ⟨w.heap.size+1,0,none⟩) xs.length xs.length,.slice a xs.length cap,
    .func (.func 193) #[] #[.pointer (some ⟨w.heap.size+1+1+1+1,0,none⟩)],.int .i64 (x.1:Int),.int .u64 (lim xs x.1),
    undef,undef,undef,undef,undef,undef,undef,undef,undef,undef,undef,undef,undef,undef,undef,undef,undef,undef,undef,undef,undef,undef,undef,undef,undef,undef],defers:=[] })
  ?assign ?body ?done ?stop
 case kb=>
  have h1:=(Array.getElem?_eq_some_iff.1 h).1;exact⟨yc (by omega),yc (by omega)⟩
 case own=>
  obtain⟨⟨rv,s1,s2,s2f⟩,s3,s4,s5,s6,s7⟩:=hs;have ak:=fun r e=>(hr r e).2;exact⟨⟨rv,Dk s1 hg ak,s2.kept hg ak,s2f⟩,Dk s3 hg ak,s4,s5,s6,s7.grown hg (fun k e=>.inl (hr k e).1)⟩
 case assign=>
  intro l x W K hK
  gi_wp2
  exact hK
 case body=>
  rintro l pre x W ⟨⟨rv,s1,⟨rs,c1,c2,c3⟩,s2f⟩,s3,s4,s5,s6,s7⟩ bL;obtain⟨i0,hi,bu,bv,bw⟩:=wZ KZ;have af:=s7.size;have bz:w.heap.size<W.heap.size:=by omega
  have a4:w.heap.size+1<W.heap.size:=by omega
  have bA:w.heap.size+1+1<W.heap.size:=by omega
  have a5:w.heap.size+1+1+1<W.heap.size:=by omega
  have bC:=Box.cell s1;have bD:=Box.frozen s1;have bk:=hx.o.lim x.1;have aE:Box 186 W w.heap.size (.slice mc ml mcap):=(s7.block w.heap.size (by omega) (by omega)).trans f1;have ag:Box 186 W (w.heap.size+1+1) (.slice (some ⟨w.heap.size+1,0,none⟩) xs.length xs.length):=(s7.block (w.heap.size+1+1) (by omega) (by omega)).trans f3;have bB:=Box.cell (show Box 186 W w.heap.size (.slice mc ml mcap) from(s7.block w.heap.size (by omega) (by omega)).trans f1);have aK:Own 202 W.heap.size (W.alloc (.cells #[.int .u64 (lim xs x.1)] 202)) (.slice (some ⟨W.heap.size,0,none⟩) 1 1) 1 [lim xs x.1]:=World.ownsRow_lit W #[.int .u64 (lim xs x.1)] 1 (zB _) (by unfold maxLen;omega) rfl;have aM:Sl (W.alloc (.cells #[.int .u64 (lim xs x.1)] 202)) rv rs:=c3.below ((zI _ _).alloc (zB _) _);obtain⟨ar,capr,bF,_⟩:=c3.addr;subst bF;have C1:=zh c1;have C2:=zh c2;have S3:=zh s3;have S4:=zh s4;have S5:=zh s5;have S6:=zh s6;have S7:=zh s7;have bT:rs.length<=200:=c1.len_le (BN aC.o (by omega));have F6:=zh f6;replace af:=zh af;clear c1 c2 s3 s4 s5 s6 s7 aY a1 bm f1 f2 f3 f4 f5 f6 aV c3
  gi_wp2_with (gi_at_builtin;refine F8 _ rfl _ _ 186 rfl 202 i0 W.heap.size underlying186 hi bu bv bw _ _ 1 [lim xs x.1] rs rfl rfl aK aM (by omega) (by simp) ?_;intro v1 w1 ah aJ)
  refine⟨trivial,?_⟩;refine(yj l (callsIn_wide.2 (Dj w1 v1 (lim xs x.1::rs) (by simp;omega) ah.sl))).mono ?_;rintro e w2 ⟨v2,k2,rfl,aZ,aX,bf,rfl⟩;have F2:=bf _ ah.from
  have N2:Num w1 v2 (lim xs x.1+1000000000*(BE xs M pre).1):=⟨_,aZ.canon (fun y hy=>by
   rcases List.mem_cons.1 hy with h|h
   .rw[h];exact bk
   exact C1.o.1 y h),by rw[aZ.lv,lv,C2.o],aX⟩
  have au:Below W.heap.size W w1:=((zI W.heap.size W).alloc (zB _) _).grown aJ (by simp) (fun k e=>by cases e;exact zB _);have s1':Box 186 w1 (w.heap.size+1+1+1) (.slice ar rs.length capr):=s1.below au a5;have ao:=aE.below au bz;have a7:=ao.cell;have bb:=s1'.cell;have bj:=s1'.frozen
  obtain ⟨a2,n2,cap2,e2⟩:∃a n c,v2=.slice a n c:=by
   obtain⟨a,c,h,_⟩:=aX;exact⟨a,_,c,h⟩
  subst e2;generalize az:lim xs x.1+1000000000*(BE xs M pre).1=r1 at N2
  have bo:BM r1:=by
   rw[<-az];exact BN aC.o (by have:=S4.o;omega)
  have aB:r1<M*1000000000:=by rw[<-az];have:=S4.o;omega
  have HR1:=zh az;replace aB:=zh aB;have HB1:=zh au;replace N2:=zh N2;replace F2:=zh F2;clear az au aX bf aZ ah aJ aK aM bC bD C1 C2 hi bu bv bw s1
  gi_wp2
  -- the world behind the store of the rest
  have aN:=HB1.o.size;have s1'':=s1'.set (.slice a2 n2 cap2);have al:Below w.heap.size w (w1.setCell ⟨w.heap.size+1+1+1,0,none⟩ (.slice a2 n2 cap2)):=((S7.o.to f7 f7.size (fun k h=>by omega)).trans (HB1.o.mono (by omega))).setCell (by simp;omega) _;have N3:Num (w1.setCell ⟨w.heap.size+1+1+1,0,none⟩ (.slice a2 n2 cap2)) (.slice a2 n2 cap2) r1:=N2.o.setCell F2.o _ a5 _;have K3:KeptBut (fun k=>k=w.heap.size+1\/k=w.heap.size+1+1+1) W1 (w1.setCell ⟨w.heap.size+1+1+1,0,none⟩ (.slice a2 n2 cap2)):=(S7.o.below HB1.o).setCell (.inr (.inr rfl)) _;have R3:=((S3.o.below HB1.o a4).other ⟨w.heap.size+1+1+1,0,none⟩ (.slice a2 n2 cap2) (by simp));have aO:W.heap.size<=(w1.setCell ⟨w.heap.size+1+1+1,0,none⟩ (.slice a2 n2 cap2)).heap.size:=by simpa [World.setCell] using aN
  have aj:=ao.other ⟨w.heap.size+1+1+1,0,none⟩ (.slice a2 n2 cap2) (by simp;omega);have aq:=(ag.below HB1.o bA).other ⟨w.heap.size+1+1+1,0,none⟩ (.slice a2 n2 cap2) (by simp);have KO3:KeepsOthers W (w1.setCell ⟨w.heap.size+1+1+1,0,none⟩ (.slice a2 n2 cap2)):=(KeepsOthers.of_below HB1.o).trans (xu _ _ _);have KK3:Keep2 b (w.heap.size+1+1+1+1) W (w1.setCell ⟨w.heap.size+1+1+1,0,none⟩ (.slice a2 n2 cap2)):=(Keep2.of_below HB1.o (by omega) (by have:=F6.o;have:=af.o;omega)).trans (Keep2.setCell _ _ _ (by simp;omega) (by simp));generalize w1.setCell ⟨w.heap.size+1+1+1,0,none⟩ (.slice a2 n2 cap2)=w3 at s1'' al N3 K3 R3 aO aj aq KO3 KK3 ⊢;clear ao a7 s1' bb bj N2 aE ag bB HB1 aN;refine⟨trivial,?_⟩;refine(yj l (callsIn_wide.2 (E5 w3 _ _ r1 M N3 (hM.o.below al) ?sm1 ?sm2))).mono ?_
  case sm1=>exact bo
  case sm2=>omega
  rintro e w4 ⟨rfl,aa⟩
  by_cases hlt:r1<M
  .rw[Ed hlt]
   gi_wp2
   have e:BE xs M (pre++[x])=(r1,(BE xs M pre).2):=by rw[F9,CD,HR1.o,zD hlt]
   refine⟨KO3.trans (KeepsOthers.of_below aa),KK3.trans (Keep2.of_below aa (by omega) (by have:=F6.o;have:=af.o;omega)),?_⟩;unfold V3;rw[e];exact⟨⟨_,s1''.below aa (by omega),N3.below aa,F2.o.mono af.o⟩,R3.below aa (by omega),hlt,S5.o,S6.o,K3.below aa⟩
  .rw [show BG r1 M=BG r1 M from rfl]
   have aW:decide (BG r1 M<0)=false:=by
    rcases wn M r1 with h|h
    .rw[FN h];rfl
    rw[show r1=M by omega,NR];rfl
   generalize BG r1 M=cr at aW ⊢;have bO:¬cr<0:=by simpa using aW
   clear aW
   gi_wp2
   refine⟨trivial,?_⟩;have br:=aa.size;have M4:=(hM.o.below al).below aa;have N4:=N3.below aa;have aF:=(aj.below aa (by omega)).cell;have aG:=(s1''.below aa (by omega)).cell
   refine (yj l (callsIn_wide.2 (F7 999999999 (by omega) (fun k=>decide (r1<M*(k+1))) (.pointer (some ⟨w.heap.size,0,none⟩)) (.pointer (some ⟨w.heap.size+1+1+1,0,none⟩)) w4
    (fun a b bM bN h=>by
      have h1:M*(a+1)<=M*(b+1):=xP _ (by omega);simp only[yG]at h ⊢;omega)
    (fun W' i ay hi=>Lf W' i hi w.heap.size (w.heap.size+1+1+1) _ _ M r1 ((ay.cell (p:=⟨w.heap.size,0,none⟩) (by simp;omega)).trans aF) ((ay.cell (p:=⟨w.heap.size+1+1+1,0,none⟩) (by simp;omega)).trans aG) (M4.below ay) (N4.below ay) aC)))).mono ?_
   rintro e w5 ⟨d,rfl,bc,bd,be,ab⟩
   have hd:d=r1/M:=by
    have bn:=aB.o;refine(Nat.div_eq_of_lt_le ?_ ?_).symm
    .cases d with
     |zero=>simp
     |succ d=>have:=bd d (by omega);simp only[zM]at this;rw[yN];omega
    by_cases h:d<999999999
    .have:=be h;simp only[yG]at this;rw[yN];exact this
    obtain rfl:d=999999999:=by omega
    rw[yN];exact bn
   have bs:=ab.size;have M5:=M4.below ab;have N5:=N4.below ab;have aP:=(aj.below aa (by omega)).below ab (by omega);have aQ:=(aq.below aa (by omega)).below ab (by omega);have aR:=(s1''.below aa (by omega)).below ab (by omega);have R5:=(R3.below aa (by omega)).below ab (by omega);have K5:=(K3.below aa).below ab;have KO5:=(KO3.trans (KeepsOthers.of_below aa)).trans (KeepsOthers.of_below ab);have KK5:=(KK3.trans (Keep2.of_below aa (by omega) (by have:=F6.o;have:=af.o;omega))).trans (Keep2.of_below ab (by omega) (by have:=F6.o;have:=af.o;omega));have a0:=(al.trans (aa.mono (by omega))).trans (ab.mono (by omega));have bp:W.heap.size<=w5.heap.size:=by omega
   clear br M4 N4 aF aG bc bd be ab aa bs N3 R3 K3 s1'' aj aq KO3 KK3 al aO;have a9:=aQ.cell;have a6:=R5.cell (i:=x.1) (by have:=S5.o;have:=x.2;omega);have bh:=R5.frozen x.1;have bU:x.1<xs.length:=x.2;have bR:d<=999999999:=by rw[hd];have:=aB.o;exact Nat.le_of_lt_succ (Nat.div_lt_of_lt_mul (by omega))
   have HD:=zh hd;clear hd
   gi_wp2
   have bG:(w5.setCell ⟨w.heap.size+1,x.1,none⟩ (.int .u64 (d:Int))).heap.size=w5.heap.size:=by simp[World.setCell]
   have M6:Num (w5.setCell ⟨w.heap.size+1,x.1,none⟩ (.int .u64 (d:Int))) (.slice mc ml mcap) M:=hM.o.below (a0.setCell (xo _) _);have N6:=N5.setCell F2.o ⟨w.heap.size+1,x.1,none⟩ a4 (.int .u64 (d:Int));have ap:=aP.other ⟨w.heap.size+1,x.1,none⟩ (.int .u64 (d:Int)) (yu (zo _));have ae:=aR.other ⟨w.heap.size+1,x.1,none⟩ (.int .u64 (d:Int)) (by show w.heap.size+1+1+1≠w.heap.size+1;omega);have R6:=R5.set x.1 d;have K6:=K5.setCell (p:=⟨w.heap.size+1,x.1,none⟩) (.inr (.inl rfl)) (.int .u64 (d:Int));have KO6:=KO5.trans (xu w5 ⟨w.heap.size+1,x.1,none⟩ (.int .u64 (d:Int)));have KK6:=KK5.trans (Keep2.setCell w5 ⟨w.heap.size+1,x.1,none⟩ (.int .u64 (d:Int)) (by simp;omega) (by simp;omega));have bq:W.heap.size<=(w5.setCell ⟨w.heap.size+1,x.1,none⟩ (.int .u64 (d:Int))).heap.size:=by omega
   generalize w5.setCell ⟨w.heap.size+1,x.1,none⟩ (.int .u64 (d:Int))=w6 at M6 N6 ap ae R6 K6 KO6 KK6 bq ⊢;have bc:1<=d:=by rw[HD.o];exact(Nat.one_le_div_iff ax).2 (by omega)
   have aS:M*d<=r1:=by rw[HD.o];exact Nat.mul_div_le r1 M
   have an:=NS w6 d (by omega) (by omega) (X:=(d:Int)) rfl;have cM:=JZ (w6.alloc (.cells #[.int .u64 (d:Int)] 202)).drew (.slice mc ml mcap) (.slice (some ⟨w6.heap.size,0,none⟩) 1 1) M d (M6.below ((zI _ _).alloc (zB _) _).drew) an (BN aC.o (by omega)) (Hy (by omega));have bI:=ap.cell;have aH:=ae.cell;have bi:=ae.frozen;have bS:w.heap.size<w6.heap.size:=by omega
   have aA:w.heap.size+1+1+1<w6.heap.size:=by omega
   have s1:IntKind.u64.wrap (d:Int)=(d:Int):=IntWalk.u64_in _ (by omega);replace aS:=zh aS;replace N6:=zh N6;replace an:=zh an;replace R6:=zh R6;replace K6:=zh K6;replace KO6:=zh KO6;replace KK6:=zh KK6;replace ae:=zh ae;clear M6 ap bG N5 aP aR aQ a9 a6 bh R5 K5 KO5 KK5 a0 bp M5
   gi_region_with (first
    |(refine⟨trivial,?_⟩;gi_at_call 134;refine(yj l (callsIn_wide.2 cM)).mono ?_;rintro e w7 ⟨v7,rfl,bH,_,aT⟩;have ad:Below w6.heap.size w6 w7:=((zI w6.heap.size w6).alloc (zB _) _).drew.trans (aT.mono (by simp));have ba:=(ad.cell (p:=⟨w.heap.size+1+1+1,0,none⟩) aA).trans aH;replace aT:=zh aT;replace ad:=zh ad)
    |(refine⟨trivial,?_⟩;gi_at_call 159;refine(yj l (callsIn_wide.2 (NP w7 (.slice a2 n2 cap2) v7 r1 (M*d) (N6.o.below ad.o) bH aS.o bo))).mono ?_;rintro e w8 ⟨v8,rfl,bt,bg,aU⟩;have ai:Below w6.heap.size w6 w8:=ad.o.trans (aU.mono ad.o.size);have bJ:=(ai.cell (p:=⟨w.heap.size+1+1+1,0,none⟩) aA).trans aH;have bK:=(ai.frozen (p:=⟨w.heap.size+1+1+1,0,none⟩) aA).trans bi;obtain⟨a8,n8,cap8,e8⟩:∃a n c,v8=.slice a n c:=bt.shape;subst e8;replace bg:=zh (From.mono bg ad.o.size);replace aU:=zh aU;replace ai:=zh ai;clear ba))
   all_goals
    have am:=Hid.o (p:=Below w6.heap.size w6 w8) (by assumption);have aI:=Hid.o (p:=From w6.heap.size (.slice a8 n8 cap8)) (by assumption)
    gi_wp2
    have hq:(d:Nat)<1000000000:=by omega
    have e:BE xs M (pre++[x])=(r1-M*d,(BE xs M pre).2.set x.1 d):=by
     rw[F9,CD,HR1.o,zC hlt,HD.o,Nat.mod_eq_sub]
    refine⟨(KO6.o.trans (KeepsOthers.of_below am)).trans (xu _ _ _),(KK6.o.trans (Keep2.of_below am (by omega) (by have:=F6.o;have:=af.o;omega))).trans (Keep2.setCell _ _ _ (by show b≠w.heap.size+1+1+1;omega) (by show w.heap.size+1+1+1+1≠w.heap.size+1+1+1;omega)),?_⟩;unfold V3;rw[e];refine⟨⟨_,(ae.o.below am (by omega)).set _,bt.setCell aI _ aA _,aI.mono (by have:=af.o;omega)⟩,(R6.o.below am (by omega)).other _ _ (by show w.heap.size+1≠w.heap.size+1+1+1;omega),?_,by simpa using S5.o,S6.o.set _ _ hq,(K6.o.below am).setCell (.inr (.inr rfl)) _⟩;rw[HD.o,<-Nat.mod_eq_sub];exact vF _ ax
 case done=>
  rintro D zs W hD rfl ⟨⟨rv,s1,s2,s2f⟩,s3,s4,s5,s6,s7⟩ hK;have ag:Box 186 W (w.heap.size+1+1) (.slice (some ⟨w.heap.size+1,0,none⟩) xs.length xs.length):=(s7.block (w.heap.size+1+1) (by omega) (by omega)).trans f3;have bP:=ag.cell;have bQ:=s1.cell;have aw:Below w.heap.size w W:=s7.to f7 f7.size (fun k h=>by omega);have aD:=ON xs M ax;have aL:=s3.sl;rw[s5]at aL;obtain⟨ar,lr,cr,erv⟩:=s2.shape;subst erv;have bE:(BE xs M (Cy xs.length xs.length)).2.length<=1000000:=by rw[s5];omega
  replace aD:=zh aD;replace s2:=zh s2;replace s6:=zh s6;replace aw:=zh aw;have HK:=zh hK;clear s1 s3 s4 s5 s7 f1 f2 f3 f4 f5 f6 aY a1 bm aV ag hK
  gi_wp2
  refine wpIn_wide.2 ?_
  go_region_held3 (fun w'=>w'.cell? ⟨w.heap.size+1+1,0,none⟩=some (.slice (some ⟨w.heap.size+1,0,none⟩) xs.length xs.length)/\w'.cell? ⟨w.heap.size+1+1+1,0,none⟩=some (.slice ar lr cr))
   (first
     |go_keep
     |(go_split_ands
       refine⟨?_,?_⟩
       .assumption
       assumption))
   ((go_at_call 154;refine(Dj W.drew (.slice (some ⟨w.heap.size+1,0,none⟩) xs.length xs.length) _ bE aL).mono ?_;rintro e w' ⟨v,k,rfl,ht,hs,hf,rfl⟩))
  gi_wp2
  refine⟨by simp,.inl ⟨_,_,rfl,wN (show W.drew.heap[D]? = _ from HK.o),?_⟩⟩;have ak:∀r,(some D)=some r->∃o:Obj,W.drew.heap[r]? = some o/\o.isCells=false:=fun r e=>by cases e;exact⟨_,HK.o,rfl⟩
  have hg:=wE W.drew D (.deferred none)
  have a3:Num (W.drew.putObj D (.deferred none)) v (lv xs/M):=by
   rw[<-aD.o.1];exact⟨_,ht.canon s6.o,ht.lv,Sl.kept hs hg ak⟩
  have bx:Num (W.drew.putObj D (.deferred none)) (.slice ar lr cr) (lv xs%M):=by
   rw[<-aD.o.2];exact Num.kept (show Num W.drew _ _ from s2.o) hg ak
  obtain⟨av,lv',cv,ev⟩:=a3.shape;subst ev;refine⟨.tuple #[.slice av lv' cv,.slice ar lr cr],by simp[results,results132,go_sem],⟨_,_,rfl,a3,bx⟩,?_⟩;exact(aw.o.drew).grown hg aw.o.size (fun k e=>by cases e;exact zS f7.size hD)
 case stop=>
  rintro D c pre W _ _ h _;exact h.elim
theorem NT(w:World)(v u:Value)(n m:Nat)(hn:Num w v n)(hm:Num w u m)(ab:BM n)(aa:BM (m*1000000000))(ad:0<m)(h0:0<w.heap.size):
 Calls prog 132 #[v,u] w fun e w' =>
  (∃q r,e=.returned (.tuple #[q,r])/\Num w' q (n/m)/\Num w' r (n%m))/\Below w.heap.size w w':=by
 obtain⟨xs,hx,rfl,d⟩:=hn;obtain⟨mc,ml,mcap,rfl⟩:=hm.shape;have hl:=hx.len_le (k:=200) ab;obtain⟨b,hb,h⟩:=SlAt.of d h0;obtain⟨a,cap,rfl,_⟩:=d.addr;exact QU w a cap xs mc ml mcap m hl hx.1 b hb h hm ad aa
end Nt
end
section
open Go.RowKit Go.Shelf
namespace Nt
theorem Mq{xs:List Nat}(h:Canon xs):xs.length=0<->lv xs=0:=by
 constructor
 .intro e;rw[List.length_eq_zero_iff.1 e];rfl
 intro e;have:=h.len_le (k:=0) (by rw[e];decide);omega
theorem Num.open{W:World}{v:Value}{n:Nat}(h:Num W v n):∃a l c,v=.slice a l c/\(l=0<->n=0):=by
 obtain⟨xs,h1,h2,a,c,h3,_⟩:=h;exact⟨a,_,c,h3,by rw[<-h2];exact Mq h1⟩
def QV(w:World)(N G:Nat)(g:Nat)(v u:Value)(wr:World):Prop :=
 ∃n,Num wr v n/\Num wr u g/\Nat.gcd n g=G/\n<=N/\g<=N/\Below w.heap.size w wr
theorem TL(w:World)(v u:Value)(n m N:Nat)(hn:Num w v n)(hm:Num w u m)(ae:n<=N)(ad:m<=N)(hN:BM (N*1000000000))(h0:0<w.heap.size):
 Calls prog 130 #[v,u] w fun e w'=>(∃q,e=.returned q/\Num w' q (Nat.gcd n m))/\Below w.heap.size w w':=by
 have aa:QV w N (Nat.gcd n m) m v u w:=⟨n,hn,hm,rfl,ae,ad,zI _ _⟩;obtain⟨a,l,c,rfl,ab⟩:=hn.open;obtain⟨a2,l2,c2,rfl,d⟩:=hm.open;replace ab:=zh ab;replace d:=zh d;clear hn hm;go_enter func130,ntmps130;go_wp2
 go_loopg [0,1] m (fun g v u wr=>QV w N (Nat.gcd n m) g v u wr)
 case atStart=>exact aa
 case round=>
  clear ab d aa;obtain⟨k,h1,h2,h3,h4,h5,h6⟩:=hrel;obtain⟨a1,l1,c1,rfl,_⟩:=h1.open;obtain⟨a2,l2,c2,rfl,d⟩:=h2.open
  by_cases hg:gk=0
  .have hl:=d.2 hg;subst hl;replace h1:=zh h1;replace h3:=zh h3;replace hg:=zh hg;replace h6:=zh h6;clear h2 d;go_wp2;go_ret;refine⟨⟨_,rfl,?_⟩,h6.o⟩;rw[<-h3.o,hg.o,Nat.gcd_zero_right];exact h1.o
  have hl:0<l2:=by
   rcases xK l2 with h|h
   .exact absurd (d.1 h) hg
   exact h
  have af:=h6.size;have hc:=NT wr _ _ k gk h1 h2 (BN hN (by omega)) (BN hN (yv _ h5)) (by omega) (by omega);replace h1:=zh h1;replace h2:=zh h2;replace h3:=zh h3;replace hg:=zh hg;replace h6:=zh h6;clear d
  go_wp2_with (go_at_call 132;refine hc.mono ?_;rintro e w2 ⟨⟨q,r,rfl,hq,hr⟩,hb⟩;replace hq:=zh hq;replace hr:=zh hr;replace hb:=zh hb)
  go_roundg (k%gk)
  case measure=>exact vF _ (by have:=hg.o;omega)
  case rel=>
   refine⟨gk,h2.o.below hb.o,hr.o,?_,h5,?_,h6.o.trans (hb.o.mono af)⟩
   .rw[<-h3.o,Nat.gcd_comm gk,<-Nat.gcd_rec,Nat.gcd_comm]
   have:=vF k (show gk>0 by have:=hg.o;omega);omega
def val(s:ByteArray):Nat:=AO s.data.toList
theorem Bl(n:Nat):val (num n)=n:=AK n
theorem NU{s:ByteArray}(h:isN s=true):num (val s)=s:=by
 obtain⟨n,_,rfl⟩:=Cc h;rw[Bl]
theorem B6{s:ByteArray}(h:isN s=true):val s<Lim:=by
 obtain⟨n,hn,rfl⟩:=Cc h;rw[Bl];exact hn
theorem Hz{s:ByteArray}(h:isN s=true):∀c∈s.data.toList,CG c:=((DG _).1 h).2.2.1
theorem AU{s:ByteArray}(h:isN s=true):s.size<=300:=by
 have:=((DG _).1 h).2.1
 simpa using this
theorem V4(a b:Nat)(h:a+a<=9*b):10^a*10^a<=1000000000^b:=by
 have e:(1000000000:Nat)=10^9:=rfl;rw[<-wF,e,<-Nat.pow_mul];exact zi (by omega) h
theorem H0:Lim*Lim<=1000000000^67:=by
 unfold Lim;exact V4 mxd 67 (by rw[E3];omega)
theorem D3{n:Nat}(h:n<1000000000^67*1000000000):BM n:=by
 have:1000000000^67*1000000000<=1000000000^200:=by
  rw[<-yY];exact zi (by omega) (by omega)
 exact zJ h this
theorem Ka:Lim<=Lim*Lim:=Nat.le_mul_of_pos_left _ (vG (by omega))
theorem B7{n:Nat}(h:n<Lim):BM n:=D3 (by have:=H0;have:=Ka;omega)
theorem Mr{n:Nat}(h:n<Lim):BM (n*1000000000):=D3 (by have:=H0;have:=Ka;omega)
theorem OO{n m:Nat}(h:n<Lim)(k:m<Lim):BM (n+m):=D3 (by have:=H0;have:=Ka;omega)
theorem OP{n m:Nat}(h:n<Lim)(k:m<Lim):BM (n*m):=D3 (by
 have:=H0;have h1:n*m<=Lim*Lim:=wX (by omega) (by omega);omega)
def Kb(k:Nat):ByteArray:=if k<Lim then num k else ⟨#[]⟩
def Kc(k:Nat):Int:=if k<Lim then 0 else 2
theorem C3(k:Nat):CS (Lib.decDigits k)=.tuple #[.string (Kb k),.int .i64 (Kc k)]:=by
 have h:300<(Lib.decDigits k).length<->¬k<Lim:=by
  have e:(Lib.decDigits k).length<=300<->k<Lim:=by
   have:=D2 k mxd (by rw[E3];omega);rw[<-E3];exact this
  omega
 unfold CS Kb Kc
 by_cases hk:k<Lim
 .rw[zC (by rw[h];exact fun c=>c hk),zD hk,zD hk];rfl
 rw[zD (h.2 hk),zC hk,zC hk]
def opS(k:Nat)(s t:ByteArray):ByteArray:=if isN s=true/\isN t=true then Kb k else ⟨#[]⟩
def opE(k:Nat)(s t:ByteArray):Int:=if isN s=true/\isN t=true then Kc k else 1
def C4(k:Nat)(s t:ByteArray)(w:World)(e:Ending)(w':World):Prop:=e=.returned (.tuple #[.string (opS k s t),.int .i64 (opE k s t)])/\Below w.heap.size w w'
theorem Ke{k:Nat}{s t:ByteArray}(h:isN s=false\/isN t=false):opS k s t=⟨#[]⟩/\opE k s t=1:=by
 have:¬(isN s=true/\isN t=true):=by rintro⟨h1,h2⟩;rcases h with h|h<;>simp_all
 unfold opS opE;rw[zC this,zC this];exact⟨rfl,rfl⟩
theorem EX{k:Nat}{s t:ByteArray}(h1:isN s=true)(h2:isN t=true):opS k s t=Kb k/\opE k s t=Kc k:=by
 unfold opS opE;rw[zD ⟨h1,h2⟩,zD ⟨h1,h2⟩];exact⟨rfl,rfl⟩
theorem Bt(s:ByteArray)(w:World)(h:isN s=true):Calls prog 131 #[.string s] w (Cj w.heap.size w (val s)) :=
 OM s w (by have:=AU h;omega) (Hz h)
theorem V5{n m:Nat}(hn:n<Lim)(hm:m<Lim):Nat.gcd n m<Lim:=by
 rcases xK n with h|h
 .rw[h,Nat.gcd_zero_left];exact hm
 exact yA (Nat.gcd_le_left m h) hn
theorem Ms{n m:Nat}(h:n<Lim)(k:m<Lim):BM ((n+m)*1000000000):=by
 have:1000000000^68*1000000000<=1000000000^200:=by
  rw[<-yY];exact zi (by omega) (by omega)
 have h1:=H0;have h2:=Ka;have h3:1000000000^68=1000000000^67*1000000000:=yY ..;unfold BM;omega
theorem OQ(s t:ByteArray)(w:World)(hE:Env w)(hs:isN s=true)(ht:isN t=true):
 Calls prog 129 #[.string s,.string t,.func (.func 165) #[] #[]] w (C4 (val s+val t) s t w):=by
 have ao:=AU hs;have ap:=AU ht;have an:=zh hE;have HG:=zh (EX (k:=val s+val t) hs ht);have c1:=B4 s w (by omega);rw[hs]at c1;have HS:=zh hs;have HT:=zh ht;clear hs ht;have hs:=HS.o;have ht:=HT.o;replace hs:=zh hs;replace ht:=zh ht;replace hE:=zh hE;go_enter func129,ntmps129
 go_wp2_with fail
 refine c1.q fun w1 ai=>?_;have ad:=zh ai;clear ai
 go_wp2_with fail
 have c2:=B4 t w1 (by omega);rw[ht.o]at c2;refine c2.q fun w2 h=>?_;have d:=ad.t h;clear h c1 c2 ad
 go_wp2_with fail
 refine(Bt s w2 hs.o).mono ?_;rintro e w3 ⟨v1,rfl,af,_,ab⟩;have ae:=d.t ab;replace af:=zh af;clear ab d
 go_wp2_with fail
 refine(Bt t w3 ht.o).mono ?_;rintro e w4 ⟨v2,rfl,ag,_,h⟩;have d:=ae.t h;replace h:=zh h;replace ag:=zh ag;clear ae
 go_wp2_with fail
 have al:=hs.o;have am:=ht.o;refine(TK _ v1 v2 (val s) (val t) (af.o.below h.o) ag.o (B7 (B6 hs.o)) (B7 (B6 ht.o))).mono ?_;rintro e w5 ⟨v3,rfl,ah,_,ab⟩;have aa:=d.t ab;replace ah:=zh ah;clear ab d h af ag al am
 go_wp2_with fail
 have ct:=DH w5 v3 _ ah.o (OO (B6 hs.o) (B6 ht.o)) (hE.o.below aa.o);refine ct.q fun w6 aj=>?_;rw[C3];have ak:=aa.t aj;clear ct aj aa ah;go_wp2;go_ret2;exact⟨by rw[HG.o.1,HG.o.2];rfl,ak.o⟩
theorem OR(s t:ByteArray)(w:World)(hE:Env w)(hs:isN s=true)(ht:isN t=true)(al:val t<=val s):
 Calls prog 129 #[.string s,.string t,.func (.func 159) #[] #[]] w (C4 (val s-val t) s t w):=by
 have ap:=AU hs;have aq:=AU ht;have ao:=zh hE;have HG:=zh (EX (k:=val s-val t) hs ht);have c1:=B4 s w (by omega);rw[hs]at c1;have HS:=zh hs;have HT:=zh ht;clear hs ht;have hs:=HS.o;have ht:=HT.o;replace hs:=zh hs;replace ht:=zh ht;replace hE:=zh hE;go_enter func129,ntmps129
 go_wp2_with fail
 refine c1.q fun w1 ai=>?_;have ad:=zh ai;clear ai
 go_wp2_with fail
 have c2:=B4 t w1 (by omega);rw[ht.o]at c2;refine c2.q fun w2 h=>?_;have d:=ad.t h;clear h c1 c2 ad
 go_wp2_with fail
 refine(Bt s w2 hs.o).mono ?_;rintro e w3 ⟨v1,rfl,af,_,ab⟩;have ae:=d.t ab;replace af:=zh af;clear ab d
 go_wp2_with fail
 refine(Bt t w3 ht.o).mono ?_;rintro e w4 ⟨v2,rfl,ag,_,h⟩;have d:=ae.t h;replace h:=zh h;replace ag:=zh ag;clear ae
 go_wp2_with fail
 have am:=hs.o;have an:=ht.o;refine(NP _ v1 v2 (val s) (val t) (af.o.below h.o) ag.o al (B7 (B6 hs.o))).mono ?_;rintro e w5 ⟨v3,rfl,ah,_,ab⟩;have aa:=d.t ab;replace ah:=zh ah;clear ab d h af ag am an
 go_wp2_with fail
 have ct:=DH w5 v3 _ ah.o (B7 (by have:=B6 hs.o;omega)) (hE.o.below aa.o);refine ct.q fun w6 aj=>?_;rw[C3];have ak:=aa.t aj;clear ct aj aa ah;go_wp2;go_ret2;exact⟨by rw[HG.o.1,HG.o.2];rfl,ak.o⟩
theorem OS(s t:ByteArray)(w:World)(hE:Env w)(hs:isN s=true)(ht:isN t=true):
 Calls prog 129 #[.string s,.string t,.func (.func 134) #[] #[]] w (C4 (val s*val t) s t w):=by
 have ao:=AU hs;have ap:=AU ht;have an:=zh hE;have HG:=zh (EX (k:=val s*val t) hs ht);have c1:=B4 s w (by omega);rw[hs]at c1;have HS:=zh hs;have HT:=zh ht;clear hs ht;have hs:=HS.o;have ht:=HT.o;replace hs:=zh hs;replace ht:=zh ht;replace hE:=zh hE;go_enter func129,ntmps129
 go_wp2_with fail
 refine c1.q fun w1 ai=>?_;have ad:=zh ai;clear ai
 go_wp2_with fail
 have c2:=B4 t w1 (by omega);rw[ht.o]at c2;refine c2.q fun w2 h=>?_;have d:=ad.t h;clear h c1 c2 ad
 go_wp2_with fail
 refine(Bt s w2 hs.o).mono ?_;rintro e w3 ⟨v1,rfl,af,_,ab⟩;have ae:=d.t ab;replace af:=zh af;clear ab d
 go_wp2_with fail
 refine(Bt t w3 ht.o).mono ?_;rintro e w4 ⟨v2,rfl,ag,_,h⟩;have d:=ae.t h;replace h:=zh h;replace ag:=zh ag;clear ae
 go_wp2_with fail
 have al:=hs.o;have am:=ht.o;refine(JZ _ v1 v2 (val s) (val t) (af.o.below h.o) ag.o (B7 (B6 hs.o)) (B7 (B6 ht.o))).mono ?_;rintro e w5 ⟨v3,rfl,ah,_,ab⟩;have aa:=d.t ab;replace ah:=zh ah;clear ab d h af ag al am
 go_wp2_with fail
 have ct:=DH w5 v3 _ ah.o (OP (B6 hs.o) (B6 ht.o)) (hE.o.below aa.o);refine ct.q fun w6 aj=>?_;rw[C3];have ak:=aa.t aj;clear ct aj aa ah;go_wp2;go_ret2;exact⟨by rw[HG.o.1,HG.o.2];rfl,ak.o⟩
theorem OT(s t:ByteArray)(w:World)(hE:Env w)(hs:isN s=true)(ht:isN t=true):
 Calls prog 129 #[.string s,.string t,.func (.func 130) #[] #[]] w (C4 (Nat.gcd (val s) (val t)) s t w):=by
 have ao:=AU hs;have ap:=AU ht;have an:=zh hE;have HG:=zh (EX (k:=Nat.gcd (val s) (val t)) hs ht);have c1:=B4 s w (by omega);rw[hs]at c1;have HS:=zh hs;have HT:=zh ht;clear hs ht;have hs:=HS.o;have ht:=HT.o;replace hs:=zh hs;replace ht:=zh ht;replace hE:=zh hE;go_enter func129,ntmps129
 go_wp2_with fail
 refine c1.q fun w1 ai=>?_;have ad:=zh ai;clear ai
 go_wp2_with fail
 have c2:=B4 t w1 (by omega);rw[ht.o]at c2;refine c2.q fun w2 h=>?_;have d:=ad.t h;clear h c1 c2 ad
 go_wp2_with fail
 refine(Bt s w2 hs.o).mono ?_;rintro e w3 ⟨v1,rfl,af,_,ab⟩;have ae:=d.t ab;replace af:=zh af;clear ab d
 go_wp2_with fail
 refine(Bt t w3 ht.o).mono ?_;rintro e w4 ⟨v2,rfl,ag,_,h⟩;have d:=ae.t h;replace h:=zh h;replace ag:=zh ag;clear ae
 go_wp2_with fail
 have al:=hs.o;have am:=ht.o;refine(TL _ v1 v2 (val s) (val t) (val s+val t) (af.o.below h.o) ag.o (Nat.le_add_right _ _) (Nat.le_add_left _ _) (Ms (B6 hs.o) (B6 ht.o)) (by have:=d.o.size;have:=hE.o.pos;omega)).mono ?_;rintro e w5 ⟨⟨v3,rfl,ah⟩,ab⟩;have aa:=d.t ab;replace ah:=zh ah;clear ab d h af ag al am
 go_wp2_with fail
 have ct:=DH w5 v3 _ ah.o (B7 (V5 (B6 hs.o) (B6 ht.o))) (hE.o.below aa.o);refine ct.q fun w6 aj=>?_;rw[C3];have ak:=aa.t aj;clear ct aj aa ah;go_wp2;go_ret2;exact⟨by rw[HG.o.1,HG.o.2];rfl,ak.o⟩
theorem C5(f:Nat)(k:Nat)(s t:ByteArray)(w:World)(hs:s.size<=140737488355328)(ht:t.size<=140737488355328)(hb:isN s=false\/isN t=false):
 Calls prog 129 #[.string s,.string t,.func (.func f) #[] #[]] w (C4 k s t w):=by
 have HG:=zh (Ke (k:=k) hb);have c1:=B4 s w (by omega)
 cases h1:isN s with
 |false=>
  rw[h1]at c1;clear hb h1;go_enter func129,ntmps129
  go_wp2_with (go_at_call 128;refine c1.q fun w1 d=>?_)
  go_ret2;exact⟨by rw[HG.o.1,HG.o.2];rfl,d⟩
 |true=>
  have h2:isN t=false:=by rcases hb with h|h;(· rw[h1]at h;cases h);(· exact h)
  rw[h1]at c1;have H2:=zh h2;clear hb h1 h2;go_enter func129,ntmps129
  go_wp2_with fail
  refine c1.q fun w1 d=>?_;replace d:=zh d
  go_wp2_with fail
  have c2:=B4 t w1 (by omega);rw[H2.o]at c2;refine c2.q fun w2 aa=>?_;replace aa:=zh aa;go_wp2;go_ret2;exact⟨by rw[HG.o.1,HG.o.2];rfl,d.o.trans (aa.o.mono d.o.size)⟩
theorem TM(s t:ByteArray)(w:World)(hE:Env w)(hs:s.size<=140737488355328)(ht:t.size<=140737488355328):
 Calls prog 136 #[.string s,.string t] w (C4 (val s+val t) s t w):=by
 have hc:Calls prog 129 #[.string s,.string t,.func (.func 165) #[] #[]] w (C4 (val s+val t) s t w):=by
  cases h1:isN s with
  |false=>exact C5 _ _ s t w hs ht (.inl h1)
  |true=>
   cases h2:isN t with
   |false=>exact C5 _ _ s t w hs ht (.inr h2)
   |true=>exact OQ s t w hE h1 h2
 go_enter func136,ntmps136
 go_wp2_with (go_at_call 129;refine hc.q fun w1 d=>?_)
 go_ret2;exact⟨rfl,d⟩
theorem TN(s t:ByteArray)(w:World)(hE:Env w)(hs:s.size<=140737488355328)(ht:t.size<=140737488355328):
 Calls prog 100 #[.string s,.string t] w (C4 (val s*val t) s t w):=by
 have hc:Calls prog 129 #[.string s,.string t,.func (.func 134) #[] #[]] w (C4 (val s*val t) s t w):=by
  cases h1:isN s with
  |false=>exact C5 _ _ s t w hs ht (.inl h1)
  |true=>
   cases h2:isN t with
   |false=>exact C5 _ _ s t w hs ht (.inr h2)
   |true=>exact OS s t w hE h1 h2
 go_enter func100,ntmps100
 go_wp2_with (go_at_call 129;refine hc.q fun w1 d=>?_)
 go_ret2;exact⟨rfl,d⟩
theorem TO(s t:ByteArray)(w:World)(hE:Env w)(hs:s.size<=140737488355328)(ht:t.size<=140737488355328):
 Calls prog 98 #[.string s,.string t] w (C4 (Nat.gcd (val s) (val t)) s t w):=by
 have hc:Calls prog 129 #[.string s,.string t,.func (.func 130) #[] #[]] w (C4 (Nat.gcd (val s) (val t)) s t w):=by
  cases h1:isN s with
  |false=>exact C5 _ _ s t w hs ht (.inl h1)
  |true=>
   cases h2:isN t with
   |false=>exact C5 _ _ s t w hs ht (.inr h2)
   |true=>exact OT s t w hE h1 h2
 go_enter func98,ntmps98
 go_wp2_with (go_at_call 129;refine hc.q fun w1 d=>?_)
 go_ret2;exact⟨rfl,d⟩
def FO(s t:ByteArray):Int:=if isN s=true/\isN t=true then BG (val s) (val t) else 0
def FP(s t:ByteArray):Int:=if isN s=true/\isN t=true then 0 else 1
theorem GL(s t:ByteArray)(w:World)(hE:Env w)(hs:s.size<=140737488355328)(ht:t.size<=140737488355328):
 Calls prog 137 #[.string s,.string t] w fun e w'=>e=.returned (.tuple #[.int .i64 (FO s t),.int .i64 (FP s t)])/\Below w.heap.size w w':=by
 have c1:=B4 s w (by omega);replace hE:=zh hE
 cases h1:isN s with
 |false=>
  have HG:Hid (FO s t=0/\FP s t=1):=by unfold Hid FO FP;simp[h1]
  rw[h1]at c1;clear h1;go_enter func137,ntmps137
  go_wp2_with (go_at_call 128;refine c1.q fun w1 aa=>?_)
  go_ret2;exact⟨by rw[HG.o.1,HG.o.2];rfl,aa⟩
 |true=>
  cases h2:isN t with
  |false=>
   have HG:Hid (FO s t=0/\FP s t=1):=by unfold Hid FO FP;simp[h2]
   rw[h1]at c1;have H2:=zh h2;clear h1 h2;go_enter func137,ntmps137
   go_wp2_with fail
   refine c1.q fun w1 aa=>?_;replace aa:=zh aa
   go_wp2_with fail
   have c2:=B4 t w1 (by omega);rw[H2.o]at c2;refine c2.q fun w2 h=>?_;replace h:=zh h;go_wp2;go_ret2;exact⟨by rw[HG.o.1,HG.o.2];rfl,aa.o.trans (h.o.mono aa.o.size)⟩
  |true=>
   have HG:Hid (FO s t=BG (val s) (val t)/\FP s t=0):=by unfold Hid FO FP;simp[h1,h2]
   rw[h1]at c1;have H1:=zh h1;have H2:=zh h2;clear h1 h2;go_enter func137,ntmps137
   go_wp2_with fail
   refine c1.q fun w1 aa=>?_;have ab:=zh aa;clear aa
   go_wp2_with fail
   have c2:=B4 t w1 (by omega);rw[H2.o]at c2;refine c2.q fun w2 h=>?_;have d:=ab.t h;clear h c1 c2 ab
   go_wp2_with fail
   refine(Bt s w2 H1.o).mono ?_;rintro e w3 ⟨v1,rfl,ae,_,ag⟩;have ad:=d.t ag;replace ae:=zh ae;clear ag d
   go_wp2_with fail
   refine(Bt t w3 H2.o).mono ?_;rintro e w4 ⟨v2,rfl,af,_,h⟩;have d:=ad.t h;replace h:=zh h;replace af:=zh af;clear ad
   go_wp2_with fail
   refine(E5 w4 v1 v2 (val s) (val t) (ae.o.below h.o) af.o (B7 (B6 H1.o)) (by have:=d.o.size;have:=hE.o.pos;omega)).q fun w5 ah=>?_;have ai:=d.t ah;clear ah d h ae af;go_wp2;go_ret2;exact⟨by rw[HG.o.1,HG.o.2];rfl,ai.o⟩
def IN(s t:ByteArray):ByteArray:=if isN s=true/\isN t=true/\val t<=val s then num (val s-val t) else ⟨#[]⟩
def IOq(s t:ByteArray):Int:=if isN s=true/\isN t=true then (if val t<=val s then 0 else 10) else 1
theorem TP(s t:ByteArray)(w:World)(hE:Env w)(hs:s.size<=140737488355328)(ht:t.size<=140737488355328):
 Calls prog 138 #[.string s,.string t] w fun e w'=>e=.returned (.tuple #[.string (IN s t),.int .i64 (IOq s t)])/\Below w.heap.size w w':=by
 have cc:=GL s t w hE hs ht
 by_cases hg:isN s=true/\isN t=true
 .have e1:FO s t=BG (val s) (val t):=by unfold FO;rw[zD hg]
  have e2:FP s t=0:=by unfold FP;rw[zD hg]
  rw[e1,e2]at cc
  by_cases hle:val t<=val s
  .have HG:Hid (IN s t=Kb (val s-val t)/\IOq s t=Kc (val s-val t)):=by
    have:=B6 hg.1;unfold Hid IN IOq Kb Kc;rw[zD ⟨hg.1,hg.2,hle⟩,zD hg,zD hle,zD (by omega),zD (by omega)];exact⟨rfl,rfl⟩
   have hc:¬BG (val s) (val t)<0:=by unfold BG;rw[zC (by omega)];split<;>omega
   have HO:=zh (EX (k:=val s-val t) hg.1 hg.2);have ha:Hid (∀w1,Env w1->Calls prog 129 #[.string s,.string t,.func (.func 159) #[] #[]] w1 (C4 (val s-val t) s t w1)):=fun w1 h=>OR s t w1 h hg.1 hg.2 hle;replace hE:=zh hE;generalize BG (val s) (val t)=c at cc hc;clear e1 e2 hg hle;go_enter func138,ntmps138
   go_wp2_with (first
    |(go_at_call 137;refine cc.q fun w1 d=>?_;replace d:=zh d)
    |(go_at_call 129;refine(ha.o _ (by exact hE.o.below d.o)).q fun w2 aa=>?_;replace aa:=zh aa))
   go_ret2;exact⟨by rw[HG.o.1,HG.o.2];exact congrArg Ending.returned (by simp[HO.o.1,HO.o.2]),d.o.trans (aa.o.mono d.o.size)⟩
  have HG:Hid (IN s t=⟨#[]⟩/\IOq s t=10):=by
   unfold Hid IN IOq;rw[zC (fun h=>hle h.2.2),zD hg,zC hle];exact⟨rfl,rfl⟩
  rw[Ed (by omega)]at cc;replace hE:=zh hE;clear e1 e2 hg hle;go_enter func138,ntmps138
  go_wp2_with (go_at_call 137;refine cc.q fun w1 d=>?_;replace d:=zh d)
  go_ret2;exact⟨by rw[HG.o.1,HG.o.2];rfl,d.o⟩
 have e1:FO s t=0:=by unfold FO;rw[zC hg]
 have e2:FP s t=1:=by unfold FP;rw[zC hg]
 rw[e1,e2]at cc
 have ab:isN s=false\/isN t=false:=by
  cases h1:isN s with
  |false=>exact .inl rfl
  |true=>right;cases h2:isN t with
   |false=>rfl
   |true=>exact absurd ⟨h1,h2⟩ hg
 have HG:Hid (IN s t=⟨#[]⟩/\IOq s t=1):=by
  unfold Hid IN IOq;rw[zC (fun h=>hg ⟨h.1,h.2.1⟩),zC hg];exact⟨rfl,rfl⟩
 have HO:=zh (Ke (k:=0) ab);have ha:Hid (∀w1,Calls prog 129 #[.string s,.string t,.func (.func 159) #[] #[]] w1 (C4 0 s t w1)):=fun w1=>C5 _ _ s t w1 hs ht ab;replace hE:=zh hE;clear e1 e2 hg ab;go_enter func138,ntmps138
 go_wp2_with (first
  |(go_at_call 137;refine cc.q fun w1 d=>?_;replace d:=zh d)
  |(go_at_call 129;refine(ha.o _).q fun w2 aa=>?_;replace aa:=zh aa))
 go_ret2;exact⟨by rw[HG.o.1,HG.o.2];exact congrArg Ending.returned (by simp[HO.o.1,HO.o.2]),d.o.trans (aa.o.mono d.o.size)⟩
def Hc(s t:ByteArray):ByteArray:=if isN s=true/\isN t=true/\val t≠0 then num (val s/val t) else ⟨#[]⟩
def He(s t:ByteArray):ByteArray:=if isN s=true/\isN t=true/\val t≠0 then num (val s%val t) else ⟨#[]⟩
def Hf(s t:ByteArray):Int:=if isN s=true/\isN t=true then (if val t=0 then 15 else 0) else 1
def TQ(s t:ByteArray)(w:World)(e:Ending)(w':World):Prop:=e=.returned (.tuple #[.string (Hc s t),.string (He s t),.int .i64 (Hf s t)])/\Below w.heap.size w w'
theorem Lg{t:ByteArray}(h:isN t=true):t.toList=[48]<->val t=0:=by
 obtain⟨n,_,rfl⟩:=Cc h;rw[Bl,yP];constructor
 .intro e;have h:=Bl n;unfold val at h;rw[e]at h;rw[<-h];rfl
 intro e;subst e
 show Lib.decDigits 0=[48]
 rw[vQ (by omega)];rfl
theorem TR(s t:ByteArray)(w:World)(hE:Env w)(hs:s.size<=140737488355328)(ht:t.size<=140737488355328):
 Calls prog 99 #[.string s,.string t] w (TQ s t w):=by
 have c1:=B4 s w (by omega);replace hE:=zh hE
 cases h1:isN s with
 |false=>
  have HG:Hid (Hc s t=⟨#[]⟩/\He s t=⟨#[]⟩/\Hf s t=1):=by unfold Hid Hc He Hf;simp[h1]
  rw[h1]at c1;clear h1;go_enter func99,ntmps99
  go_wp2_with (go_at_call 128;refine c1.q fun w1 aa=>?_)
  go_ret3
  exact⟨by rw[HG.o.1,HG.o.2.1,HG.o.2.2];rfl,aa⟩
 |true=>
  cases h2:isN t with
  |false=>
   have HG:Hid (Hc s t=⟨#[]⟩/\He s t=⟨#[]⟩/\Hf s t=1):=by unfold Hid Hc He Hf;simp[h2]
   rw[h1]at c1;have H2:=zh h2;clear h1 h2;go_enter func99,ntmps99
   go_wp2_with fail
   refine c1.q fun w1 aa=>?_;replace aa:=zh aa
   go_wp2_with fail
   have c2:=B4 t w1 (by omega);rw[H2.o]at c2;refine c2.q fun w2 d=>?_;replace d:=zh d;go_wp2
   go_ret3
   exact⟨by rw[HG.o.1,HG.o.2.1,HG.o.2.2];rfl,aa.o.trans (d.o.mono aa.o.size)⟩
  |true=>
   rw[h1]at c1;have H1:=zh h1;have H2:=zh h2
   by_cases hz:val t=0
   .have HG:Hid (Hc s t=⟨#[]⟩/\He s t=⟨#[]⟩/\Hf s t=15):=by unfold Hid Hc He Hf;simp[h1,h2,hz]
    have hb:(t.toList==[48])=true:=by rw[yw];exact(Lg h2).2 hz
    clear h1 h2 hz;go_enter func99,ntmps99
    go_wp2_with fail
    refine c1.q fun w1 aa=>?_;replace aa:=zh aa
    go_wp2_with fail
    have c2:=B4 t w1 (by omega);rw[H2.o]at c2;refine c2.q fun w2 d=>?_;replace d:=zh d;go_wp2
    go_ret3
    exact⟨by rw[HG.o.1,HG.o.2.1,HG.o.2.2];rfl,aa.o.trans (d.o.mono aa.o.size)⟩
   have hq:val s/val t<Lim:=yA (wR _ _) (B6 h1);have hr:val s%val t<Lim:=yA (Nat.mod_le _ _) (B6 h1);have HG:Hid (Hc s t=num (val s/val t)/\He s t=num (val s%val t)/\Hf s t=0):=by unfold Hid Hc He Hf;simp[h1,h2,hz]
   have HL:Hid (CS (Lib.decDigits (val s/val t))=.tuple #[.string (num (val s/val t)),.int .i64 0]/\CS (Lib.decDigits (val s%val t))=.tuple #[.string (num (val s%val t)),.int .i64 0]):=by
    unfold Hid;rw[C3,C3];unfold Kb Kc;rw[zD hq,zD hr,zD hq,zD hr];exact⟨rfl,rfl⟩
   have hb:(t.toList==[48])=false:=by rw[zP];exact fun h=>hz ((Lg h2).1 h)
   replace hz:=zh hz;replace hq:=zh hq;replace hr:=zh hr;clear h1 h2;go_enter func99,ntmps99
   go_wp2_with fail
   refine c1.q fun w1 aa=>?_;have ag:=zh aa;clear aa
   go_wp2_with fail
   have c2:=B4 t w1 (by omega);rw[H2.o]at c2;refine c2.q fun w2 d=>?_;have ab:=ag.t d;clear d c1 c2 ag
   go_wp2_with fail
   refine(Bt s w2 H1.o).mono ?_;rintro e w3 ⟨v1,rfl,ai,_,am⟩;have ah:=ab.t am;replace ai:=zh ai;clear am ab
   go_wp2_with fail
   refine(Bt t w3 H2.o).mono ?_;rintro e w4 ⟨v2,rfl,aj,_,d⟩;have ab:=ah.t d;replace d:=zh d;replace aj:=zh aj;clear ah
   go_wp2_with fail
   refine(NT w4 v1 v2 (val s) (val t) (ai.o.below d.o) aj.o (B7 (B6 H1.o)) (Mr (B6 H2.o)) (Nat.pos_of_ne_zero hz.o) (by have:=ab.o.size;have:=hE.o.pos;omega)).mono ?_;rintro e w5 ⟨⟨q,r,rfl,ak,al⟩,an⟩;have ad:=ab.t an;replace ak:=zh ak;replace al:=zh al;clear an ab d ai aj
   go_wp2_with fail
   refine(DH w5 q _ ak.o (B7 hq.o) (hE.o.below ad.o)).q fun w6 af=>?_;rw[HL.o.1];have ae:=ad.t af;replace af:=zh af;clear ad
   go_wp2_with fail
   refine(DH w6 r _ (al.o.below af.o) (B7 hr.o) (hE.o.below ae.o)).q fun w7 ao=>?_;rw[HL.o.2];have ap:=ae.t ao;clear ao af ae;go_wp2
   go_ret3
   exact⟨by rw[HG.o.1,HG.o.2.1,HG.o.2.2];rfl,ap.o⟩
theorem TS:∀(l:List UInt8)(a:Nat),(∀c∈l,CG c)->a<18446744073709551616->Lib.parseUint10 a l=if a*10^l.length+AO l<18446744073709551616 then .ok (a*10^l.length+AO l) else .range:=by
 intro l
 induction l with
 |nil=>
  intro a _ ha;simp only[Lib.parseUint10,ye,Nat.pow_zero,Nat.mul_one,FM,ya];rw[zD ha]
 |cons c l ih=>
  intro a h ha;have h1:=h c (by simp);have hp:1<=10^l.length:=vG (by omega)
  have e:a*10^(c::l).length+AO (c::l)=(a*10+(c.toNat-48))*10^l.length+AO l:=by
   rw[DF,zZ,yY,yS,yf a 10,yN 10];omega
  rw[e];have aa:a*10+(c.toNat-48)<=(a*10+(c.toNat-48))*10^l.length:=vJ _ hp;rw[Lib.parseUint10,zD (show 48<=c.toNat/\c.toNat<=57 from h1)]
  by_cases c1:1844674407370955162<=a
  .rw[zD c1,zC (by omega)]
  rw[zC c1]
  by_cases c2:18446744073709551616<=a*10+(c.toNat-48)
  .rw[zD c2,zC (by omega)]
  rw[zC c2];exact ih _ (fun d hd=>h d (by simp[hd])) (by omega)
theorem QW(n:Nat):Lib.atoiAll (num n).data.toList=if n<=9223372036854775807 then .ok (n:Int) else .range:=by
 have hd:=BI n;have hv:=AK n
 show Lib.atoiAll (Lib.decDigits n)=_
 cases hl:Lib.decDigits n with
 |nil=>exact absurd hl (BF n)
 |cons c r=>
  rw[hl]at hd hv;have h1:=hd c (by simp);have h2:=h1.1;have hp:=TS (c::r) 0 hd (by omega);rw[xv,yE,hv]at hp;unfold Lib.atoiAll;simp only[Lib.parseMag];have d:¬c.toNat=45:=by omega
  have h:¬(c.toNat=43\/c.toNat=45):=by omega
  rw[zC h,zC (by simp),hp]
  by_cases hle:n<=9223372036854775807
  .rw[zD (by omega),zD hle];simp only[d];rw[zC (by omega),zC (by simp),zC (by simp)]
  rw[zC hle]
  by_cases h64:n<18446744073709551616
  .rw[zD h64];simp only[d];rw[zD ⟨by simp,by omega⟩]
  rw[zC h64]
theorem NV(l:List UInt8)(n:Nat)(h:TH l=true)(hv:AO l=n):num n=⟨l.toArray⟩:=by
 have:=NU (s:=⟨l.toArray⟩) h;rw[<-this];exact congrArg num hv.symm
def T:Option Nat->ByteArray|some n=>num n|none=>⟨#[]⟩
def Ok(x:Option Nat):Prop:=∀n,x=some n->n<Lim
def Mt(k:Nat):Option Nat:=if k<Lim then some k else none
def apO(f:Nat->Nat->Nat):Option Nat->Option Nat->Option Nat|some a,some b=>Mt (f a b)|_,_=>none
def apE(f:Nat->Nat->Nat):Option Nat->Option Nat->Int|some a,some b=>if f a b<Lim then 0 else 2|_,_=>1
def V6(x y:Option Nat):Option Nat:=apO (·+·) x y
def V7(x y:Option Nat):Int:=apE (·+·) x y
def V8(x y:Option Nat):Option Nat:=apO (·*·) x y
def V9(x y:Option Nat):Int:=apE (·*·) x y
def QX(x y:Option Nat):Option Nat:=apO Nat.gcd x y
def QY(x y:Option Nat):Int:=apE Nat.gcd x y
def TT:Option Nat->Option Nat->Option Nat|some a,some b=>if b<=a then some (a-b) else none|_,_=>none
def TU:Option Nat->Option Nat->Int|some a,some b=>if b<=a then 0 else 10|_,_=>1
def TV:Option Nat->Option Nat->Option Nat|some a,some b=>if b=0 then none else some (a/b)|_,_=>none
def WM:Option Nat->Option Nat->Option Nat|some a,some b=>if b=0 then none else some (a%b)|_,_=>none
def TW:Option Nat->Option Nat->Int|some _,some b=>if b=0 then 15 else 0|_,_=>1
def QZ:Option Nat->Option Nat->Int|some a,some b=>BG a b|_,_=>0
def TX:Option Nat->Option Nat->Int|some _,some _=>0|_,_=>1
theorem At{n:Nat}(h:n<Lim):Ok (some n):=fun _ e=>by cases e;exact h
theorem Fs{x:Option Nat}(h:Ok x):isN (T x)=x.isSome:=by
 cases x with
 |none=>rfl
 |some n=>exact JW (h n rfl)
theorem C6{x:Option Nat}(h:Ok x):(T x).size<=140737488355328:=by
 cases x with
 |none=>exact zQ _
 |some n=>
  have h1:isN (T (some n))=true:=Fs h;have h2:=((DG _).1 h1).2.1;have h3:(T (some n)).size=(T (some n)).data.toList.length:=Lib.size_eq _;omega
theorem OU(x:Option Nat)(h:Ok x)(w:World):Calls prog 128 #[.string (T x)] w fun e w'=>e=.returned (.bool x.isSome)/\Below w.heap.size w w':=by
 have:=B4 (T x) w (by have:=C6 h;omega)
 rwa [Fs h]at this
theorem Ra(f:Nat->Nat->Nat){x y:Option Nat}(hx:Ok x)(hy:Ok y):opS (f (val (T x)) (val (T y))) (T x) (T y)=T (apO f x y)/\opE (f (val (T x)) (val (T y))) (T x) (T y)=apE f x y:=by
 cases x with
 |none=>exact Ke (.inl rfl)
 |some a=>
  cases y with
  |none=>exact Ke (.inr rfl)
  |some b=>
   have h:=EX (k:=f (val (T (some a))) (val (T (some b)))) (Fs hx) (Fs hy);have ha:val (T (some a))=a:=Bl a;have hb:val (T (some b))=b:=Bl b;rw[ha,hb]at h ⊢;rw[h.1,h.2]
   show Kb (f a b)=T (Mt (f a b))/\Kc (f a b)=if f a b<Lim then 0 else 2
   unfold Mt Kb Kc
   by_cases hl:f a b<Lim
   .rw[zD hl,zD hl,zD hl];exact⟨rfl,rfl⟩
   rw[zC hl,zC hl,zC hl];exact⟨rfl,rfl⟩
theorem X9(x y:Option Nat)(w:World)(hE:Env w)(hx:Ok x)(hy:Ok y):Calls prog 136 #[.string (T x),.string (T y)] w fun e w'=>e=.returned (.tuple #[.string (T (V6 x y)),.int .i64 (V7 x y)])/\Below w.heap.size w w':=by
 refine(TM (T x) (T y) w hE (C6 hx) (C6 hy)).q fun w' hb=>?_;have:=Ra (·+·) hx hy;exact⟨by rw[this.1,this.2];rfl,hb⟩
theorem XA(x y:Option Nat)(w:World)(hE:Env w)(hx:Ok x)(hy:Ok y):Calls prog 100 #[.string (T x),.string (T y)] w fun e w'=>e=.returned (.tuple #[.string (T (V8 x y)),.int .i64 (V9 x y)])/\Below w.heap.size w w':=by
 refine(TN (T x) (T y) w hE (C6 hx) (C6 hy)).q fun w' hb=>?_;have:=Ra (·*·) hx hy;exact⟨by rw[this.1,this.2];rfl,hb⟩
theorem TY(x y:Option Nat)(w:World)(hE:Env w)(hx:Ok x)(hy:Ok y):Calls prog 98 #[.string (T x),.string (T y)] w fun e w'=>e=.returned (.tuple #[.string (T (QX x y)),.int .i64 (QY x y)])/\Below w.heap.size w w':=by
 refine(TO (T x) (T y) w hE (C6 hx) (C6 hy)).q fun w' hb=>?_;have:=Ra Nat.gcd hx hy;exact⟨by rw[this.1,this.2];rfl,hb⟩
theorem WN(x y:Option Nat)(w:World)(hE:Env w)(hx:Ok x)(hy:Ok y):Calls prog 138 #[.string (T x),.string (T y)] w fun e w'=>e=.returned (.tuple #[.string (T (TT x y)),.int .i64 (TU x y)])/\Below w.heap.size w w':=by
 refine(TP (T x) (T y) w hE (C6 hx) (C6 hy)).q fun w' hb=>?_;refine⟨?_,hb⟩;have h1:=Fs hx;have h2:=Fs hy
 cases x with
 |none=>unfold IN IOq;rw[h1];rfl
 |some a=>
  cases y with
  |none=>unfold IN IOq;rw[h2];simp;exact⟨rfl,rfl⟩
  |some b=>
   have ha:val (T (some a))=a:=Bl a;have hb:val (T (some b))=b:=Bl b;unfold IN IOq TT TU;rw[h1,h2,ha,hb]
   by_cases h:b<=a
   .simp[h,T]
   simp[h,T]
theorem OV(x y:Option Nat)(w:World)(hE:Env w)(hx:Ok x)(hy:Ok y):Calls prog 99 #[.string (T x),.string (T y)] w fun e w'=>e=.returned (.tuple #[.string (T (TV x y)),.string (T (WM x y)),.int .i64 (TW x y)])/\Below w.heap.size w w':=by
 refine(TR (T x) (T y) w hE (C6 hx) (C6 hy)).q fun w' hb=>?_;refine⟨?_,hb⟩;have h1:=Fs hx;have h2:=Fs hy
 cases x with
 |none=>unfold Hc He Hf;rw[h1];rfl
 |some a=>
  cases y with
  |none=>unfold Hc He Hf;rw[h2];simp;exact⟨rfl,rfl,rfl⟩
  |some b=>
   have ha:val (T (some a))=a:=Bl a;have hb:val (T (some b))=b:=Bl b;unfold Hc He Hf TV WM TW;rw[h1,h2,ha,hb]
   by_cases h:b=0
   .simp[h,T]
   simp[h,T]
theorem WO(x y:Option Nat)(w:World)(hE:Env w)(hx:Ok x)(hy:Ok y):Calls prog 137 #[.string (T x),.string (T y)] w fun e w'=>e=.returned (.tuple #[.int .i64 (QZ x y),.int .i64 (TX x y)])/\Below w.heap.size w w':=by
 refine(GL (T x) (T y) w hE (C6 hx) (C6 hy)).q fun w' hb=>?_;refine⟨?_,hb⟩;have h1:=Fs hx;have h2:=Fs hy
 cases x with
 |none=>unfold FO FP;rw[h1];rfl
 |some a=>
  cases y with
  |none=>unfold FO FP;rw[h2];simp;exact⟨rfl,rfl⟩
  |some b=>
   have ha:val (T (some a))=a:=Bl a;have hb:val (T (some b))=b:=Bl b;unfold FO FP QZ TX;rw[h1,h2,ha,hb];simp
theorem Rb:T (some 0)=⟨#[48]⟩:=NV [48] 0 (by decide) (by decide)
theorem Rc:(T (some 0)).toList=[48]:=by rw[Rb,yP]
theorem Kf{a b:Nat}(ha:a<Lim)(hb:b<Lim):Nat.gcd a b<Lim:=by
 rcases xK a with rfl|h
 .rwa [Nat.gcd_zero_left]
 exact yA (Nat.gcd_le_left b h) ha
theorem Vh:T (some 1)=⟨#[49]⟩:=NV [49] 1 (by decide) (by decide)
def sg(g:Bool)(a:Nat):Int:=if g then -(a:Int) else a
theorem BJ(g:Bool)(a:Nat):(sg g a).natAbs=a:=by cases g<;>simp[sg]
theorem Rd(g:Bool)(a:Nat):decide (sg g a<0)=(g&&!decide (a=0)):=by
 rw[xX]
 cases g
 .simp[sg]
 simp[sg];omega
theorem Cb(z:Int):sg (decide (z<0)) z.natAbs=z:=by
 unfold sg
 by_cases h:z<0
 .simp[h];omega
 simp[h];omega
theorem Re(g h:Bool)(a b:Nat):sg g a*sg h b=sg (g != h) (a*b):=by
 cases g<;>cases h<;>simp[sg,Int.neg_mul,Int.mul_neg]
theorem Mu(g:Bool)(a b:Nat)(hb:b≠0):(mkRat (sg g a) b).num=sg g (a/Nat.gcd a b):=by
 rw[Rat.num_mkRat,zC hb,BJ,Nat.gcd_comm]
 cases g
 .simp[sg]
 simp only[sg,wm];rw[Int.neg_ediv_of_dvd (Int.ofNat_dvd.2 (Nat.gcd_dvd_left a b)),vU]
theorem Mv(g:Bool)(a b:Nat)(hb:b≠0):(mkRat (sg g a) b).den=b/Nat.gcd a b:=by
 rw[Rat.den_mkRat,zC hb,BJ,Nat.gcd_comm]
def qv(q:Rat):Value:=.agg #[.bool (decide (q.num<0)),.string (T (some q.num.natAbs)),.string (T (some q.den))]
def zv:Value:=.agg #[.bool false,.string ⟨#[]⟩,.string ⟨#[]⟩]
def OkQ(q:Rat):Prop:=q.num.natAbs<Lim/\q.den<Lim
theorem WP(g:Bool)(a b:Nat)(hb:b≠0):qv (mkRat (sg g a) b)=.agg #[.bool (g&&!decide (a/Nat.gcd a b=0)),.string (T (some (a/Nat.gcd a b))),.string (T (some (b/Nat.gcd a b)))]:=by
 unfold qv;rw[Mu g a b hb,Mv g a b hb,Rd,BJ]
def A5(g:Bool)(n d:ByteArray):Bool :=
 isN n&&(isN d&&(!decide (val d=0)&&(if val n=0 then !g&&decide (val d=1) else decide (Nat.gcd (val n) (val d)=1))))
theorem Gw(g:Bool)(a b:Nat)(ha:a<Lim)(hb:b<Lim):A5 g (num a) (num b)=(!decide (b=0)&&(if a=0 then !g&&decide (b=1) else decide (Nat.gcd a b=1))):=by
 unfold A5;rw[JW ha,JW hb,Bl,Bl,vD,vD]
theorem AP{q:Rat}(h:OkQ q):A5 (decide (q.num<0)) (T (some q.num.natAbs)) (T (some q.den))=true:=by
 show A5 _ (num _) (num _)=true
 rw[Gw _ _ _ h.1 h.2];have hd:=q.den_nz;have hr:Nat.gcd q.num.natAbs q.den=1:=q.reduced
 by_cases h0:q.num.natAbs=0
 .rw[h0,Nat.gcd_zero_left]at hr;have:¬q.num<0:=by omega
  simp[h0,hr,this]
 simp[h0,hd,hr]
theorem H4{g:Bool}{n d:ByteArray}(h:A5 g n d=true):∃q:Rat,OkQ q/\g=decide (q.num<0)/\n=T (some q.num.natAbs)/\d=T (some q.den):=by
 have h1:isN n=true:=by unfold A5 at h;simp only[zq]at h;exact h.1
 have h2:isN d=true:=by unfold A5 at h;simp only[zq]at h;exact h.2.1
 obtain⟨a,ha,rfl⟩:=Cc h1;obtain⟨b,hb,rfl⟩:=Cc h2;rw[Gw g a b ha hb]at h;simp only[zq,Bool.not_eq_true',zM]at h;obtain⟨ab,h3⟩:=h
 have aa:Nat.gcd a b=1:=by
  by_cases h0:a=0
  .rw[zD h0]at h3;simp at h3;rw[h0,h3.2];rfl
  rw[zC h0]at h3
  simpa using h3
 have hg:g=decide (sg g a<0):=by
  rw[Rd]
  by_cases h0:a=0
  .rw[zD h0]at h3;simp at h3;rw[h3.1];rfl
  simp[h0]
 refine⟨⟨sg g a,b,ab,by rw[BJ];exact aa⟩,⟨by show (sg g a).natAbs<Lim;rw[BJ];exact ha,hb⟩,hg,?_,rfl⟩
 show num a=num (sg g a).natAbs
 rw[BJ]
@[irreducible] def mx1:Nat:=140
theorem E6:mx1=140:=by unfold mx1;rfl
def L1:Nat:=10^mx1
theorem Hn(n:Nat):(num n).size<=140<->n<L1:=by
 have:=D2 n mx1 (by rw[E6];omega);have e:(num n).size=(Lib.decDigits n).length:=by simp[num,ByteArray.size]
 rw[e,<-E6];exact this
theorem VA:1<=L1:=vG (by omega)
theorem Jf:2*(L1*L1)<Lim:=by
 have e:L1*L1=10^(mx1+mx1):=by unfold L1;rw[wF]
 have h:10^(mx1+mx1+1)<=Lim:=by
  unfold Lim;exact zi (by omega) (by rw[E6,E3];omega)
 rw[yY]at h;rw[e];have h2:0<10^(mx1+mx1):=vG (by omega);omega
theorem C7{a b:Nat}(ha:a<L1)(hb:b<L1):a*b<L1*L1:=xj ha hb
theorem AH{a:Nat}(h:a<L1):a<Lim:=by
 have h1:=Jf;have h2:=VA;have h3:L1*1<=L1*L1:=xP _ h2;omega
def ShortQ(q:Rat):Prop:=q.num.natAbs<L1/\q.den<L1
instance (q:Rat):Decidable (ShortQ q):=inferInstanceAs (Decidable (_/\_))
theorem ShortQ.ok{q:Rat}(h:ShortQ q):OkQ q:=⟨AH h.1,AH h.2⟩
theorem Kg(p q:Rat):mkRat (p.num*q.den+q.num*p.den) (p.den*q.den)=p+q:=(Rat.add_def' p q).symm
theorem Rf{g:Bool}{x y:Nat}{p q:Rat}(hp:g=decide (p.num<0))(hq:g=decide (q.num<0))(hx:x=p.num.natAbs*q.den)(hy:y=q.num.natAbs*p.den):
 sg g (x+y)=p.num*q.den+q.num*p.den:=by
 rw[<-Cb p.num,<-Cb q.num,<-hp,<-hq,hx,hy]
 cases g
 .simp[sg]
 simp only[sg,wm,yr,xM,Int.neg_mul];omega
theorem Rh{g h:Bool}{x y:Nat}{p q:Rat}(hp:g=decide (p.num<0))(hq:h=decide (q.num<0))(hx:x=p.num.natAbs*q.den)(hy:y=q.num.natAbs*p.den)(d:g≠h)(hl:x<y):
 sg h (y-x)=p.num*q.den+q.num*p.den:=by
 rw[<-Cb p.num,<-Cb q.num,<-hp,<-hq];have e1:(x:Int)=(p.num.natAbs:Int)*(q.den:Int):=by rw[hx,xM]
 have e2:(y:Int)=(q.num.natAbs:Int)*(p.den:Int):=by rw[hy,xM]
 cases g<;>cases h<;>simp only[sg,wm,Bool.false_eq_true,if_false,Int.neg_mul,ne_eq,not_true_eq_false]at d ⊢
 all_goals omega
theorem Ri{g h:Bool}{x y:Nat}{p q:Rat}(hp:g=decide (p.num<0))(hq:h=decide (q.num<0))(hx:x=p.num.natAbs*q.den)(hy:y=q.num.natAbs*p.den)(d:g≠h)(hl:y<=x):
 sg g (x-y)=p.num*q.den+q.num*p.den:=by
 rw[<-Cb p.num,<-Cb q.num,<-hp,<-hq];have e1:(x:Int)=(p.num.natAbs:Int)*(q.den:Int):=by rw[hx,xM]
 have e2:(y:Int)=(q.num.natAbs:Int)*(p.den:Int):=by rw[hy,xM]
 cases g<;>cases h<;>simp only[sg,wm,Bool.false_eq_true,if_false,Int.neg_mul,ne_eq,not_true_eq_false]at d ⊢
 all_goals omega
theorem VB(p q:Rat):mkRat (sg (decide (p.num<0) != decide (q.num<0)) (p.num.natAbs*q.num.natAbs)) (p.den*q.den)=p*q:=by
 rw[<-Re,Cb,Cb,Rat.mul_def']
theorem Rj(p q:Rat):mkRat (sg (decide (p.num<0) != decide (q.num<0)) (p.num.natAbs*q.den)) (p.den*q.num.natAbs)=p/q:=by
 have hi:q⁻¹=mkRat (sg (decide (q.num<0)) q.den) q.num.natAbs:=by
  rw[Rat.inv_def];unfold sg
  by_cases hn:q.num<0
  .have e:q.num=-((q.num.natAbs:Nat):Int):=by omega
   rw[zG hn,zD rfl]
   conv=>lhs;rw[e]
   rw[Rat.divInt_neg',Rat.divInt_ofNat]
  have e:q.num=((q.num.natAbs:Nat):Int):=by omega
  rw[zH hn]
  conv=>lhs;rw[e]
  rw[Rat.divInt_ofNat];rfl
 have hp:p=mkRat (sg (decide (p.num<0)) p.num.natAbs) p.den:=by rw[Cb,Rat.mkRat_self]
 show _=p*q⁻¹
 rw[hi]
 conv=>rhs;rw[hp]
 rw[Rat.mkRat_mul_mkRat,Re]
end Nt
end
section
open Go.RowKit Go.Shelf
namespace Ci
open Nt
abbrev Lk:=Int×Int×Bool×ByteArray×ByteArray
def lkL(x:Lk):List Value:=[.int .i64 x.1,.int .i64 x.2.1,.bool x.2.2.1,.string x.2.2.2.1,.string x.2.2.2.2]
def InLk(W:World)(A:Option Addr)(l:List Lk):Prop :=
 0<l.length->∃b off,A=some ⟨b,off,none⟩/\b<W.heap.size/\∀j (h:j<l.length),W.cell? ⟨b,off+j*5,none⟩=some (.int .i64 l[j].1)/\W.cell? ⟨b,off+j*5+1,none⟩=some (.int .i64 l[j].2.1) /\
  W.cell? ⟨b,off+j*5+2,none⟩=some (.bool l[j].2.2.1)/\W.cell? ⟨b,off+j*5+3,none⟩=some (.string l[j].2.2.2.1)/\W.cell? ⟨b,off+j*5+4,none⟩=some (.string l[j].2.2.2.2)
def InStr(W:World)(A:Option Addr)(l:List ByteArray):Prop :=
 0<l.length->∃b off,A=some ⟨b,off,none⟩/\b<W.heap.size/\∀j (h:j<l.length),W.cell? ⟨b,off+j,none⟩=some (.string l[j])
def InInt(W:World)(A:Option Addr)(l:List Int):Prop :=
 0<l.length->∃b off,A=some ⟨b,off,none⟩/\b<W.heap.size/\∀j (h:j<l.length),W.cell? ⟨b,off+j,none⟩=some (.int .i64 l[j])
theorem InLk.below{W W':World}{A:Option Addr}{l:List Lk}(h:InLk W A l)(hb:Below W.heap.size W W'):InLk W' A l:=fun h0=>by
 obtain⟨b,off,e,hl,hc⟩:=h h0;refine⟨b,off,e,zJ hl hb.size,fun j hj=>?_⟩;obtain⟨c1,c2,c3,c4,c5⟩:=hc j hj;exact⟨(hb.cell (p:=⟨b,_,none⟩) hl).trans c1,(hb.cell (p:=⟨b,_,none⟩) hl).trans c2,(hb.cell (p:=⟨b,_,none⟩) hl).trans c3,(hb.cell (p:=⟨b,_,none⟩) hl).trans c4,(hb.cell (p:=⟨b,_,none⟩) hl).trans c5⟩
theorem InStr.below{W W':World}{A:Option Addr}{l:List ByteArray}(h:InStr W A l)(hb:Below W.heap.size W W'):InStr W' A l:=fun h0=>by
 obtain⟨b,off,e,hl,hc⟩:=h h0;exact⟨b,off,e,zJ hl hb.size,fun j hj=>(hb.cell (p:=⟨b,_,none⟩) hl).trans (hc j hj)⟩
theorem InInt.below{W W':World}{A:Option Addr}{l:List Int}(h:InInt W A l)(hb:Below W.heap.size W W'):InInt W' A l:=fun h0=>by
 obtain⟨b,off,e,hl,hc⟩:=h h0;exact⟨b,off,e,zJ hl hb.size,fun j hj=>(hb.cell (p:=⟨b,_,none⟩) hl).trans (hc j hj)⟩
def Be(i c:Nat):Prop:=(97<=c/\c<=122)\/(65<=c/\c<=90)\/(i≠0/\(c=95\/(48<=c/\c<=57)))
instance (i c:Nat):Decidable (Be i c):=inferInstanceAs (Decidable (_\/_))
def Ak(s:ByteArray):Bool:=decide (∀i (h:i<s.size),Be i s[i].toNat)&&(decide (0<s.size)&&decide (s.size<=24))
theorem Jg{s:ByteArray}{i:Nat}(h:i<s.size)(hb:¬Be i s[i].toNat):Ak s=false:=by
 unfold Ak;rw[zH fun hc=>hb (hc i h)];rfl
theorem Jh{s:ByteArray}(h:∀i (h:i<s.size),Be i s[i].toNat):Ak s=(decide (0<s.size)&&decide (s.size<=24)):=by
 unfold Ak;rw[zG h];rfl
abbrev Rw:=Bool×ByteArray×ByteArray
def unitsN(x:Rw):Nat :=
 if A5 x.1 x.2.1 x.2.2=false\/x.1=true\/4<x.2.1.size\/4<x.2.2.size then 0
 else if val x.2.2<val x.2.1\/6000%val x.2.2≠0 then 0 else val x.2.1*(6000/val x.2.2)
theorem H6(x:Rw):unitsN x<=6000:=by
 unfold unitsN
 split
 .omega
 split
 .omega
 rename_i h;have h1:val x.2.1<=val x.2.2:=by omega
 exact zS (yv _ h1) (Nat.mul_div_le _ _)
def lkP(x:Lk):Rw:=(x.2.2.1,x.2.2.2.1,x.2.2.2.2)
def sumU(l:List Lk)(c:Int):Nat:=((l.filter fun x=>decide (x.1=c)).map fun x=>unitsN (lkP x)).sum
def Rise(a b:Lk):Prop:=a.1<b.1\/(a.1=b.1/\a.2.1<b.2.1)
instance (a b:Lk):Decidable (Rise a b):=inferInstanceAs (Decidable (_\/_))
def Own(n:Nat)(x:Lk):Prop:=(0<=x.1/\x.1<n)/\(0<=x.2.1/\x.2.1<n)/\x.1≠x.2.1/\unitsN (lkP x)≠0
instance (n:Nat) (x:Lk):Decidable (Own n x):=inferInstanceAs (Decidable (_/\_))
def C8(n:Nat)(l:List Lk)(i:Nat)(h:i<l.length):Prop:=Own n l[i]/\(0<i->Rise (l[i-1]'(by omega)) l[i])/\sumU (l.take (i+1)) l[i].1<=6000
instance (n:Nat) (l:List Lk) (i:Nat) (h:i<l.length):Decidable (C8 n l i h):=inferInstanceAs (Decidable (_/\_))
def E7(n:Nat)(l:List Lk):Bool:=decide (∀i (h:i<l.length),C8 n l i h)
theorem Rk{n:Nat}{l:List Lk}{i:Nat}(h:i<l.length)(hb:¬C8 n l i h):E7 n l=false:=zH fun hc=>hb (hc i h)
theorem Rl{n:Nat}{l:List Lk}(h:∀i (h:i<l.length),C8 n l i h):E7 n l=true:=zG h
theorem D4{n:Nat}{l:List Lk}(h:E7 n l=true){i:Nat}(hi:i<l.length):C8 n l i hi:=zL h i hi
structure SR where
 ps:List ByteArray
 cap:List Lk
 vot:List Lk
def Kh(a b:ByteArray):Bool:=Op.bytesLess a.toList b.toList||a.toList==b.toList
def BV(l:List ByteArray)(i:Nat)(h:i<l.length):Prop:=Ak l[i]=true/\(0<i->Kh l[i] (l[i-1]'(by omega))=false)
instance (l:List ByteArray) (i:Nat) (h:i<l.length):Decidable (BV l i h):=inferInstanceAs (Decidable (_/\_))
def E8(l:List ByteArray):Bool:=decide (∀i (h:i<l.length),BV l i h)
theorem Ji{l:List ByteArray}{i:Nat}(h:i<l.length)(hb:¬BV l i h):E8 l=false:=zH fun hc=>hb (hc i h)
theorem Jj{l:List ByteArray}(h:∀i (h:i<l.length),BV l i h):E8 l=true:=zG h
def Ao(s:SR):Bool:=E8 s.ps&&(decide (s.ps.length<=60)&&(E7 s.ps.length s.cap&&E7 s.ps.length s.vot))
def Ag(s:SR):List (Nat×Nat):=s.cap.map fun x=>(x.2.1.toNat,x.1.toNat)
theorem Lh{s:SR}(h:Ao s=true):InN s.ps.length (Ag s):=fun x hx=>by
 unfold Ao at h;simp only[zq]at h;obtain⟨_,_,h2,_⟩:=h;obtain⟨y,hy,rfl⟩:=List.mem_map.1 hx;obtain⟨i,hi,rfl⟩:=zg hy;obtain⟨⟨a,b,_⟩,_⟩:=D4 h2 hi
 show _<_/\_<_
 simp only[];omega
end Ci
end
section
open Go.ChangeShapes Go.WideShapes Go.ChangeAt Go.RowKit Go.Shelf
namespace Nt
def Li:List (String×DataW Unit):=Rows.topBoundsRow.laid
theorem VC:(prog.globals[2]?).map (·.type)=some 280:=by kernel_rfl
theorem VD:(prog.globals[0]?).map (·.type)=some 174:=by kernel_rfl
theorem VE:(prog.globals[1]?).map (·.type)=some 174:=by kernel_rfl
theorem OW:prog.cellsOf 202=1:=by kernel_rfl
theorem OX:prog.cellsOf 280=20:=by kernel_rfl
theorem Jk:prog.cellsOf 9=1:=by kernel_rfl
theorem Lj:prog.cellsOf 289=1:=by kernel_rfl
theorem WQ:"*"++"errors.errorString"="*errors.errorString" := by decide
theorem Rm(u:TypeId)(h:prog.typeName? 3 u=some "*errors.errorString"):u=287 :=
 typeName_ptr_named (nm := "errors.errorString") (by rw[WQ]; kernel_rfl) (by kernel_rfl) (by decide) u (by rw[WQ]; exact h)
theorem VF{W:World}(h:laidMetH prog Li W):Env W:=by
 have h0:=(laidMetH_iff.1 h).1
 have hT:laidMet prog [("internal/strconv.uint64pow10", Lib.tabData .u64 Lib.pow10Tab)] W := by
  have := h0.filter (fun x=>x.1=="internal/strconv.uint64pow10")
  rwa [show (Li.filter fun x=>x.2.handleName?.isNone).filter (fun x=>x.1=="internal/strconv.uint64pow10")=[("internal/strconv.uint64pow10", Lib.tabData .u64 Lib.pow10Tab)] by kernel_rfl]at this
 have hS:laidMet prog [("strconv.ErrSyntax", .iface "*errors.errorString" (.ptr (.agg [.lit (.string [105, 110, 118, 97, 108, 105, 100, 32, 115, 121, 110, 116, 97, 120])])))] W := by
  have := h0.filter (fun x=>x.1=="strconv.ErrSyntax")
  rwa [show (Li.filter fun x=>x.2.handleName?.isNone).filter (fun x=>x.1=="strconv.ErrSyntax")=[("strconv.ErrSyntax", .iface "*errors.errorString" (.ptr (.agg [.lit (.string [105, 110, 118, 97, 108, 105, 100, 32, 115, 121, 110, 116, 97, 120])])))] by kernel_rfl]at this
 have hR:laidMet prog [("strconv.ErrRange", .iface "*errors.errorString" (.ptr (.agg [.lit (.string [118, 97, 108, 117, 101, 32, 111, 117, 116, 32, 111, 102, 32, 114, 97, 110, 103, 101])])))] W := by
  have := h0.filter (fun x=>x.1=="strconv.ErrRange")
  rwa [show (Li.filter fun x=>x.2.handleName?.isNone).filter (fun x=>x.1=="strconv.ErrRange")=[("strconv.ErrRange", .iface "*errors.errorString" (.ptr (.agg [.lit (.string [118, 97, 108, 117, 101, 32, 111, 117, 116, 32, 111, 102, 32, 114, 97, 110, 103, 101])])))] by kernel_rfl]at this
 refine⟨Lib.tabIs_of_head NN VC underlying280 underlying202 OW OX hT,?_,?_⟩
 .obtain⟨a0,s0,d,-,-,-⟩:=laid_sentinel hS Q8 VD underlying174 Rm underlying287 underlying289 rfl rfl underlying9 Lj Jk;exact⟨_,_,d⟩
 obtain⟨a0,s0,d,-,-,-⟩:=laid_sentinel hR Q9 VE underlying174 Rm underlying287 underlying289 rfl rfl underlying9 Lj Jk;exact⟨_,_,d⟩
noncomputable def Db(os:Os):World :=
 { World.doorLaid prog 72 os with heap:=(World.doorLaid prog 72 os).heap.modify 3 fun
  |.cells _ t frozen=>.cells (Go.Pinned.utf8FirstZ.map fun(z:Nat)=>Value.int .u8 z).toArray t frozen
  |o=>o }
theorem own:ownKnob prog.godebug=none:=by kernel_rfl
theorem laid_met(os:Os)(args:Array Value):laidMetH prog Li ((Db os).forCall (fun _ _=>0) ⟨#[],args,[]⟩).memory :=
 laidMet_of_run3 8 (by kernel_rfl) (by kernel_rfl) (by kernel_rfl)
theorem TZ(os:Os)(args:Array Value):((Db os).forCall (fun _ _=>0) ⟨#[],args,[]⟩).variablesRefB prog=true:=by kernel_rfl
theorem Ua(os:Os)(args:Array Value):(((Db os).forCall (fun _ _=>0) ⟨#[],args,[]⟩).heap.toList.drop prog.globals.size).take ((begin prog (fun _ _=>0) default).world.heap.size-prog.globals.size) =
 (begin prog (fun _ _=>0) default).world.heap.toList.drop prog.globals.size:=by kernel_rfl
end Nt
end
section
open Go.RowKit Go.Shelf
namespace Nt
def B3(W:World)(b:Nat)(g:Bool)(n d:ByteArray):Prop:=W.heap[b]? = some (.cells #[.bool g,.string n,.string d] 48 (0,0))
theorem B3.lt{W:World}{b:Nat}{g:Bool}{n d:ByteArray}(h:B3 W b g n d):b<W.heap.size:=(Array.getElem?_eq_some_iff.1 h).1
theorem B3.facts{W:World}{b:Nat}{g:Bool}{n d:ByteArray}(h:B3 W b g n d):
 W.cell? ⟨b,0,none⟩=some (.bool g)/\W.cell? ⟨b,1,none⟩=some (.string n)/\W.cell? ⟨b,2,none⟩=some (.string d) /\
 W.frozen? ⟨b,0,none⟩=false/\W.frozen? ⟨b,1,none⟩=false/\W.frozen? ⟨b,2,none⟩=false:=by
 unfold B3 at h;simp[World.cell?,World.frozen?,h]
theorem B3.new(w:World)(g:Bool)(n d:ByteArray):B3 (w.alloc (.cells #[.bool g,.string n,.string d] 48)) w.heap.size g n d:=yR _ _
theorem B3.alloc{W:World}{b:Nat}{g:Bool}{n d:ByteArray}(h:B3 W b g n d)(o:Obj):B3 (W.alloc o) b g n d:=(yM W o b h.lt).trans h
theorem B3.below{W W':World}{b:Nat}{g:Bool}{n d:ByteArray}(h:B3 W b g n d)(hb:Below W.heap.size W W'):B3 W' b g n d:=(hb.block b h.lt).trans h
theorem B3.other{W:World}{b:Nat}{g:Bool}{n d:ByteArray}(h:B3 W b g n d){p:Addr}(hp:b≠p.block)(v:Value):B3 (W.setCell p v) b g n d:=(ze _ _ _ _ hp).trans h
theorem B3.set0{W:World}{b:Nat}{g:Bool}{n d:ByteArray}(h:B3 W b g n d)(g':Bool):B3 (W.setCell ⟨b,0,none⟩ (.bool g')) b g' n d:=by
 unfold B3 at h ⊢;simp[World.setCell,Array.getElem?_modify,h]
theorem B3.set1{W:World}{b:Nat}{g:Bool}{n d:ByteArray}(h:B3 W b g n d)(n':ByteArray):B3 (W.setCell ⟨b,1,none⟩ (.string n')) b g n' d:=by
 unfold B3 at h ⊢;simp[World.setCell,Array.getElem?_modify,h]
theorem B3.set2{W:World}{b:Nat}{g:Bool}{n d:ByteArray}(h:B3 W b g n d)(d':ByteArray):B3 (W.setCell ⟨b,2,none⟩ (.string d')) b g n d':=by
 unfold B3 at h ⊢;simp[World.setCell,Array.getElem?_modify,h]
theorem VG(n:Nat):((num n).toList==[49])=decide (n=1):=by
 have e:(num 1).toList=[49]:=by rw[show num 1=⟨#[49]⟩ from Vh,yP]
 rw[<-e,xX,yw,yU,yP,yP];constructor
 .intro h;have:=congrArg AO h;have e1:AO (num n).data.toList=n:=AK n;have e2:AO (num 1).data.toList=1:=AK 1
  rwa [e1,e2]at this
 intro h;rw[h]
theorem Ub(n:Nat):((num n).toList==[48])=decide (n=0):=by
 have e:(num 0).toList=[48]:=Rc;rw[<-e,xX,yw,yU,yP,yP];constructor
 .intro h;have:=congrArg AO h;have e1:AO (num n).data.toList=n:=AK n;have e2:AO (num 0).data.toList=0:=AK 0
  rwa [e1,e2]at this
 intro h;rw[h]
theorem Mw(g:Bool)(n d:ByteArray)(w:World)(hn:n.size<=140737488355328)(h:isN n=false):
 Calls prog 97 #[.agg #[.bool g,.string n,.string d]] w fun e w'=>e=.returned (.bool false)/\Below w.heap.size w w':=by
 go_enter func97,ntmps97
 go_wp2_with fail
 refine(B4 n _ (by omega)).q fun w1 aa=>?_;rw[h];go_wp2;go_ret;exact⟨rfl,((zI _ w).alloc (zB _) _).trans (aa.mono (by simp))⟩
theorem My(g:Bool)(n d:ByteArray)(w:World)(hn:n.size<=140737488355328)(hd:d.size<=140737488355328)(h:isN n=true)(h':isN d=false):
 Calls prog 97 #[.agg #[.bool g,.string n,.string d]] w fun e w'=>e=.returned (.bool false)/\Below w.heap.size w w':=by
 have H:=zh h';clear h';go_enter func97,ntmps97
 go_wp2_with fail
 refine(B4 n _ (by omega)).q fun w1 ab=>?_;rw[h];have q1:=(B3.new w g n d).below ab;obtain⟨a1,a2,a3,a4,a5,a6⟩:=q1.facts;have aa:=zh (((zI _ w).alloc (zB _) _).trans (ab.mono (by simp)));replace q1:=zh q1;clear ab
 go_wp2_with fail
 refine(B4 d _ (by omega)).q fun w2 ad=>?_;rw[H.o];have ae:=aa.t ad;clear ad aa;go_wp2;go_ret;exact⟨rfl,ae.o⟩
theorem Ll(n:Nat):((T (some n)).toList==[49])=decide (n=1):=VG n
theorem B8(n:Nat):((T (some n)).toList==[48])=decide (n=0):=Ub n
theorem Mz(g:Bool)(a:Nat)(w:World)(ha:a<Lim):
 Calls prog 97 #[.agg #[.bool g,.string (T (some a)),.string (T (some 0))]] w fun e w'=>e=.returned (.bool false)/\Below w.heap.size w w':=by
 have z:=B8 0;rw[zG rfl]at z;have h0:0<Lim:=by omega
 go_enter func97,ntmps97
 go_wp2_with fail
 refine(OU (some a) (At ha) _).q fun w1 h=>?_;rw[wA];have q1:=(B3.new w g (T (some a)) (T (some 0))).below h;obtain⟨a1,a2,a3,a4,a5,a6⟩:=q1.facts;have d:=zh (((zI _ w).alloc (zB _) _).trans (h.mono (by simp)));replace q1:=zh q1;clear h
 go_wp2_with fail
 refine(OU (some 0) (At h0) _).q fun w2 aa=>?_;rw[wA];obtain⟨b1,b2,b3,b4,b5,b6⟩:=(q1.o.below aa).facts;have ab:=d.t aa;clear aa d;go_wp2;go_ret;exact⟨rfl,ab.o⟩
theorem M7(g:Bool)(b:Nat)(w:World)(hb:b<Lim)(h:b≠0):
 Calls prog 97 #[.agg #[.bool g,.string (T (some 0)),.string (T (some b))]] w fun e w'=>e=.returned (.bool (!g&&decide (b=1)))/\Below w.heap.size w w':=by
 obtain⟨r,hr⟩:∃r,r=decide (b=1):=⟨_,rfl⟩;rw[<-hr]
 cases g<;>cases r
 all_goals
  have z:=B8 0;rw[zG rfl]at z;have z2:=B8 b;rw[zH h]at z2;have z3:=Ll b;rw[<-hr]at z3;clear hr;have h0:0<Lim:=by omega
  replace h:=zh h;go_enter func97,ntmps97
  go_wp2_with fail
  refine(OU (some 0) (At h0) _).q fun w1 aa=>?_;rw[wA];have q1:=(B3.new w _ (T (some 0)) (T (some b))).below aa;obtain⟨a1,a2,a3,a4,a5,a6⟩:=q1.facts;have d:=zh (((zI _ w).alloc (zB _) _).trans (aa.mono (by simp)));replace q1:=zh q1;clear aa
  go_wp2_with fail
  refine(OU (some b) (At hb) _).q fun w2 ab=>?_;rw[wA];obtain⟨b1,b2,b3,b4,b5,b6⟩:=(q1.o.below ab).facts;have ad:=d.t ab;clear ab d;go_wp2;go_ret;exact⟨rfl,ad.o⟩
theorem OY(g:Bool)(a b:Nat)(w:World)(hE:Env w)(ha:a<Lim)(hb:b<Lim)(aa:a≠0)(ab:b≠0):
 Calls prog 97 #[.agg #[.bool g,.string (T (some a)),.string (T (some b))]] w fun e w'=>e=.returned (.bool (decide (Nat.gcd a b=1)))/\Below w.heap.size w w':=by
 have z:=B8 a;rw[zH aa]at z;have z2:=B8 b;rw[zH ab]at z2;have z3:=Ll (Nat.gcd a b)
 have hG:Hid (QX (some a) (some b)=some (Nat.gcd a b)/\QY (some a) (some b)=0):=by
  have:=Kf ha hb;exact⟨by simp only[QX,apO,Mt,zD this],by simp only[QY,apE,zD this]⟩
 replace aa:=zh aa;replace ab:=zh ab;replace hE:=zh hE;go_enter func97,ntmps97
 go_wp2_with fail
 refine(OU (some a) (At ha) _).q fun w1 ad=>?_;rw[wA];have q1:=(B3.new w g (T (some a)) (T (some b))).below ad;obtain⟨a1,a2,a3,a4,a5,a6⟩:=q1.facts;have h:=zh (((zI _ w).alloc (zB _) _).trans (ad.mono (by simp)));replace q1:=zh q1;clear ad
 go_wp2_with fail
 refine(OU (some b) (At hb) _).q fun w2 ae=>?_;rw[wA];obtain⟨b1,b2,b3,b4,b5,b6⟩:=(q1.o.below ae).facts;have d:=h.t ae;clear ae h q1
 go_wp2_with fail
 refine(TY (some a) (some b) _ (hE.o.below d.o) (At ha) (At hb)).q fun w3 af=>?_;rw[hG.o.1,hG.o.2];have ag:=d.t af;clear af d;go_wp2;go_ret;exact⟨rfl,ag.o⟩
theorem AQ(g:Bool)(n d:ByteArray)(w:World)(hE:Env w)(hn:n.size<=140737488355328)(hd:d.size<=140737488355328):
 Calls prog 97 #[.agg #[.bool g,.string n,.string d]] w fun e w'=>e=.returned (.bool (A5 g n d))/\Below w.heap.size w w':=by
 cases h1:isN n with
 |false=>
  have e:A5 g n d=false:=by unfold A5;rw[h1];rfl
  rw[e];exact Mw g n d w hn h1
 |true=>
  cases h2:isN d with
  |false=>
   have e:A5 g n d=false:=by unfold A5;rw[h1,h2];rfl
   rw[e];exact My g n d w hn hd h1 h2
  |true=>
   obtain⟨a,ha,rfl⟩:=Cc h1;obtain⟨b,hb,rfl⟩:=Cc h2;rw[Gw g a b ha hb]
   by_cases hb0:b=0
   .subst hb0;simp only[decide_true,Bool.not_true,wY];exact Mz g a w ha
   rw[zH hb0,Bool.not_false,vD]
   by_cases ha0:a=0
   .rw[zD ha0];subst ha0;exact M7 g b w hb hb0
   rw[zC ha0];exact OY g a b w hE ha hb ha0 hb0
theorem Dl(g:Bool)(a b:Nat)(w:World)(hE:Env w)(ha:a<Lim)(hb:b<Lim)(am:b≠0):
 Calls prog 108 #[.bool g,.string (T (some a)),.string (T (some b))] w fun e w'=>e=.returned (.tuple #[qv (mkRat (sg g a) b),.int .i64 0])/\Below w.heap.size w w':=by
 have HV:=zh (WP g a b am);obtain⟨G,al⟩:∃G,G=Nat.gcd a b:=⟨_,rfl⟩;have ai:G<Lim:=by rw[al];exact Kf ha hb
 have ak:G≠0:=by rw[al];exact vL (Nat.gcd_pos_of_pos_right a (by omega))
 have hG:Hid (QX (some a) (some b)=some G/\QY (some a) (some b)=0):=by
  have:=Kf ha hb;rw[al];exact⟨by simp only[QX,apO,Mt,zD this],by simp only[QY,apE,zD this]⟩
 have af:Hid (TV (some a) (some G)=some (a/G)/\TW (some a) (some G)=0):=⟨zC ak,zC ak⟩;have ag:Hid (TV (some b) (some G)=some (b/G)/\TW (some b) (some G)=0):=⟨zC ak,zC ak⟩;rw[<-al]at HV;have z:=B8 (a/G);generalize hx:a/G=x at HV af z;generalize hy:b/G=y at HV ag;replace hE:=zh hE;clear al ak hx hy am;have key:(g=false)\/(g=true/\x=0)\/(g=true/\x≠0):=by cases g<;>simp<;>omega
 rcases key with rfl|⟨rfl,ah⟩|⟨rfl,ah⟩
 rotate_left
 .rw[zG ah]at HV z;replace ah:=zh ah;go_enter func108,ntmps108
  go_wp2_with fail
  refine(TY (some a) (some b) _ (hE.o.below ((zI _ w).alloc (zB _) _)) (At ha) (At hb)).q fun w1 ad=>?_;rw[hG.o.1,hG.o.2];have q1:=(B3.new w false ⟨#[]⟩ ⟨#[]⟩).below ad;have d:=zh (((zI _ w).alloc (zB _) _).trans (ad.mono (by simp)));have an:=q1.lt;replace q1:=zh q1;clear ad
  go_wp2_with fail
  refine(OV (some a) (some G) _ (hE.o.below (d.o.alloc d.o.size _)) (At ha) (At ai)).q fun w2 h=>?_;rw[af.o.1,af.o.2];have q2:=(q1.o.alloc _).below h;have r2:=(B3.new w1 true ⟨#[]⟩ ⟨#[]⟩).below h;have ab:=zh ((d.o.alloc d.o.size _).trans (h.mono (by have:=d.o.size;simp;omega)));obtain⟨c1,c2,c3,c4,c5,c6⟩:=r2.facts;have ao:=r2.lt;replace q2:=zh q2;replace r2:=zh r2;clear h q1
  go_wp2_with fail
  refine(OV (some b) (some G) _ (hE.o.below (ab.o.setCell (by have:=d.o.size;simpa using this) _)) (At hb) (At ai)).q fun w3 aa=>?_;rw[ag.o.1,ag.o.2];have q3:=(q2.o.other (p:=⟨w1.heap.size,1,none⟩) (by simp;omega) _).below aa;have r3:=(r2.o.set1 (T (some x))).below aa;have aj:=zh ((ab.o.setCell (p:=⟨w1.heap.size,1,none⟩) (by have:=d.o.size;simpa using this) _).trans (aa.mono (by have:=ab.o.size;simpa using this)));have ae:=d.o.size;obtain⟨d1,d2,d3,d4,d5,d6⟩:=q3.facts;obtain⟨e1,e2,e3,e4,e5,e6⟩:=r3.facts;have ap:=r3.lt;clear aa q2 r2 c1 c2 c3 c4 c5 c6;replace q3:=zh q3;replace r3:=zh r3;go_wp2;refine zm (v:=.tuple #[.agg #[.bool false,.string (T (some x)),.string (T (some y))],.int .i64 0]) (by simp[results,results108,go_sem,d1,d2,d3]) rfl ⟨by rw[HV.o];rfl,?_⟩
  repeat refine yH ?_ (by first|exact zB _|exact ae) _
  exact aj.o
 .rw[zH ah]at HV z;replace ah:=zh ah;go_enter func108,ntmps108
  go_wp2_with fail
  refine(TY (some a) (some b) _ (hE.o.below ((zI _ w).alloc (zB _) _)) (At ha) (At hb)).q fun w1 ad=>?_;rw[hG.o.1,hG.o.2];have q1:=(B3.new w false ⟨#[]⟩ ⟨#[]⟩).below ad;have d:=zh (((zI _ w).alloc (zB _) _).trans (ad.mono (by simp)));have an:=q1.lt;replace q1:=zh q1;clear ad
  go_wp2_with fail
  refine(OV (some a) (some G) _ (hE.o.below (d.o.alloc d.o.size _)) (At ha) (At ai)).q fun w2 h=>?_;rw[af.o.1,af.o.2];have q2:=(q1.o.alloc _).below h;have r2:=(B3.new w1 true ⟨#[]⟩ ⟨#[]⟩).below h;have ab:=zh ((d.o.alloc d.o.size _).trans (h.mono (by have:=d.o.size;simp;omega)));obtain⟨c1,c2,c3,c4,c5,c6⟩:=r2.facts;have ao:=r2.lt;replace q2:=zh q2;replace r2:=zh r2;clear h q1
  go_wp2_with fail
  refine(OV (some b) (some G) _ (hE.o.below (ab.o.setCell (by have:=d.o.size;simpa using this) _)) (At hb) (At ai)).q fun w3 aa=>?_;rw[ag.o.1,ag.o.2];have q3:=(q2.o.other (p:=⟨w1.heap.size,1,none⟩) (by simp;omega) _).below aa;have r3:=(r2.o.set1 (T (some x))).below aa;have aj:=zh ((ab.o.setCell (p:=⟨w1.heap.size,1,none⟩) (by have:=d.o.size;simpa using this) _).trans (aa.mono (by have:=ab.o.size;simpa using this)));have ae:=d.o.size;obtain⟨d1,d2,d3,d4,d5,d6⟩:=q3.facts;obtain⟨e1,e2,e3,e4,e5,e6⟩:=r3.facts;have ap:=r3.lt;clear aa q2 r2 c1 c2 c3 c4 c5 c6;replace q3:=zh q3;replace r3:=zh r3;go_wp2;refine zm (v:=.tuple #[.agg #[.bool true,.string (T (some x)),.string (T (some y))],.int .i64 0]) (by simp[results,results108,go_sem,d1,d2,d3]) rfl ⟨by rw[HV.o];rfl,?_⟩
  repeat refine yH ?_ (by first|exact zB _|exact ae) _
  exact aj.o
 go_enter func108,ntmps108
 go_wp2_with fail
 refine(TY (some a) (some b) _ (hE.o.below ((zI _ w).alloc (zB _) _)) (At ha) (At hb)).q fun w1 ad=>?_;rw[hG.o.1,hG.o.2];have q1:=(B3.new w false ⟨#[]⟩ ⟨#[]⟩).below ad;have d:=zh (((zI _ w).alloc (zB _) _).trans (ad.mono (by simp)));have an:=q1.lt;replace q1:=zh q1;clear ad
 go_wp2_with fail
 refine(OV (some a) (some G) _ (hE.o.below (d.o.alloc d.o.size _)) (At ha) (At ai)).q fun w2 h=>?_;rw[af.o.1,af.o.2];have q2:=(q1.o.alloc _).below h;have r2:=(B3.new w1 false ⟨#[]⟩ ⟨#[]⟩).below h;have ab:=zh ((d.o.alloc d.o.size _).trans (h.mono (by have:=d.o.size;simp;omega)));obtain⟨c1,c2,c3,c4,c5,c6⟩:=r2.facts;have ao:=r2.lt;replace q2:=zh q2;replace r2:=zh r2;clear h q1
 go_wp2_with fail
 refine(OV (some b) (some G) _ (hE.o.below (ab.o.setCell (by have:=d.o.size;simpa using this) _)) (At hb) (At ai)).q fun w3 aa=>?_;rw[ag.o.1,ag.o.2];have q3:=(q2.o.other (p:=⟨w1.heap.size,1,none⟩) (by simp;omega) _).below aa;have r3:=(r2.o.set1 (T (some x))).below aa;have aj:=zh ((ab.o.setCell (p:=⟨w1.heap.size,1,none⟩) (by have:=d.o.size;simpa using this) _).trans (aa.mono (by have:=ab.o.size;simpa using this)));have ae:=d.o.size;obtain⟨d1,d2,d3,d4,d5,d6⟩:=q3.facts;obtain⟨e1,e2,e3,e4,e5,e6⟩:=r3.facts;have ap:=r3.lt;clear aa q2 r2 c1 c2 c3 c4 c5 c6;replace q3:=zh q3;replace r3:=zh r3;go_wp2;refine zm (v:=.tuple #[.agg #[.bool false,.string (T (some x)),.string (T (some y))],.int .i64 0]) (by simp[results,results108,go_sem,d1,d2,d3]) rfl ⟨by rw[HV.o];rfl,?_⟩
 repeat refine yH ?_ (by first|exact zB _|exact ae) _
 exact aj.o
theorem Rn:(prog.info? 9).map (fun i=>(i.zero,i.size,i.bytes))=some (some (.string ⟨#[]⟩),1,16):=by kernel_rfl
def FQ(ks:List Nat):List Value:=ks.map fun k=>Value.string (T (some k))
def Ee(W:World)(v:Value)(ks:List Nat):Prop:=∃g cap,v=.slice (some ⟨g,0,none⟩) ks.length cap/\g<W.heap.size/\∀i (h:i<ks.length),W.cell? ⟨g,i,none⟩=some (.string (T (some ks[i])))
theorem M8(ks:List Nat)(k:Nat):FQ ks++[Value.string (T (some k))]=FQ (ks++[k]):=by simp[FQ]
theorem FR{B:Nat}{W:World}{v:Value}{ks:List Nat}(h:W.ownsRow B 9 1 v ks.length (FQ ks))(h0:ks≠[]):Ee W v ks:=by
 rcases id h.2 with⟨rfl,hx⟩|⟨g,cap,cur,rfl,hg,hh,hn,d,aa,ht⟩
 .exact absurd (List.length_eq_zero_iff.1 hx) h0
 refine⟨g,cap,rfl,(Array.getElem?_eq_some_iff.1 hh).1,fun i hi=>?_⟩;rw[World.ownsRow.cellAt h i (by omega)];simp[FQ,hi]
def Ef(W:World)(b:Nat)(ps:List (Nat×Nat)):Prop:=∀i (h:i<ps.length),W.cell? ⟨b,i*2,none⟩=some (.string (T (some ps[i].1)))/\W.cell? ⟨b,i*2+1,none⟩=some (.string (T (some ps[i].2)))
def DI(ps:List (Nat×Nat)):List Nat:=ps.map fun p=>p.1*p.2
def WR(w:World)(ps:List (Nat×Nat))(k:Nat)(v:Value)(wr:World):Prop :=
 wr.ownsRow w.heap.size 9 1 v (DI (ps.take k)).length (FQ (DI (ps.take k)))/\Below w.heap.size w wr
theorem H7{B:Nat}{e:TypeId}{size:Nat}{w w':World}{v:Value}{n:Nat}{xs:List Value}(h:w.ownsRow B e size v n xs)(hb:Below w.heap.size w w'):w'.ownsRow B e size v n xs:=by
 obtain⟨h1,h2⟩:=h;refine⟨h1,?_⟩
 rcases h2 with h2|⟨g,cap,cur,hv,hg,hh,r⟩
 .exact Or.inl h2
 exact Or.inr ⟨g,cap,cur,hv,hg,by rw[hb.block g (Array.getElem?_eq_some_iff.1 hh).1];exact hh,r⟩
theorem M9(s:ByteArray):∀u∈[Value.string s],u.oneCell'=true:=by
 intro u hu;simp at hu;subst hu;rfl
theorem CT(w:World)(hE:Env w)(b cap:Nat)(ps:List (Nat×Nat))(hb:b<w.heap.size)(hl:ps.length<=100)(hp:Ef w b ps)(hs:∀p∈ps,p.1<Lim/\p.2<Lim/\p.1*p.2<Lim):
 Calls prog 135 #[.slice (some ⟨b,0,none⟩) ps.length cap] w fun e w'=>(∃v,e=.returned v/\w'.ownsRow w.heap.size 9 1 v (DI ps).length (FQ (DI ps)))/\Below w.heap.size w w':=by
 obtain⟨i0,hi,ag,ah,ai⟩:=wZ Rn;have HP:=zh hp;have HS:=zh hs;replace hE:=zh hE;clear hp hs;go_enter func135,ntmps135;go_wp2
 go_loopw [3,10] (fun v i wr=>∃k:Nat,k<=ps.length/\i=.int .i64 (k:Int)/\WR w ps k v wr) (fun _ i _=>ps.length-(intOf i).toNat)
 case atStart=>exact⟨0,zQ _,rfl,yO _ _ _ _,zI _ _⟩
 case round=>
  obtain⟨k,hk,rfl,z1,z2⟩:=hrel;have af:=z2.size
  by_cases hlt:k<ps.length
  .obtain ⟨x,hx⟩:∃x,x=ps[k].1:=⟨_,rfl⟩;obtain⟨y,hy⟩:∃y,y=ps[k].2:=⟨_,rfl⟩;obtain⟨aa,ab⟩:=HP.o k hlt;obtain⟨s1,s2,s3⟩:=HS.o _ (zN hlt);rw[<-hx]at aa s1 s3;rw[<-hy]at ab s2 s3;have c1:=(z2.cell (p:=⟨b,k*2,none⟩) hb).trans aa;have c2:=(z2.cell (p:=⟨b,k*2+1,none⟩) hb).trans ab;have hM:Hid (V8 (some x) (some y)=some (x*y)/\V9 (some x) (some y)=0):=⟨by simp only[V8,apO,Mt,zD s3],by simp only[V9,apE,zD s3]⟩
   have hN:Hid (DI (ps.take (k+1))=DI (ps.take k)++[x*y]):=by
    unfold Hid DI;rw[zO hlt,zw,hx,hy];rfl
   have hL:Hid ((DI (ps.take k)).length=k):=by unfold Hid DI;simp;omega
   replace z1:=zh z1;replace z2:=zh z2;clear aa ab hx hy
   go_wp2_with fail
   refine(XA (some x) (some y) _ (hE.o.below (z2.o.alloc af _)) (At s1) (At s2)).q fun w1 d=>?_;rw[hM.o.1,hM.o.2];have ad:=zh ((z2.o.alloc af _).trans (d.mono (by simp;omega)));have ho:Hid (w1.ownsRow w.heap.size 9 1 u3 (DI (ps.take k)).length (FQ (DI (ps.take k)))):=H7 (z1.o.alloc _) d;have aj:=ad.o.size;clear d z1 z2
   go_wp2_with (at_builtin;refine wpList_append_own _ rfl _ _ 23 rfl w.heap.size 9 i0 (.string ⟨#[]⟩) 1 16 underlying23 hi ag ah ai rfl (by decide) u3 (DI (ps.take k)).length (FQ (DI (ps.take k))) rfl (ho.o.alloc _) ⟨w1.heap.size,0,none⟩ 1 1 [.string (T (some (x*y)))] rfl rfl (D1 _ _ _) (M9 _) (by have:=hL.o;unfold maxLen;omega) (by have:=hL.o;omega) (by simp;omega) ?_;intro v2 w2 h ae _)
   refine⟨⟨k+1,by omega,by go_num,?_,(ad.o.alloc (by omega) _).grown ae (by simp;omega) (fun b e=>(ho.o.lt b e).1)⟩,by simp only[intOf];omega⟩;rw[hN.o,<-M8,zV];exact h
  obtain rfl:k=ps.length:=by omega
  have e:ps.take ps.length=ps:=xE (zB _);rw[e]at z1;replace z1:=zh z1;replace z2:=zh z2;clear e;go_wp2;go_ret;exact⟨⟨_,rfl,z1.o⟩,z2.o⟩
theorem Dc{B:Nat}{a w:World}(h:Below B a w)(n:Nat):Below B a (w.drewN n):=⟨h.os,h.tape,h.output,h.size,h.block⟩
def SumBoxes(W:World)(B:Nat)(g1 g2:Bool)(a b c d:Nat):Prop :=
 B3 W B g1 (T (some a)) (T (some b))/\B3 W (B+1) g2 (T (some c)) (T (some d))/\B3 W (B+1+1) false ⟨#[]⟩ ⟨#[]⟩
abbrev Dx(w:World)(g1 g2:Bool)(a b c d:Nat):World :=
 ((w.alloc (.cells #[.bool g1,.string (T (some a)),.string (T (some b))] 48)).alloc (.cells #[.bool g2,.string (T (some c)),.string (T (some d))] 48)).alloc (.cells #[.bool false,.string ⟨#[]⟩,.string ⟨#[]⟩] 48)
theorem SumBoxes.new(w:World)(g1 g2:Bool)(a b c d:Nat):SumBoxes (Dx w g1 g2 a b c d) w.heap.size g1 g2 a b c d:=by
 have e1:(w.alloc (.cells #[.bool g1,.string (T (some a)),.string (T (some b))] 48)).heap.size=w.heap.size+1:=by simp
 have e2:((w.alloc (.cells #[.bool g1,.string (T (some a)),.string (T (some b))] 48)).alloc (.cells #[.bool g2,.string (T (some c)),.string (T (some d))] 48)).heap.size=w.heap.size+1+1:=by simp
 refine⟨((B3.new w _ _ _).alloc _).alloc _,?_,?_⟩
 .have h:=B3.new (w.alloc (.cells #[.bool g1,.string (T (some a)),.string (T (some b))] 48)) g2 (T (some c)) (T (some d));rw[e1]at h;exact h.alloc _
 have h:=B3.new ((w.alloc (.cells #[.bool g1,.string (T (some a)),.string (T (some b))] 48)).alloc (.cells #[.bool g2,.string (T (some c)),.string (T (some d))] 48)) false ⟨#[]⟩ ⟨#[]⟩;rw[e2]at h;exact h
theorem BO(w:World)(g1 g2:Bool)(a b c d:Nat):Below w.heap.size w (Dx w g1 g2 a b c d) :=
 (((zI _ w).alloc (zB _) _).alloc (by simp) _).alloc (by simp;omega) _
theorem SumBoxes.alloc{W:World}{B:Nat}{g1 g2:Bool}{a b c d:Nat}(h:SumBoxes W B g1 g2 a b c d)(o:Obj):SumBoxes (W.alloc o) B g1 g2 a b c d:=⟨h.1.alloc o,h.2.1.alloc o,h.2.2.alloc o⟩
theorem SumBoxes.below{W W':World}{B:Nat}{g1 g2:Bool}{a b c d:Nat}(h:SumBoxes W B g1 g2 a b c d)(hb:Below W.heap.size W W'):SumBoxes W' B g1 g2 a b c d:=⟨h.1.below hb,h.2.1.below hb,h.2.2.below hb⟩
theorem MA{W:World}{v:Value}{x y z:Nat}(h:Ee W v [x,y,z]):∃g cap,v=.slice (some ⟨g,0,none⟩) 3 cap/\W.cell? ⟨g,0,none⟩=some (.string (T (some x)))/\W.cell? ⟨g,1,none⟩=some (.string (T (some y)))/\W.cell? ⟨g,2,none⟩=some (.string (T (some z))):=by
 obtain⟨g,cap,rfl,hg,hc⟩:=h;exact⟨g,cap,rfl,hc 0 (by simp),hc 1 (by simp),hc 2 (by simp)⟩
theorem VH{W:World}{v:Value}{x y:Nat}(h:Ee W v [x,y]):∃g cap,v=.slice (some ⟨g,0,none⟩) 2 cap/\g<W.heap.size/\W.cell? ⟨g,0,none⟩=some (.string (T (some x)))/\W.cell? ⟨g,1,none⟩=some (.string (T (some y))):=by
 obtain⟨g,cap,rfl,hg,hc⟩:=h;exact⟨g,cap,rfl,hg,hc 0 (by simp),hc 1 (by simp)⟩
theorem MB(W:World)(x1 y1 x2 y2 x3 y3:Nat):
 Ef (W.alloc (.cells #[.string (T (some x1)),.string (T (some y1)),.string (T (some x2)),.string (T (some y2)),.string (T (some x3)),.string (T (some y3))] 192)) W.heap.size [(x1,y1),(x2,y2),(x3,y3)]:=by
 intro i hi;have h:=yR W (.cells #[.string (T (some x1)),.string (T (some y1)),.string (T (some x2)),.string (T (some y2)),.string (T (some x3)),.string (T (some y3))] 192)
 match i,hi with
 |0,_=>simp only[World.cell?,h];exact⟨rfl,rfl⟩
 |1,_=>simp only[World.cell?,h];exact⟨rfl,rfl⟩
 |2,_=>simp only[World.cell?,h];exact⟨rfl,rfl⟩
 |n+3,hi=>simp at hi;omega
theorem VI(W:World)(x1 y1 x2 y2:Nat):
 Ef (W.alloc (.cells #[.string (T (some x1)),.string (T (some y1)),.string (T (some x2)),.string (T (some y2))] 192)) W.heap.size [(x1,y1),(x2,y2)]:=by
 intro i hi;have h:=yR W (.cells #[.string (T (some x1)),.string (T (some y1)),.string (T (some x2)),.string (T (some y2))] 192)
 match i,hi with
 |0,_=>simp only[World.cell?,h];exact⟨rfl,rfl⟩
 |1,_=>simp only[World.cell?,h];exact⟨rfl,rfl⟩
 |n+2,hi=>simp at hi;omega
theorem OZ(g1:Bool)(a b c d:Nat)(w:World)(hE:Env w)(ha:a<L1)(hb:b<L1)(hc:c<L1)(hd:d<L1)(ak:b≠0)(al:d≠0):
 Calls prog 104 #[.agg #[.bool g1,.string (T (some a)),.string (T (some b))],.agg #[.bool g1,.string (T (some c)),.string (T (some d))]] w fun e w'=>e=.returned (.tuple #[qv (mkRat (sg g1 (a*d+c*b)) (b*d)),.int .i64 0])/\Below w.heap.size w w':=by
 have ah:b*d≠0:=xt ak al;have HS:=zh (And.intro (C7 ha hd) (And.intro (C7 hc hb) (And.intro (C7 hb hd) Jf)))
 have HP:Hid (∀p∈[(a,d),(c,b),(b,d)],p.1<Lim/\p.2<Lim/\p.1*p.2<Lim):=by
  have:=HS.o;intro p hp;simp only[yW,yK,xy]at hp
  rcases hp with rfl|rfl|rfl
  .exact⟨AH ha,AH hd,by show a*d<Lim;omega⟩
  .exact⟨AH hc,AH hb,by show c*b<Lim;omega⟩
  exact⟨AH hb,AH hd,by show b*d<Lim;omega⟩
 have an:Hid (Ef ((Dx w g1 g1 a b c d).alloc (.cells #[.string (T (some a)),.string (T (some d)),.string (T (some c)),.string (T (some b)),.string (T (some b)),.string (T (some d))] 192)) (w.heap.size+1+1+1) [(a,d),(c,b),(b,d)]):=by
  have:=MB (Dx w g1 g1 a b c d) a d c b b d
  rwa [show (Dx w g1 g1 a b c d).heap.size=w.heap.size+1+1+1 by simp]at this
 have ab:Hid (Below w.heap.size w ((Dx w g1 g1 a b c d).alloc (.cells #[.string (T (some a)),.string (T (some d)),.string (T (some c)),.string (T (some b)),.string (T (some b)),.string (T (some d))] 192))):=(BO w g1 g1 a b c d).alloc (BO w g1 g1 a b c d).size _;have ao:Hid (SumBoxes ((Dx w g1 g1 a b c d).alloc (.cells #[.string (T (some a)),.string (T (some d)),.string (T (some c)),.string (T (some b)),.string (T (some b)),.string (T (some d))] 192)) w.heap.size g1 g1 a b c d):=(SumBoxes.new w g1 g1 a b c d).alloc _;replace hE:=zh hE;replace ah:=zh ah;clear ha hb hc hd ak al
 have hA:Hid (V6 (some (a*d)) (some (c*b))=some (a*d+c*b)/\V7 (some (a*d)) (some (c*b))=0):=by
  have:=HS.o;have h:a*d+c*b<Lim:=by omega
  exact⟨by simp only[V6,apO,Mt,zD h],by simp only[V7,apE,zD h]⟩
 go_enter func104,ntmps104
 go_wp2_with fail
 refine(CT _ (hE.o.below ab.o) (w.heap.size+1+1+1) 3 [(a,d),(c,b),(b,d)] (by simp) (by simp) an.o HP.o).mono ?_;rintro e w1 ⟨⟨v,rfl,ho⟩,ae⟩;have aj:Ee w1 v [a*d,c*b,b*d]:=FR ho (by simp);obtain⟨lg,lcap,rfl,l0,l1,l2⟩:=MA aj;have q1:=ao.o.below ae;have ai:=ab.t ae;obtain⟨a1,a2,a3,a4,a5,a6⟩:=q1.1.facts;obtain⟨b1,b2,b3,b4,b5,b6⟩:=q1.2.1.facts;obtain⟨c1,c2,c3,c4,c5,c6⟩:=q1.2.2.facts;have ap:=q1.2.2.lt;replace q1:=zh q1;clear ae aj ho
 go_wp2_with fail
 show Code.wp _ _ _ _ _
 go_quiet (fail)
 obtain⟨W,hW⟩:∃W,W=w1.drewN nq:=⟨_,rfl⟩;have qW:Hid (SumBoxes W w.heap.size g1 g1 a b c d):=by rw[hW];exact q1.o
 have ad:Hid (Below w.heap.size w W):=by rw[hW];exact Dc ai.o nq
 rw[<-hW];clear a1 a2 a3 a4 a5 a6 b1 b2 b3 b4 b5 b6 c1 c2 c3 c4 c5 c6 ap l0 l1 l2 hW q1 ai;obtain⟨a1,a2,a3,a4,a5,a6⟩:=qW.o.1.facts;obtain⟨b1,b2,b3,b4,b5,b6⟩:=qW.o.2.1.facts
 go_wp2_with fail
 refine(X9 (some (a*d)) (some (c*b)) _ (hE.o.below ad.o) (At (by have:=HS.o;omega)) (At (by have:=HS.o;omega))).q fun w2 af=>?_;rw[hA.o.1,hA.o.2];have q2:=qW.o.below af;have aa:=ad.t af;clear a1 a2 a3 a4 a5 a6 b1 b2 b3 b4 b5 b6 af;obtain⟨a1,a2,a3,a4,a5,a6⟩:=q2.1.facts;obtain⟨b1,b2,b3,b4,b5,b6⟩:=q2.2.1.facts;replace q2:=zh q2
 go_wp2_with fail
 refine(Dl g1 (a*d+c*b) (b*d) _ (hE.o.below aa.o) (by have:=HS.o;omega) (by have:=HS.o;omega) ah.o).q fun w3 ag=>?_;have q3:=q2.o.below ag;have am:=aa.t ag;clear a1 a2 a3 a4 a5 a6 b1 b2 b3 b4 b5 b6 ag;obtain⟨c1,c2,c3,c4,c5,c6⟩:=q3.2.2.facts;replace q3:=zh q3;unfold qv;go_wp2;refine zm (v:=.tuple #[.agg #[.bool (decide ((mkRat (sg g1 (a*d+c*b)) (b*d)).num<0)),.string (T (some (mkRat (sg g1 (a*d+c*b)) (b*d)).num.natAbs)),.string (T (some (mkRat (sg g1 (a*d+c*b)) (b*d)).den))],.int .i64 0]) (by simp[results,results104,go_sem,c1,c2,c3]) rfl ⟨rfl,?_⟩
 repeat refine yH ?_ (by simp only[];omega) _
 exact am.o
theorem Pa(g1 g2:Bool)(a b c d:Nat)(w:World)(hE:Env w)(ha:a<L1)(hb:b<L1)(hc:c<L1)(hd:d<L1)(am:b≠0)(an:d≠0)(hg:(g1==g2)=false)(hl:a*d<c*b):
 Calls prog 104 #[.agg #[.bool g1,.string (T (some a)),.string (T (some b))],.agg #[.bool g2,.string (T (some c)),.string (T (some d))]] w fun e w'=>e=.returned (.tuple #[qv (mkRat (sg g2 (c*b-a*d)) (b*d)),.int .i64 0])/\Below w.heap.size w w':=by
 have ai:b*d≠0:=xt am an;have HS:=zh (And.intro (C7 ha hd) (And.intro (C7 hc hb) (And.intro (C7 hb hd) Jf)))
 have HP:Hid (∀p∈[(a,d),(c,b),(b,d)],p.1<Lim/\p.2<Lim/\p.1*p.2<Lim):=by
  have:=HS.o;intro p hp;simp only[yW,yK,xy]at hp
  rcases hp with rfl|rfl|rfl
  .exact⟨AH ha,AH hd,by show a*d<Lim;omega⟩
  .exact⟨AH hc,AH hb,by show c*b<Lim;omega⟩
  exact⟨AH hb,AH hd,by show b*d<Lim;omega⟩
 have aq:Hid (Ef ((Dx w g1 g2 a b c d).alloc (.cells #[.string (T (some a)),.string (T (some d)),.string (T (some c)),.string (T (some b)),.string (T (some b)),.string (T (some d))] 192)) (w.heap.size+1+1+1) [(a,d),(c,b),(b,d)]):=by
  have:=MB (Dx w g1 g2 a b c d) a d c b b d
  rwa [show (Dx w g1 g2 a b c d).heap.size=w.heap.size+1+1+1 by simp]at this
 have ab:Hid (Below w.heap.size w ((Dx w g1 g2 a b c d).alloc (.cells #[.string (T (some a)),.string (T (some d)),.string (T (some c)),.string (T (some b)),.string (T (some b)),.string (T (some d))] 192))):=(BO w g1 g2 a b c d).alloc (BO w g1 g2 a b c d).size _;have ar:Hid (SumBoxes ((Dx w g1 g2 a b c d).alloc (.cells #[.string (T (some a)),.string (T (some d)),.string (T (some c)),.string (T (some b)),.string (T (some b)),.string (T (some d))] 192)) w.heap.size g1 g2 a b c d):=(SumBoxes.new w g1 g2 a b c d).alloc _;replace hE:=zh hE;replace ai:=zh ai;clear ha hb hc hd am an;have ap:Hid (TX (some (a*d)) (some (c*b))=0):=rfl;have ak:Hid (TT (some (c*b)) (some (a*d))=some (c*b-a*d)/\TU (some (c*b)) (some (a*d))=0):=⟨zD (by omega),zD (by omega)⟩;have hC:Hid (QZ (some (a*d)) (some (c*b))=-1):=Ed hl;replace hl:=zh hl;go_enter func104,ntmps104
 go_wp2_with fail
 refine(CT _ (hE.o.below ab.o) (w.heap.size+1+1+1) 3 [(a,d),(c,b),(b,d)] (by simp) (by simp) aq.o HP.o).mono ?_;rintro e w1 ⟨⟨v,rfl,ho⟩,ae⟩;have al:Ee w1 v [a*d,c*b,b*d]:=FR ho (by simp);obtain⟨lg,lcap,rfl,l0,l1,l2⟩:=MA al;have q1:=ar.o.below ae;have aj:=ab.t ae;obtain⟨a1,a2,a3,a4,a5,a6⟩:=q1.1.facts;obtain⟨b1,b2,b3,b4,b5,b6⟩:=q1.2.1.facts;obtain⟨c1,c2,c3,c4,c5,c6⟩:=q1.2.2.facts;have au:=q1.2.2.lt;replace q1:=zh q1;clear ae al ho
 go_wp2_with fail
 show Code.wp _ _ _ _ _
 go_quiet (fail)
 obtain⟨W,hW⟩:∃W,W=w1.drewN nq:=⟨_,rfl⟩;have qW:Hid (SumBoxes W w.heap.size g1 g2 a b c d):=by rw[hW];exact q1.o
 have ad:Hid (Below w.heap.size w W):=by rw[hW];exact Dc aj.o nq
 rw[<-hW];clear a1 a2 a3 a4 a5 a6 b1 b2 b3 b4 b5 b6 c1 c2 c3 c4 c5 c6 au l0 l1 l2 hW q1 aj;obtain⟨a1,a2,a3,a4,a5,a6⟩:=qW.o.1.facts;obtain⟨b1,b2,b3,b4,b5,b6⟩:=qW.o.2.1.facts
 go_wp2_with fail
 refine(WO (some (a*d)) (some (c*b)) _ (hE.o.below ad.o) (At (by have:=HS.o;omega)) (At (by have:=HS.o;omega))).q fun w2 af=>?_;rw[hC.o,ap.o];have q2:=qW.o.below af;have h:=ad.t af;clear a1 a2 a3 a4 a5 a6 b1 b2 b3 b4 b5 b6 af;obtain⟨a1,a2,a3,a4,a5,a6⟩:=q2.1.facts;obtain⟨b1,b2,b3,b4,b5,b6⟩:=q2.2.1.facts;replace q2:=zh q2
 go_wp2_with fail
 refine(WN (some (c*b)) (some (a*d)) _ (hE.o.below h.o) (At (by have:=HS.o;omega)) (At (by have:=HS.o;omega))).q fun w3 ag=>?_;rw[ak.o.1,ak.o.2];have q3:=q2.o.below ag;have aa:=h.t ag;clear a1 a2 a3 a4 a5 a6 b1 b2 b3 b4 b5 b6 ag;obtain⟨a1,a2,a3,a4,a5,a6⟩:=q3.1.facts;obtain⟨b1,b2,b3,b4,b5,b6⟩:=q3.2.1.facts;replace q3:=zh q3
 go_wp2_with fail
 refine(Dl g2 (c*b-a*d) (b*d) _ (hE.o.below aa.o) (by have:=HS.o;omega) (by have:=HS.o;omega) ai.o).q fun w4 ah=>?_;have q4:=q3.o.below ah;have ao:=aa.t ah;clear a1 a2 a3 a4 a5 a6 b1 b2 b3 b4 b5 b6 ah;obtain⟨c1,c2,c3,c4,c5,c6⟩:=q4.2.2.facts;replace q4:=zh q4;unfold qv;go_wp2;refine zm (v:=.tuple #[.agg #[.bool (decide ((mkRat (sg g2 (c*b-a*d)) (b*d)).num<0)),.string (T (some (mkRat (sg g2 (c*b-a*d)) (b*d)).num.natAbs)),.string (T (some (mkRat (sg g2 (c*b-a*d)) (b*d)).den))],.int .i64 0]) (by simp[results,results104,go_sem,c1,c2,c3]) rfl ⟨rfl,?_⟩
 repeat refine yH ?_ (by simp only[];omega) _
 exact ao.o
theorem Pb(g1 g2:Bool)(a b c d:Nat)(w:World)(hE:Env w)(ha:a<L1)(hb:b<L1)(hc:c<L1)(hd:d<L1)(am:b≠0)(ao:d≠0)(hg:(g1==g2)=false)(hl:c*b<=a*d):
 Calls prog 104 #[.agg #[.bool g1,.string (T (some a)),.string (T (some b))],.agg #[.bool g2,.string (T (some c)),.string (T (some d))]] w fun e w'=>e=.returned (.tuple #[qv (mkRat (sg g1 (a*d-c*b)) (b*d)),.int .i64 0])/\Below w.heap.size w w':=by
 have ai:b*d≠0:=xt am ao;have HS:=zh (And.intro (C7 ha hd) (And.intro (C7 hc hb) (And.intro (C7 hb hd) Jf)))
 have HP:Hid (∀p∈[(a,d),(c,b),(b,d)],p.1<Lim/\p.2<Lim/\p.1*p.2<Lim):=by
  have:=HS.o;intro p hp;simp only[yW,yK,xy]at hp
  rcases hp with rfl|rfl|rfl
  .exact⟨AH ha,AH hd,by show a*d<Lim;omega⟩
  .exact⟨AH hc,AH hb,by show c*b<Lim;omega⟩
  exact⟨AH hb,AH hd,by show b*d<Lim;omega⟩
 have ar:Hid (Ef ((Dx w g1 g2 a b c d).alloc (.cells #[.string (T (some a)),.string (T (some d)),.string (T (some c)),.string (T (some b)),.string (T (some b)),.string (T (some d))] 192)) (w.heap.size+1+1+1) [(a,d),(c,b),(b,d)]):=by
  have:=MB (Dx w g1 g2 a b c d) a d c b b d
  rwa [show (Dx w g1 g2 a b c d).heap.size=w.heap.size+1+1+1 by simp]at this
 have ab:Hid (Below w.heap.size w ((Dx w g1 g2 a b c d).alloc (.cells #[.string (T (some a)),.string (T (some d)),.string (T (some c)),.string (T (some b)),.string (T (some b)),.string (T (some d))] 192))):=(BO w g1 g2 a b c d).alloc (BO w g1 g2 a b c d).size _;have au:Hid (SumBoxes ((Dx w g1 g2 a b c d).alloc (.cells #[.string (T (some a)),.string (T (some d)),.string (T (some c)),.string (T (some b)),.string (T (some b)),.string (T (some d))] 192)) w.heap.size g1 g2 a b c d):=(SumBoxes.new w g1 g2 a b c d).alloc _;replace hE:=zh hE;replace ai:=zh ai;clear ha hb hc hd am ao;have aq:Hid (TX (some (a*d)) (some (c*b))=0):=rfl;have ak:Hid (TT (some (a*d)) (some (c*b))=some (a*d-c*b)/\TU (some (a*d)) (some (c*b))=0):=⟨zD (by omega),zD (by omega)⟩;obtain⟨cv,an,aw⟩:∃cv:Int,cv=QZ (some (a*d)) (some (c*b))/\0<=cv:=⟨_,rfl,by show 0<=BG (a*d) (c*b);unfold BG;rw[zC (by omega)];split<;>omega⟩;have hC:Hid (QZ (some (a*d)) (some (c*b))=cv):=an.symm;clear an;replace hl:=zh hl;go_enter func104,ntmps104
 go_wp2_with fail
 refine(CT _ (hE.o.below ab.o) (w.heap.size+1+1+1) 3 [(a,d),(c,b),(b,d)] (by simp) (by simp) ar.o HP.o).mono ?_;rintro e w1 ⟨⟨v,rfl,ho⟩,ae⟩;have al:Ee w1 v [a*d,c*b,b*d]:=FR ho (by simp);obtain⟨lg,lcap,rfl,l0,l1,l2⟩:=MA al;have q1:=au.o.below ae;have aj:=ab.t ae;obtain⟨a1,a2,a3,a4,a5,a6⟩:=q1.1.facts;obtain⟨b1,b2,b3,b4,b5,b6⟩:=q1.2.1.facts;obtain⟨c1,c2,c3,c4,c5,c6⟩:=q1.2.2.facts;have av:=q1.2.2.lt;replace q1:=zh q1;clear ae al ho
 go_wp2_with fail
 show Code.wp _ _ _ _ _
 go_quiet (fail)
 obtain⟨W,hW⟩:∃W,W=w1.drewN nq:=⟨_,rfl⟩;have qW:Hid (SumBoxes W w.heap.size g1 g2 a b c d):=by rw[hW];exact q1.o
 have ad:Hid (Below w.heap.size w W):=by rw[hW];exact Dc aj.o nq
 rw[<-hW];clear a1 a2 a3 a4 a5 a6 b1 b2 b3 b4 b5 b6 c1 c2 c3 c4 c5 c6 av l0 l1 l2 hW q1 aj;obtain⟨a1,a2,a3,a4,a5,a6⟩:=qW.o.1.facts;obtain⟨b1,b2,b3,b4,b5,b6⟩:=qW.o.2.1.facts
 go_wp2_with fail
 refine(WO (some (a*d)) (some (c*b)) _ (hE.o.below ad.o) (At (by have:=HS.o;omega)) (At (by have:=HS.o;omega))).q fun w2 af=>?_;rw[hC.o,aq.o];have q2:=qW.o.below af;have h:=ad.t af;clear a1 a2 a3 a4 a5 a6 b1 b2 b3 b4 b5 b6 af;obtain⟨a1,a2,a3,a4,a5,a6⟩:=q2.1.facts;obtain⟨b1,b2,b3,b4,b5,b6⟩:=q2.2.1.facts;replace q2:=zh q2
 go_wp2_with fail
 refine(WN (some (a*d)) (some (c*b)) _ (hE.o.below h.o) (At (by have:=HS.o;omega)) (At (by have:=HS.o;omega))).q fun w3 ag=>?_;rw[ak.o.1,ak.o.2];have q3:=q2.o.below ag;have aa:=h.t ag;clear a1 a2 a3 a4 a5 a6 b1 b2 b3 b4 b5 b6 ag;obtain⟨a1,a2,a3,a4,a5,a6⟩:=q3.1.facts;obtain⟨b1,b2,b3,b4,b5,b6⟩:=q3.2.1.facts;replace q3:=zh q3
 go_wp2_with fail
 refine(Dl g1 (a*d-c*b) (b*d) _ (hE.o.below aa.o) (by have:=HS.o;omega) (by have:=HS.o;omega) ai.o).q fun w4 ah=>?_;have q4:=q3.o.below ah;have ap:=aa.t ah;clear a1 a2 a3 a4 a5 a6 b1 b2 b3 b4 b5 b6 ah;obtain⟨c1,c2,c3,c4,c5,c6⟩:=q4.2.2.facts;replace q4:=zh q4;unfold qv;go_wp2;refine zm (v:=.tuple #[.agg #[.bool (decide ((mkRat (sg g1 (a*d-c*b)) (b*d)).num<0)),.string (T (some (mkRat (sg g1 (a*d-c*b)) (b*d)).num.natAbs)),.string (T (some (mkRat (sg g1 (a*d-c*b)) (b*d)).den))],.int .i64 0]) (by simp[results,results104,go_sem,c1,c2,c3]) rfl ⟨rfl,?_⟩
 repeat refine yH ?_ (by simp only[];omega) _
 exact ap.o
theorem AD(W:World)(B b o:Nat)(x y z:Value)(h:b≠B):(((W.setCell ⟨B,0,none⟩ x).setCell ⟨B,1,none⟩ y).setCell ⟨B,2,none⟩ z).cell? ⟨b,o,none⟩=W.cell? ⟨b,o,none⟩ :=
 zT (w:=W) (a:=⟨b,o,none⟩) (((ze _ _ _ _ (by exact h)).trans (ze _ _ _ _ (by exact h))).trans (ze _ _ _ _ (by exact h)))
theorem GM(g1 g2:Bool)(a b c d:Nat)(w:World)(hE:Env w)(ha:a<Lim)(hb:b<Lim)(hc:c<Lim)(hd:d<Lim)(ab:a*c<Lim)(ae:b*d<Lim)(h0:b*d≠0):
 Calls prog 102 #[.agg #[.bool g1,.string (T (some a)),.string (T (some b))],.agg #[.bool g2,.string (T (some c)),.string (T (some d))]] w fun e w'=>e=.returned (.tuple #[qv (mkRat (sg (!(g1==g2)) (a*c)) (b*d)),.int .i64 0])/\Below w.heap.size w w':=by
 have HP:Hid (∀p∈[(a,c),(b,d)],p.1<Lim/\p.2<Lim/\p.1*p.2<Lim):=by
  intro p hp;simp only[yW,yK,xy]at hp
  rcases hp with rfl|rfl
  .exact⟨ha,hc,ab⟩
  exact⟨hb,hd,ae⟩
 have aj:Hid (Ef ((Dx w g1 g2 a b c d).alloc (.cells #[.string (T (some a)),.string (T (some c)),.string (T (some b)),.string (T (some d))] 192)) (w.heap.size+1+1+1) [(a,c),(b,d)]):=by
  have:=VI (Dx w g1 g2 a b c d) a c b d
  rwa [show (Dx w g1 g2 a b c d).heap.size=w.heap.size+1+1+1 by simp]at this
 have af:Hid (Below w.heap.size w ((Dx w g1 g2 a b c d).alloc (.cells #[.string (T (some a)),.string (T (some c)),.string (T (some b)),.string (T (some d))] 192))):=(BO w g1 g2 a b c d).alloc (BO w g1 g2 a b c d).size _;have ak:Hid (SumBoxes ((Dx w g1 g2 a b c d).alloc (.cells #[.string (T (some a)),.string (T (some c)),.string (T (some b)),.string (T (some d))] 192)) w.heap.size g1 g2 a b c d):=(SumBoxes.new w g1 g2 a b c d).alloc _;replace hE:=zh hE;replace h0:=zh h0;replace ab:=zh ab;replace ae:=zh ae;clear ha hb hc hd;go_enter func102,ntmps102
 go_wp2_with fail
 refine(CT _ (hE.o.below af.o) (w.heap.size+1+1+1) 2 [(a,c),(b,d)] (by simp) (by simp) aj.o HP.o).mono ?_;rintro e w1 ⟨⟨v,rfl,ho⟩,ag⟩;have ah:Ee w1 v [a*c,b*d]:=FR ho (by simp);obtain⟨lg,lcap,rfl,ai,l0,l1⟩:=VH ah
 have al:w.heap.size+1+1+1<lg:=by
  have h1:=(ho.lt lg rfl).1;simp at h1;omega
 have q1:=ak.o.below ag;have aa:=af.t ag;obtain⟨a1,a2,a3,a4,a5,a6⟩:=q1.1.facts;obtain⟨b1,b2,b3,b4,b5,b6⟩:=q1.2.1.facts;obtain⟨c1,c2,c3,c4,c5,c6⟩:=q1.2.2.facts;have am:=q1.2.2.lt;replace q1:=zh q1;clear ag ah ho
 go_wp2_with fail
 have hl:=fun W (h:Below w1.heap.size w1 W)=>Dl (!(g1==g2)) (a*c) (b*d) W (hE.o.below (aa.o.trans (h.mono aa.o.size))) ab.o ae.o h0.o;simp only[qv]at hl;have q1d:Hid (SumBoxes w1.drew w.heap.size g1 g2 a b c d):=q1.o
 go_region_held3 (fun w'=>w'.cell? ⟨w.heap.size,0,none⟩=some (.bool g1)/\w'.cell? ⟨w.heap.size+1,0,none⟩=some (.bool g2)/\w'.cell? ⟨lg,0,none⟩=some (.string (T (some (a*c))))/\w'.cell? ⟨lg,1,none⟩=some (.string (T (some (b*d))))) (first|exact⟨a1,b1,l0,l1⟩|exact⟨k1,k2,k3,k4⟩|exact⟨(AD _ _ _ _ _ _ _ (by omega)).trans k1,(AD _ _ _ _ _ _ _ (by omega)).trans k2,(AD _ _ _ _ _ _ _ (by omega)).trans k3,(AD _ _ _ _ _ _ _ (by omega)).trans k4⟩|go_keep)
  (first|(go_at_call 108;refine(hl _ ?_).mono ?_;(exact(zI _ _).drew);rintro e w2 ⟨rfl,ad⟩;have q2:=q1d.o.below ad;obtain⟨c1',c2',c3',c4',c5',c6'⟩:=q2.2.2.facts;have k1:=q2.1.facts.1;have k2:=q2.2.1.facts.1;have k3:=(ad.cell (p:=⟨lg,0,none⟩) ai).trans l0;have k4:=(ad.cell (p:=⟨lg,1,none⟩) ai).trans l1))
 go_wp2;refine zm (v:=.tuple #[.agg #[.bool (decide ((mkRat (sg (!(g1==g2)) (a*c)) (b*d)).num<0)),.string (T (some (mkRat (sg (!(g1==g2)) (a*c)) (b*d)).num.natAbs)),.string (T (some (mkRat (sg (!(g1==g2)) (a*c)) (b*d)).den))],.int .i64 0]) (by simp[results,results102,go_sem,c1',c2',c3']) rfl ⟨rfl,?_⟩
 repeat refine yH ?_ (by simp only[];omega) _
 exact(aa.o.drew).trans (ad.mono aa.o.size)
theorem Uc(g:Bool)(n d:ByteArray)(w:World):
 Calls prog 123 #[.agg #[.bool g,.string n,.string d]] w fun e w'=>e=.returned (.agg #[.bool (!g&&!(n.toList==[48])),.string n,.string d])/\Below w.heap.size w w':=by
 cases g with
 |true=>
  go_enter func123,ntmps123;go_wp2;refine zm (v:=.agg #[.bool false,.string n,.string d]) (by simp[results,results123,go_sem]) rfl ⟨rfl,?_⟩
  repeat refine yH ?_ (by simp only[];omega) _
  exact((zI _ w).alloc (zB _) _).alloc (by simp) _
 |false=>
  cases hz:(n.toList==[48]) with
  |true=>
   go_enter func123,ntmps123;go_wp2;refine zm (v:=.agg #[.bool false,.string n,.string d]) (by simp[results,results123,go_sem]) rfl ⟨rfl,?_⟩
   repeat refine yH ?_ (by simp only[];omega) _
   exact((zI _ w).alloc (zB _) _).alloc (by simp) _
  |false=>
   go_enter func123,ntmps123;go_wp2;refine zm (v:=.agg #[.bool true,.string n,.string d]) (by simp[results,results123,go_sem]) rfl ⟨rfl,?_⟩
   repeat refine yH ?_ (by simp only[];omega) _
   exact((zI _ w).alloc (zB _) _).alloc (by simp) _
end Nt
end
end Go.Proofs.YtefmpngjjmddjaaGreatDoor

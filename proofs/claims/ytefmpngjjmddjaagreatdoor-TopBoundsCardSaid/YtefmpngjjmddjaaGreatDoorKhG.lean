/- Parts of the proof. -/
import Derived.Test.YtefmpngjjmddjaaGreatDoorKhF
set_option maxHeartbeats 64000000
set_option maxRecDepth 1000000
open Go.Proofs.Tryz
namespace Go.Proofs.YtefmpngjjmddjaaGreatDoor
theorem tkhG{P:Program}{md:Region.Mode}{ops:Array Oper}{Q:Exit->Act->World->Prop}{S:World->Prop}{oi:Oper}{v:Value}{fuel:Nat}{listed:Array Bool}{a:Act}{w:World}(i:Nat)(hi:ops[i]?=some oi)(hS:S w)(hy:YieldsIf P ops S oi v a)(h:wpAnyH P md ops Q S fuel (listed.setIfInBounds i true) (a.put oi.dst v) w)(hs:Region.noSelect ops=true:=by kernel_rfl)(hf:Region.free md ops listed i=true:=by kernel_rfl)(hr:(Region.ready md ops listed).contains i=true:=by kernel_rfl)(hQ:∀c a w,Q (.panic c) (a.put oi.dst v) w->Q (.panic c) a w:=by exact fun _ _ _ h=>h):wpAnyH P md ops Q S (fuel+1) listed a w:=xZ hi hs hf hr hQ hy hS h
section
open Go.RowKit Go.Shelf
namespace Sh
open Nt Ci
theorem QI{S:Rat->Bool}{L:List Lp}{u:List Nat}{val:Nat->Rat}{p:Nat}(h:p∉u):Cx S L u val p=val p:=by
 unfold Cx
 cases AB S u.length u.length (Bg L u val) with
 |ok M=>exact zE h
 |error _=>rfl
theorem Dm{l:List Nat}{i x:Nat}(h:i<l.length):x∈l.take (i+1)<->x∈l.take i\/x=l[i]:=by
 rw[zP h,yc,xE]
theorem Kg{S:Rat->Bool}{L:List Lp}{u:List Nat}:∀(us:List (List Nat)) (val:Nat->Rat),NS S L (us++[u]) val=Cx S L u (NS S L us val)
 | [],_=>rfl
 |_::us,_=>Kg us _
theorem Ready.take{L:List Lp}{F:List Nat}:∀{us:List (List Nat)} {done:List Nat} (k:Nat),Ready L F done us->Ready L F done (us.take k)
 | [],_,k,_=>by rw[List.take_nil];trivial
 |_::_,_,0,_=>trivial
 |_::us,_,k+1,h=>⟨h.1,Ready.take k h.2⟩
theorem Ready.at{L:List Lp}{F:List Nat}:∀{us:List (List Nat)} {done:List Nat} (k:Nat) (hk:k<us.length),Ready L F done us->Nxt L F (done++(us.take k).flatten) us[k]
 |u::us,done,0,_,h=>by simpa using h.1
 |u::us,done,k+1,hk,h=>by
  have:=Ready.at (done:=done++u) k (by simpa using hk) h.2
  simpa [xr] using this
noncomputable def DM(L:List Lp)(F:List Nat)(us:List (List Nat))(k:Nat):Nat->Rat:=NS SQ L (us.take k) fun p=>if p∈F then 1 else 0
theorem Ol{L:List Lp}{F:List Nat}{us:List (List Nat)}{k:Nat}(hk:k<us.length):DM L F us (k+1)=Cx SQ L us[k] (DM L F us k):=by
 unfold DM;rw[zP hk,Kg]
theorem Fv{us:List (List Nat)}{k:Nat}(hk:k<us.length):(us.take k).flatten.length+us[k].length<=us.flatten.length:=by
 have h:=congrArg (fun l=>(List.flatten l).length) (xP (k+1) us);simp only[xj,zX,zP hk,wV,List.flatten_nil,xV]at h;omega
theorem QJ{n:Nat}{L:List Lp}{F:List Nat}{us:List (List Nat)}(hL:Caps n L)(hr:Ready L F [] us)(aa:us.flatten.length<=16)(k:Nat):
 ∃D,D<=6000^16/\Inv L F (us.take k).flatten (DM L F us k) D:=by
 have d:(us.take k).flatten.length<=16:=by
  have h:=congrArg (fun l=>(List.flatten l).length) (xP k us);simp only[xj,zX]at h;omega
 obtain⟨D,hD⟩:=Inv.run hL KN (us.take k) [] _ 1 (Inv.start L F) (hr.take k) (by simpa using d);rw[yM]at hD;exact⟨D,zQ hD.dle (zj (by omega) d),hD⟩
theorem Inv.vals{L:List Lp}{F done:List Nat}{val:Nat->Rat}{D:Nat}(h:Inv L F done val D)(hD:D<=6000^16):Vals val D:=⟨h.rng,h.dp,hD,h.whole⟩
theorem Om{L:List Lp}{F:List Nat}{us:List (List Nat)}(hr:Ready L F [] us){k:Nat}(hk:k<us.length):Nxt L F (us.take k).flatten us[k]:=by
 have:=hr.at k hk
 rwa [yM]at this
noncomputable def IM(L:List Lp)(u:List Nat)(val:Nat->Rat)(i:Nat):Nat->Rat:=fun p=>if p∈u.take i then Cx SQ L u val p else val p
theorem TO{L:List Lp}{u:List Nat}{val:Nat->Rat}:IM L u val 0=val:=by funext p;unfold IM;simp
theorem TP{L:List Lp}{u:List Nat}{val:Nat->Rat}{i:Nat}(h:i<u.length)(x:Nat):(if x=u[i] then Cx SQ L u val u[i] else IM L u val i x)=IM L u val (i+1) x:=by
 unfold IM
 by_cases e:x=u[i]
 .rw[zF e,zF ((Dm h).2 (.inr e)),e]
 rw[zE e]
 by_cases e2:x∈u.take i
 .rw[zF e2,zF ((Dm h).2 (.inl e2))]
 rw[zE e2,zE fun c=>((Dm h).1 c).elim e2 e]
theorem VO{L:List Lp}{u:List Nat}{val:Nat->Rat}:IM L u val u.length=Cx SQ L u val:=by
 funext p
 unfold IM;rw[zu]
 by_cases e:p∈u
 .rw[zF e]
 rw[zE e,QI e]
noncomputable def H8(F:List Nat)(k:Nat):Nat->Rat:=fun p=>if p∈F.take k then 1 else 0
theorem QK{F:List Nat}:H8 F 0=fun _=>0:=by funext p;unfold H8;simp
theorem QL{F:List Nat}{k p:Nat}(h:F[k]? = some p)(x:Nat):(if x=p then (1:Rat) else H8 F k x)=H8 F (k+1) x:=by
 obtain⟨hk,rfl⟩:=List.getElem?_eq_some_iff.1 h;unfold H8
 by_cases e:x=F[k]
 .rw[zF e,zF ((Dm hk).2 (.inr e))]
 rw[zE e]
 by_cases e2:x∈F.take k
 .rw[zF e2,zF ((Dm hk).2 (.inl e2))]
 rw[zE e2,zE fun c=>((Dm hk).1 c).elim e2 e]
theorem TQ{L:List Lp}{F:List Nat}{us:List (List Nat)}:H8 F F.length=DM L F us 0:=by
 funext p;unfold H8 DM;rw[zu,va];rfl
theorem QM{s:SR}{l:List (Option Addr×Nat×List Int)}(h:baR l=DW s){k:Nat}(hk:k<l.length):∃hc:k<(Ax s.ps.length (Ah s)).length,l[k].2.2=((Ax s.ps.length (Ah s))[k]).map fun(q:Nat)=>(q:Int):=by
 have hl:=congrArg List.length h;simp only[baR,DW,zW]at hl;refine⟨by omega,?_⟩;have h1:(baR l)[k]'(by simpa [baR] using hk)=(DW s)[k]'(by simp[DW];omega):=by simp only[h]
 simpa [baR,DW] using h1
noncomputable def CU(n:Nat)(E:List (Nat×Nat))(F:List Nat)(t:Nat):List (List Nat):=((Ax n E).take t).map (unk E F)
noncomputable def GW(n:Nat)(E:List (Nat×Nat))(F:List Nat)(t:Nat):List (List Nat):=(CU n E F t).filter fun u=>decide (u≠[])
section
variable {n:Nat} {E:List (Nat×Nat)} {F:List Nat} {t:Nat}
theorem Fw(h:t<(Ax n E).length):CU n E F (t+1)=CU n E F t++[unk E F (Ax n E)[t]]:=by
 unfold CU;rw[zP h,yD,List.map_singleton]
theorem EW:CU n E F (Ax n E).length=BQ n E F:=by unfold CU BQ;rw[zu]
theorem TR:GW n E F (Ax n E).length=Hs n E F:=by unfold GW Hs;rw[EW]
theorem TS(h:t<(Ax n E).length)(h0:unk E F (Ax n E)[t]=[]):GW n E F (t+1)=GW n E F t:=by
 unfold GW;rw[Fw h,yQ,h0];simp
theorem QN(h:t<(Ax n E).length)(h0:unk E F (Ax n E)[t]≠[]):GW n E F (t+1)=GW n E F t++[unk E F (Ax n E)[t]]:=by
 unfold GW;rw[Fw h,yQ];simp[h0]
theorem Kh:(CU n E F t).flatten.length<=(BQ n E F).flatten.length:=by
 have e:CU n E F t=(BQ n E F).take t:=by unfold CU BQ;rw[List.map_take]
 rw[e];have h:=congrArg (fun l=>(List.flatten l).length) (xP t (BQ n E F));simp only[xj,zX]at h;omega
theorem On(h:t<(Ax n E).length):(CU n E F (t+1)).flatten.length=(CU n E F t).flatten.length+(unk E F (Ax n E)[t]).length:=by
 rw[Fw h,xj,zX];simp
theorem Mt:(GW n E F t).length<=t:=by
 unfold GW CU;refine zQ (zy _ _) ?_;rw[zW,xI];omega
theorem TT(h:t<(Ax n E).length)(h8:8<(unk E F (Ax n E)[t]).length):AX n E F=true:=by
 unfold AX;rw[Bool.or_eq_true,List.any_eq_true];refine .inl ⟨_,?_,zG h8⟩;unfold BQ;exact List.mem_map.2 ⟨_,zO h,rfl⟩
theorem TU(h:16<(CU n E F (Ax n E).length).flatten.length):AX n E F=true:=by
 unfold AX;rw[EW]at h;rw[zG h,Bool.or_true]
theorem VP(h:(CU n E F (Ax n E).length).flatten.length<=16)(h8:∀u,u∈CU n E F (Ax n E).length->u.length<=8):AX n E F=false:=by
 unfold AX;rw[EW]at h h8;rw[zH (by omega),Bool.or_false];refine Bool.eq_false_iff.2 fun c=>?_;obtain⟨u,hu,h9⟩:=List.any_eq_true.1 c;have:=zL h9;have:=h8 u hu;omega
theorem TV{c:List Nat}{i:Nat}(h:i<c.length):unk E F (c.take (i+1))=unk E F (c.take i)++if 0<rk E F c[i] then [c[i]] else []:=by
 unfold unk;rw[zP h,yQ]
 congr 1
 by_cases d:0<rk E F c[i]
 .simp[d]
 simp[d]
theorem QO{k i:Nat}(hE:InN n E)(hk:k<(Ax n E).length)(hi:i<((Ax n E)[k]).length):((Ax n E)[k])[i]<n/\at' n E ((Ax n E)[k])[i]=k:=by
 have hm:=zO hi
 have d:∀q,q∈(Ax n E)[k]->q<n:=by
  rw[Fp];exact fun q hq=>(CL.1 hq).1
 have h1:((Ax n E)[k])[i]<n:=d _ hm;exact⟨h1,((GN hE h1 hk).1 hm).symm⟩
theorem IN(hE:InN n E){t:Nat}(h:t<(Ax n E).length):∀p,p∈(Ax n E)[t]->p<n:=fun p hp=>by
 obtain⟨i,hi,rfl⟩:=zi hp;exact(QO hE h hi).1
theorem Pk{c:List Nat}:(unk E F c).length<=c.length:=zy _ _
theorem QP(hE:InN n E){u:List Nat}(h:u∈Hs n E F):(∀p,p∈u->p<n)/\u∈CU n E F (Ax n E).length:=by
 have h1:=(List.mem_filter.1 h).1;refine⟨fun p hp=>?_,by rw[EW];exact h1⟩;obtain⟨c,hc,rfl⟩:=List.mem_map.1 h1;obtain⟨t,ht,rfl⟩:=zi hc;exact IN hE ht p (List.mem_filter.1 hp).1
theorem VQ{E:List Ent}(h:(E.map Ent.x).Nodup){k:Nat}(hk:k<E.length):E[k].x∉(E.take k).map Ent.x:=fun hm=>by
 obtain⟨e,he,hx⟩:=List.mem_map.1 hm;obtain⟨j,hj,rfl⟩:=zi he;rw[xI]at hj;rw[vI]at hx;have:=List.pairwise_iff_getElem.1 h j k (by rw[zW];omega) (by rw[zW];omega) (by omega);rw[yJ,yJ]at this;exact this hx
theorem Mu{L:List Lp}(hL:Caps n L):Ready L F [] (Hs n (Am L) F):=(GO hL.inN).drop_nil
end
end Sh
end
section
open Go.RowKit Go.Shelf
namespace Sh
open Nt Ci
theorem KU(A:Option Addr)(ca:Nat)(n:Int)(l:List Int)(w:World)(hA:InInt w A l)(hl:l.length<=140737488355328):
 Calls prog 34 #[.slice A l.length ca,.int .i64 n] w fun e w'=>e=.returned (.bool (AZ n l))/\w'=w:=by
 have ah:=zh (fun(k:Nat) (h:k<l.length) (hb:¬D5 n l k h)=>Ml h hb);have ag:=zh (Mm (n:=n) (l:=l));replace hA:=zh hA;go_enter func34,ntmps34;go_wp2
 go_loopw [9] (fun i wr=>wr=w/\∃k:Nat,k<=l.length/\i=.int .i64 (k:Int)/\Hid (∀j (h:j<l.length),j<k->D5 n l j h)) (fun i _=>l.length-(intOf i).toNat)
 case atStart=>exact⟨rfl,0,zS _,rfl,fun j _ h=>absurd h (yB _)⟩
 case round=>
  obtain⟨rfl,k,hk,rfl,hI⟩:=hrel;obtain⟨wq,rfl⟩:∃z,z=wr:=⟨_,rfl⟩
  by_cases hlt:k<l.length
  .obtain ⟨b1,o1,rfl,aj,ae⟩:=hA.o (by omega);have e1:wq.cell? ⟨b1,o1+k,none⟩=some (.int .i64 l[k]):=ae k hlt;have e0:Hid (0<k->wq.cell? ⟨b1,o1+(k-1),none⟩=some (.int .i64 (l[k-1]'(by omega)))):=fun h=>ae (k-1) (by omega);have ad:=zh (ah.o k hlt)
   have af:Hid (D5 n l k hlt->∀j (h:j<l.length),j<k+1->D5 n l j h):=fun h j h1 h3=>by
    by_cases e:j=k
    .subst e;exact h
    exact hI.o j h1 (by omega)
   have d:Hid (D5 n l k hlt<->(0<=l[k]/\l[k]<n)/\(0<k->l[k-1]'(by omega)<l[k])):=wH;obtain⟨x,hx⟩:∃x,x=l[k]:=⟨_,rfl⟩;rw[<-hx]at e1 d;have j0:(0:Int)<=(k:Int):=by omega
   have j1:(k:Int)<(l.length:Int):=by omega
   clear ae hI hx;have ai:x<0\/(0<=x/\n<=x)\/(0<=x/\x<n):=by omega
   rcases ai with h1|⟨h1,h2⟩|⟨h1,h2⟩
   .have hG:=zh (ad.o fun h=>by have:=(d.o.1 h).1.1;omega);have m1:decide (x<0)=true:=zG h1;go_wp2;go_ret;exact⟨Ad hG.o.symm,rfl⟩
   .have hG:=zh (ad.o fun h=>by have:=(d.o.1 h).1.2;omega);have m1:decide (x<0)=false:=zH (by omega);have m2:decide (n<=x)=true:=zG h2;go_wp2;go_ret;exact⟨Ad hG.o.symm,rfl⟩
   have m1:decide (x<0)=false:=zH (by omega);have m2:decide (n<=x)=false:=zH (by omega)
   by_cases hk0:k=0
   .have m3:decide (0<(k:Int))=false:=zH (by omega);have m4:decide (0<k)=false:=zH (by omega);have aa:=zh (af.o (d.o.2 ⟨⟨h1,h2⟩,fun h=>by omega⟩));replace hk0:=zh hk0;go_wp2;exact⟨⟨(by first|rfl|trivial),k+1,by omega,by go_num,aa⟩,by simp only[intOf];omega⟩
   have m3:decide (0<(k:Int))=true:=zG (by omega);have m4:decide (0<k)=true:=zG (by omega);have e2:=e0.o (by omega);obtain⟨y,hy⟩:∃y,y=l[k-1]'(by omega):=⟨_,rfl⟩;rw[<-hy]at e2;have j2:(0:Int)<=(k:Int)-1:=by omega
   have j3:(k:Int)-1<(l.length:Int):=by omega
   have j5:((k:Int)-1).toNat=k-1:=by omega
   by_cases hxy:y<x
   .have m5:decide (x<=y)=false:=zH (by omega);have aa:=zh (af.o (d.o.2 ⟨⟨h1,h2⟩,fun _=>by rw[<-hy];exact hxy⟩));replace hy:=zh hy;go_wp2;exact⟨⟨(by first|rfl|trivial),k+1,by omega,by go_num,aa⟩,by simp only[intOf];omega⟩
   have m5:decide (x<=y)=true:=zG (by omega);have hG:=zh (ad.o fun h=>by have h3:=(d.o.1 h).2 (by omega);rw[<-hy]at h3;omega);replace hy:=zh hy;go_wp2;go_ret;exact⟨Ad hG.o.symm,rfl⟩
  obtain rfl:k=l.length:=by omega
  have hG:=zh (ag.o fun j h=>hI.o j h h);clear hI;go_wp2;go_ret;exact⟨Ad hG.o.symm,rfl⟩
theorem Xp:(prog.info? 81).map (fun i=>(i.zero,i.size,i.bytes))=some (some (.pointer none),1,8):=by kernel_rfl
theorem QQ{n:Nat}{F:List Int}(h:AZ n F=true):F.length<=n:=by
 have hk:∀k (hk:k<F.length),(k:Int)<=F[k]:=fun k=>by
  induction k with
  |zero=>intro hk;exact(D6 h hk).1.1
  |succ k ih=>
   intro hk;have h1:=ih (by omega);have h2:=(D6 h hk).2 (by omega);simp only[vB]at h2;omega
 by_cases h0:0<F.length
 .have h1:=hk (F.length-1) (by omega);have h2:=(D6 h (by omega:F.length-1<F.length)).1.2;omega
 omega
theorem IOq{W W':World}{A:Option Addr}{l:List (Option Addr×Nat×List Int)}(h:TM W A l)(hb:Below W.heap.size W W'):TM W' A l:=fun h0=>by
 obtain⟨b,off,e,hl,hc⟩:=h h0;exact⟨b,off,e,zJ hl hb.size,fun j hj=>⟨(hb.cell (p:=⟨b,_,none⟩) hl).trans (hc j hj).1,(hc j hj).2.1.below hb,(hc j hj).2.2⟩⟩
theorem VMC.off{w:World}{vb mb n C b o:Nat}{val:Nat->Rat}{x:Value}(h:VMC w vb mb n val C)(hc:w.cell? ⟨b,o,none⟩=some x):b≠mb:=fun e=>by
 obtain⟨c,f,⟨D,⟨es,clock,hb,_⟩,_⟩,_⟩:=h.m;subst e;rw[World.cell?,hb]at hc
 cases hc
def KV(s:SR)(F:List Int)(w:World)(e:Ending)(w':World):Prop :=
 (if Ak s=true/\AZ s.ps.length F=true then
   (if AX s.ps.length (Ah s) (toN F)=true then e=.returned (.tuple #[.slice none 0 0,.int .i64 2])
    else ∃b,e=.returned (.tuple #[.slice (some ⟨b,0,none⟩) s.ps.length s.ps.length,.int .i64 0])/\w.heap.size<=b/\RowB w' b s.ps.length fun p=>rq (LX SQ s.ps.length (Ag s.cap) (toN F) p))
   else e=.returned (.tuple #[.slice none 0 0,.int .i64 1]))/\Below w.heap.size w w'
theorem Pm(s:SR)(Ap Ac Av Af:Option Addr)(cp cc cv cf:Nat)(F:List Int)(w:World)(hE:Env w)(hs:StIn w s Ap Ac Av)(cI:s.cap.length<=300)(hF:InInt w Af F)(du:F.length<=140737488355328):
 Calls prog 12 #[.agg #[.slice Ap s.ps.length cp,.slice Ac s.cap.length cc,.slice Av s.vot.length cv],.slice Af F.length cf] w (KV s F w):=by
 have et:=hs.np;have ad:Hid (Bk (w.alloc (.cells #[.slice Ap s.ps.length cp,.slice Ac s.cap.length cc,.slice Av s.vot.length cv] 32)) w.heap.size 32 (SC s Ap Ac Av cp cc cv)):=Bk.new w _ _;have ak:Hid (Below w.heap.size w (w.alloc (.cells #[.slice Ap s.ps.length cp,.slice Ac s.cap.length cc,.slice Av s.vot.length cv] 32))):=(zI _ w).alloc (zB _) _;have ba:Hid (∀e w',(¬(Ak s=true/\AZ s.ps.length F=true))->e=.returned (.tuple #[.slice none 0 0,.int .i64 1])->Below w.heap.size w w'->KV s F w e w'):=fun e w' h1 h2 h3=>⟨by rw[zE h1];exact h2,h3⟩;have bh:Hid (∀e w',Ak s=true/\AZ s.ps.length F=true->AX s.ps.length (Ah s) (toN F)=true->e=.returned (.tuple #[.slice none 0 0,.int .i64 2])->Below w.heap.size w w'->KV s F w e w'):=fun e w' h1 h2 h3 h4=>⟨by rw[zF h1,zF h2];exact h3,h4⟩;have bf:Hid (∀e w' b,Ak s=true/\AZ s.ps.length F=true->AX s.ps.length (Ah s) (toN F)=false->e=.returned (.tuple #[.slice (some ⟨b,0,none⟩) s.ps.length s.ps.length,.int .i64 0])->w.heap.size<=b->RowB w' b s.ps.length (fun p=>rq (LX SQ s.ps.length (Ag s.cap) (toN F) p))->Below w.heap.size w w'->KV s F w e w'):=fun e w' b h1 h2 h3 h4 h5 h6=>⟨by rw[zF h1,zE (by rw[h2];decide)];exact⟨b,h3,h4,h5⟩,h6⟩;have kS:=fun W (h:Below w.heap.size w W)=>Dk s Ap Ac Av cp cc cv W (hE.below h) (hs.below h);have c9:Hid (∀W,Below w.heap.size w W->StIn W s Ap Ac Av):=fun W h=>hs.below h;have kR:=zh (fun W (h:Below w.heap.size w W)=>Fs s Ap Ac Av Af cp cc cv cf F W (hE.below h) (c9.o W h) cI (hF.below h) du);have kC:=zh (fun W (h:Below w.heap.size w W)=>IL s Ap Ac Av cp cc cv W (hE.below h) (c9.o W h) cI);have kP:=fun W (h:Below w.heap.size w W)=>KU Af cf (s.ps.length:Int) F W (hF.below h) du;replace hE:=zh hE;replace hs:=zh hs;replace hF:=zh hF
 cases af:Ak s with
 |false=>
  have cY:Hid (¬(Ak s=true/\AZ s.ps.length F=true)):=fun h=>by rw[af]at h;cases h.1
  rw[af]at kS;replace kS:=zh kS;replace af:=zh af;have u0:=ad.o.c0;have u1:=ad.o.c1;have u2:=ad.o.c2;have u9:=ad.o.lt;go_enter func12,ntmps12
  go_wp2_with fail
  go_step3
  go_wp2_with fail
  refine(kS.o _ ak.o).q fun w1 hb=>?_;have aC:=ak.t hb;have ae:=zh (ad.o.below hb);clear hb kS ak ad u0 u1 u2 u9;go_wp2;rw[yN];go_ret2;exact ba.o _ _ cY.o rfl aC.o
 |true=>
  rw[af]at kS;replace kS:=zh kS;replace af:=zh af
  cases aw:AZ s.ps.length F with
  |false=>
   have cY:Hid (¬(Ak s=true/\AZ s.ps.length F=true)):=fun h=>by rw[aw]at h;cases h.2
   rw[aw]at kP;replace kP:=zh kP;replace aw:=zh aw;have u0:=ad.o.c0;have u1:=ad.o.c1;have u2:=ad.o.c2;have u9:=ad.o.lt;go_enter func12,ntmps12
   go_wp2_with fail
   go_step3
   go_wp2_with fail
   refine(kS.o _ ak.o).q fun w1 hb=>?_;have aC:=ak.t hb;have ae:=zh (ad.o.below hb);clear hb kS ak ad u0 u1 u2 u9;have u0:=ae.o.c0;have u1:=ae.o.c1;have u2:=ae.o.c2;have u9:=ae.o.lt
   go_wp2_with fail
   refine(kP.o _ aC.o).q fun wq hq=>?_;obtain rfl:=hq.symm;go_wp2;rw[yN];go_ret2;exact ba.o _ _ cY.o rfl aC.o
  |true=>
   rw[aw]at kP;replace kP:=zh kP;have u0:=ad.o.c0;have u1:=ad.o.c1;have u2:=ad.o.c2;have u9:=ad.o.lt;go_enter func12,ntmps12
   go_wp2_with fail
   go_step3
   go_wp2_with fail
   refine(kS.o _ ak.o).q fun w1 hb=>?_;have aC:=ak.t hb;have ae:=zh (ad.o.below hb);clear hb kS ak ad u0 u1 u2 u9;have u0:=ae.o.c0;have u1:=ae.o.c1;have u2:=ae.o.c2;have u9:=ae.o.lt
   go_wp2_with fail
   refine(kP.o _ aC.o).q fun wq hq=>?_;obtain rfl:=hq.symm;clear u0 u1 u2 u9;have bX:Hid (Ak s=true/\AZ s.ps.length F=true):=⟨af.o,aw⟩;have ez:=QQ aw;have es:=JX af.o;replace aw:=zh aw;clear kP ba;have kR1:=zh (kR.o w1 aC.o);have u0:=ae.o.c0;have u1:=ae.o.c1;have u2:=ae.o.c2;have u9:=ae.o.lt
   go_wp2_with fail
   refine kR1.o.mono ?_;rintro e w2 ⟨hr,hb⟩;rw[zF bX.o]at hr;obtain⟨rkb,rfl,ck,bZ⟩:=hr;have aI:=aC.t hb;have a4:=zh (ae.o.below hb);replace bZ:=zh bZ;replace ck:=zh ck;clear hb kR kR1 u0 u1 u2 u9 ae;have kC1:=zh (kC.o w2 aI.o);have u0:=a4.o.c0;have u1:=a4.o.c1;have u2:=a4.o.c2;have u9:=a4.o.lt
   go_wp2_with fail
   refine kC1.o.mono ?_;rintro e w4 ⟨hr,hb⟩;rw[zF af.o]at hr;obtain⟨Al,cl,l,rfl,bT,bQ⟩:=hr;have bL:=aI.t hb;have cG:=zh (a4.o.below hb);have cm:=zh (bZ.o.below hb);replace bT:=zh bT;replace bQ:=zh bQ;clear hb kC kC1 u0 u1 u2 u9 a4 bZ aI;have eh:=@run_makeMap prog;obtain⟨mb,bU⟩:∃x,x=w4.heap.size:=⟨_,rfl⟩;obtain⟨vb,bF⟩:∃x,x=w4.heap.size+1:=⟨_,rfl⟩;obtain⟨w5,bG⟩:∃W,W=((w4.alloc (.map #[] 0)).alloc (.cells #[.map (some w4.heap.size)] 77)):=⟨_,rfl⟩;have dq:Hid (Below w4.heap.size w4 w5):=by rw[bG];exact((zI _ w4).alloc (zB _) _).alloc (by simp) _
   have bm:Hid (VMC w5 vb mb s.ps.length (H8 (toN F) 0) 0):=by rw[bG,bF,bU,QK];exact⟨by have h:=Bk.new (w4.alloc (.map #[] 0)) 77 [.map (some w4.heap.size)];rw[zV]at h;exact h,⟨0,fun _=>none,(MapK.made w4 prog 3 κi).alloc _,zB _,fun _ _=>rfl⟩,by omega⟩
   go_wp2_with fail
   (try rw[<-bG])
   (try rw[<-bF])
   replace bG:=zh bG;replace bF:=zh bF;replace bU:=zh bU;clear eh;have bH:Hid (w.heap.size<w4.heap.size):=cG.o.lt;have ao:=zh (fun W (h:Below w4.heap.size w4 W)=>bL.o.trans (h.mono bL.o.size));have aX:Hid (mb=w4.heap.size/\vb=w4.heap.size+1):=⟨bU.o,bF.o⟩
   go_loopw [54] (fun ix wr=>∃(k:Nat),k<=F.length/\ix=.int .i64 (k:Int)/\Hid (Below w4.heap.size w4 wr)/\Hid (VMC wr vb mb s.ps.length (H8 (toN F) k) k)) (fun ix _=>F.length-(intOf ix).toNat)
   case atStart=>exact⟨0,zS _,rfl,dq,bm⟩
   case round=>
    clear dq bm;obtain⟨k,hk,rfl,an,aj⟩:=hrel;obtain⟨wz,rfl⟩:∃z,z=wr:=⟨_,rfl⟩
    by_cases hkl:k<F.length
    .obtain⟨p,cZ,eH,c8⟩:=Ob aw.o hkl;obtain⟨fb,fo,rfl,eD,aK⟩:=(hF.o.below (ao.o _ an.o)) (by omega);have e1:=aK k hkl;rw[cZ]at e1;clear aK;have j0:(0:Int)<=(k:Int):=by omega
     have j1:(k:Int)<(F.length:Int):=by omega
     replace cZ:=zh cZ;replace c8:=zh c8
     go_wp2_with fail
     refine ef9 vb mb s.ps.length k p (H8 (toN F) k) wz (hE.o.below (ao.o _ an.o)) aj.o (by omega) (by omega) ?_;intro _ _ _ we bn aE;have dZ:Hid (Below w4.heap.size w4 we):=aE.o.to_below an.o (fun x hx=>by have:=aX.o.1;simp at hx;omega);have cF:Hid (VMC we vb mb s.ps.length (H8 (toN F) (k+1)) (k+1)):=bn.o.congr fun x _=>(QL c8.o x).symm;clear bn aE an aj;go_wp2;exact⟨⟨k+1,by omega,by go_num,dZ,cF⟩,by simp only[intOf];omega⟩
    obtain rfl:k=F.length:=by omega
    have eb:=zh (cG.o.below an.o);have dQ:=zh (cm.o.below an.o);have dM:=zh (IOq bT.o an.o);have a9:=zh (ao.o _ an.o);clear cG cm bT ao
    go_wp2_with fail
    go_step3
    go_wp2_with fail
    have cW:l.length=(Ax s.ps.length (Ah s)).length:=by have:=congrArg List.length bQ.o;simpa [baR,DW] using this
    have aS:Hid (VMC wz vb mb s.ps.length (H8 (toN F) F.length) F.length):=aj;have dc:Hid (mb<wz.heap.size/\vb<wz.heap.size):=⟨aj.o.lt,aj.o.x.lt⟩;clear aj;have bS:Hid (InN s.ps.length (Ah s)):=by rw[<-Cl];exact(BY af.o).inN
    have ec:(Ax s.ps.length (Ah s)).length<=60:=by have h1:=GM (n:=s.ps.length) (E:=Ah s);have h2:=Tt bS.o;omega
    have cL:Hid (∀t (h:t<(Ax s.ps.length (Ah s)).length),((Ax s.ps.length (Ah s))[t]).length<=60/\∀p,p∈(Ax s.ps.length (Ah s))[t]->p<s.ps.length):=fun t h=>⟨by have h1:=Cy _ _ (Hr h) (IN bS.o h);omega,IN bS.o h⟩;obtain⟨i0,cT,bK⟩:=Option.map_eq_some_iff.1 GV;simp only[Prod.mk.injEq]at bK;obtain⟨di,dj,dk⟩:=bK;replace cT:=zh cT;replace di:=zh di;replace dj:=zh dj;replace dk:=zh dk;obtain⟨i1,cU,bK⟩:=Option.map_eq_some_iff.1 Xp;simp only[Prod.mk.injEq]at bK;obtain⟨dd,de,dh⟩:=bK;replace cU:=zh cU;replace dd:=zh dd;replace de:=zh de;replace dh:=zh dh;have ci:=zh cW;rw[cW];clear cW;have dz:Hid (SyM wz wz.heap.size (.slice none 0 0) []):=SyM.start _ _;have dP:Hid (Value.int .i64 0=.int .i64 ((CU s.ps.length (Ah s) (toN F) 0).flatten.length:Nat)):=rfl
    go_loopw [14,15,65] (fun vx rx ix wr=>∃(t:Nat)(Es:List Ent)(Ay:Option Addr)(cy:Nat),t<=(Ax s.ps.length (Ah s)).length/\ix=.int .i64 (t:Int)/\rx=.int .i64 ((CU s.ps.length (Ah s) (toN F) t).flatten.length:Nat)/\vx=.slice Ay Es.length cy/\Hid (Es.map Ent.u=GW s.ps.length (Ah s) (toN F) t)/\Hid (SyM wr wz.heap.size (.slice Ay Es.length cy) Es)/\Hid (∀u,u∈CU s.ps.length (Ah s) (toN F) t->u.length<=8)/\Hid (Below wz.heap.size wz wr)) (fun _ _ ix _=>(Ax s.ps.length (Ah s)).length-(intOf ix).toNat)
    case atStart=>exact⟨0,[],none,0,zS _,rfl,dP.o,rfl,rfl,dz,(fun u h=>by cases h),zI _ _⟩
    case round=>
     clear dz dP;obtain⟨t,Es,Ay,cy,ht,rfl,rfl,rfl,bd,am,h8,au⟩:=hrel;obtain⟨wt,rfl⟩:∃z,z=wr:=⟨_,rfl⟩
     by_cases htl:t<(Ax s.ps.length (Ah s)).length
     .obtain ⟨eN,eO,rfl,ep,aK⟩:=(IOq dM.o au.o) (by rw[ci.o];omega);have cr:t<l.length:=by rw[ci.o];exact htl
      obtain⟨e1,aA,_⟩:=aK t cr;obtain⟨_,dN⟩:=QM bQ.o cr;rw[dN]at e1 aA;rw[zW]at e1;obtain⟨cd,bR⟩:=cL.o t htl;have a7:=On (E:=Ah s) (F:=toN F) htl;have aN:=zh (fun h=>TS (F:=toN F) htl h);have aM:=zh (fun h=>QN (F:=toN F) htl h);have az:=zh (fun h=>TT (F:=toN F) htl h);have aY:=Fw (E:=Ah s) (F:=toN F) htl;have dH:(CU s.ps.length (Ah s) (toN F) (t+1)).flatten.length<=60:=by have h1:=Kh (n:=s.ps.length) (E:=Ah s) (F:=toN F) (t:=t+1);have h2:=ID (F:=toN F) (BY af.o);rw[Cl]at h2;omega
      obtain⟨c,hc⟩:∃c,c=((Ax s.ps.length (Ah s))[t]):=⟨_,rfl⟩;rw[<-hc]at e1 aA cd bR a7 aN aM az aY;have a2:Hid ((unk (Ah s) (toN F) c).length<=8->∀u,u∈CU s.ps.length (Ah s) (toN F) (t+1)->u.length<=8):=fun h u hu=>by rw[aY,yc,xE]at hu;exact hu.elim (h8.o u) (fun e=>by rw[e];exact h)
      replace hc:=zh hc;replace aY:=zh aY;replace aA:=zh aA;replace bR:=zh bR;obtain⟨ah,cH⟩:∃x,x=l[t].1:=⟨_,rfl⟩;obtain⟨ch,cK⟩:∃x,x=l[t].2.1:=⟨_,rfl⟩;rw[<-cH]at e1 aA;rw[<-cK]at e1;replace cH:=zh cH;replace cK:=zh cK;clear aK dN;obtain⟨R0,ai⟩:∃x,x=(CU s.ps.length (Ah s) (toN F) t).flatten.length:=⟨_,rfl⟩;obtain⟨R1,bi⟩:∃x,x=(CU s.ps.length (Ah s) (toN F) (t+1)).flatten.length:=⟨_,rfl⟩;rw[<-ai,<-bi]at a7;rw[<-bi]at dH;rw[<-ai];have eL:(0:Int)<=(t:Int):=by omega
      have eM:(t:Int)<((Ax s.ps.length (Ah s)).length:Int):=by omega
      obtain⟨xb,bJ⟩:∃x,x=wt.heap.size:=⟨_,rfl⟩;obtain⟨wu,bI⟩:∃W,W=(wt.alloc (.cells #[.slice none 0 0,.slice none 0 0,.slice none 0 0] 84)):=⟨_,rfl⟩;have ds:Hid (Below wt.heap.size wt wu):=by rw[bI];exact(zI _ wt).alloc (zB _) _
      have dt:Hid (EntB wu wt.heap.size xb none 0 []):=by rw[bI,bJ];exact EntB.start (Bk.new wt _ _)
      have dV:Hid (wt.heap.size<=xb):=vP bJ.symm
      go_wp2_with fail
      (try rw[<-bI])
      (try rw[<-bJ])
      replace bI:=zh bI;replace bJ:=zh bJ;replace ai:=zh ai;replace bi:=zh bi;have cJ:Hid (c.length<=60):=cd;have aO:Hid (t<(Ax s.ps.length (Ah s)).length):=htl;have b5:=zh (fun W (h:Below wt.heap.size wt W)=>(au.o.trans (h.mono au.o.size):Below wz.heap.size wz W))
      go_loopw [73] (fun jx wr=>∃(i:Nat)(A:Option Addr)(cu:Nat),i<=c.length/\jx=.int .i64 (i:Int)/\Hid (EntB wr wt.heap.size xb A cu (unk (Ah s) (toN F) (c.take i)))/\Hid (Below wt.heap.size wt wr)) (fun jx _=>c.length-(intOf jx).toNat)
      case atStart=>exact⟨0,none,0,zS _,rfl,dt,ds⟩
      case round=>
       clear dt ds;obtain⟨i,A,cu,hi,rfl,ag,ar⟩:=hrel;obtain⟨wi,rfl⟩:∃z,z=wr:=⟨_,rfl⟩
       by_cases hil:i<c.length
       .obtain ⟨eA,eG,rfl,er,aK⟩:=(aA.o.below ar.o) (by rw[zW];omega);have e1:=aK i (by rw[zW];exact hil);rw[yJ]at e1;have bY:=bR.o _ (zO hil);have ax:=TV (E:=Ah s) (F:=toN F) hil;have b1:(unk (Ah s) (toN F) (c.take i)).length<=60:=zQ Pk (by rw[xI];omega);obtain⟨p,hp⟩:∃p,p=c[i]:=⟨_,rfl⟩;rw[<-hp]at e1 bY ax;replace hp:=zh hp;clear aK;have cn:=zh ((dQ.o.below (b5.o _ ar.o)));have r1:=cn.o.cell p bY;have r9:=cn.o.lt;have j0:(0:Int)<=(i:Int):=by omega
        have j1:(i:Int)<(c.length:Int):=by omega
        have q0:(0:Int)<=(p:Int):=by omega
        have q1:(p:Int)<(s.ps.length:Int):=by omega
        generalize rk (Ah s) (toN F) p=rv at r1 ax
        by_cases hrv:0<rv
        rotate_left
        .have t1:decide (0<rv)=false:=zH hrv;rw[zE hrv,xV]at ax;have bc:Hid (EntB wi wt.heap.size xb A cu (unk (Ah s) (toN F) (c.take (i+1)))):=by rw[ax];exact ag.o
         replace ax:=zh ax;replace hrv:=zh hrv;clear ag;go_wp2;exact⟨⟨i+1,A,cu,by omega,by go_num,bc,ar⟩,by simp only[intOf];omega⟩
        have t1:decide (0<rv)=true:=zG hrv;rw[zF hrv]at ax;replace hrv:=zh hrv;obtain⟨m,hm⟩:∃m,m=(unk (Ah s) (toN F) (c.take i)).length:=⟨_,rfl⟩;have x0:=ag.o.x.c0;have x9:=ag.o.x.lt;rw[<-hm]at x0 b1;have bN:Hid (EntB (wi.alloc (.cells #[.int .i64 (p:Int)] 3)) wt.heap.size xb A cu (unk (Ah s) (toN F) (c.take i))):=ag.o.below ((zI _ wi).alloc (zB _) _);have d1:Hid (Below wt.heap.size wt (wi.alloc (.cells #[.int .i64 (p:Int)] 3))):=ar.o.alloc ar.o.size _;have had:Hid (∀j u,[Value.int .i64 (p:Int)][j]? = some u->(wi.alloc (.cells #[.int .i64 (p:Int)] 3)).cell? (Addr.add ⟨wi.heap.size,0,none⟩ j)=some u):=Ci.BO wi _ 3;have dR:Hid ((wi.alloc (.cells #[.int .i64 (p:Int)] 3)).ownsRow wt.heap.size 3 1 (.slice A m cu) m (Bv (unk (Ah s) (toN F) (c.take i)))):=by have h:=bN.o.o;rw[<-hm]at h;exact h
        have dF:Hid (wt.heap.size<=(wi.alloc (.cells #[.int .i64 (p:Int)] 3)).heap.size):=d1.o.size;have ct:=zh b1
        have ej:Hid (∀v' w',w'.ownsRow wt.heap.size 3 1 v' (m+1) (Bv (unk (Ah s) (toN F) (c.take i))++[.int .i64 (p:Int)])->(wi.alloc (.cells #[.int .i64 (p:Int)] 3)).grownBy w' (Value.slice A m cu).ownBlock->(v'.ownBlock=(Value.slice A m cu).ownBlock\/v'.ownBlock=some (wi.alloc (.cells #[.int .i64 (p:Int)] 3)).heap.size)->∃A' c',v'=.slice A' (m+1) c'/\EntB (w'.setCell ⟨xb,0,none⟩ v') wt.heap.size xb A' c' (unk (Ah s) (toN F) (c.take (i+1)))/\Bk w' xb 84 [.slice A m cu,.slice none 0 0,.slice none 0 0]/\Below wt.heap.size wt w'):=fun v' w' h1 h2 h3=>by
         rw[hm]at h1 h2 h3;obtain⟨A',c',q1,q2,q3⟩:=bN.o.step h1 h2 h3;rw[ax,hm];refine⟨A',c',q1,q2,q3,?_⟩;exact((Kp.refl [] wi).alloc (.cells #[.int .i64 (p:Int)] 3)).to_below ar.o (fun x hx=>by simp at hx) |>.trans ⟨h2.os,h2.tape,h2.output,h2.size,fun k hk=>h2.block k (zJ hk dF.o) fun e=>by have:=(bN.o.o.lt k e.symm).1;omega⟩
        replace hm:=zh hm;replace ax:=zh ax;clear ag bN
        go_wp2_with (at_builtin;refine Ci.wpList_append_new _ rfl _ _ 37 rfl wt.heap.size 3 i0 (.int .i64 0) 1 8 underlying37 cT.o di.o dj.o dk.o rfl (by decide) (.slice A m cu) m (Bv (unk (Ah s) (toN F) (c.take i))) rfl dR.o ⟨wi.heap.size,0,none⟩ 1 1 [.int .i64 (p:Int)] rfl rfl had.o (Ci.AQ _ rfl) (by decide) (by have:=ct.o;unfold maxLen;omega) (by have:=ct.o;omega) dF.o ?_;intro v' w' ho hg hn;obtain⟨A',c',db,bc,b2,aI⟩:=ej.o v' w' ho hg hn;replace bc:=zh bc;replace aI:=zh aI;have z0:=b2.frozen 0;have z1:=b2.c0;have z9:=b2.lt;clear ho hg hn b2 x0 x9;subst db)
        exact⟨⟨i+1,A',c',by omega,by go_num,bc,((Kp.refl [xb] _).set _ (.inl (by simp))).to_below aI.o (fun x hx=>by have:=dV.o;simp at hx;omega)⟩,by simp only[intOf];omega⟩
       obtain rfl:i=c.length:=by omega
       rw[zu]at ag;have b1:(unk (Ah s) (toN F) c).length<=60:=zQ Pk cJ.o;have b6:=zh (b5.o _ ar.o);have b8:=zh (am.o.below ar.o);obtain⟨u,hu⟩:∃u,u=unk (Ah s) (toN F) c:=⟨_,rfl⟩;rw[<-hu]at ag b1 a7 a2 aN aM az;replace hu:=zh hu;have x0:=ag.o.x.c0;have x9:=ag.o.x.lt;have bv:Hid (Value.int .i64 ((R0:Int)+(u.length:Int))=.int .i64 ((CU s.ps.length (Ah s) (toN F) (t+1)).flatten.length:Nat)):=by rw[<-bi.o,a7];go_num
       have eo:R0+u.length<=60:=by omega
       replace a7:=zh a7
       by_cases bB:u=[]
       .subst bB;have be:Hid (Es.map Ent.u=GW s.ps.length (Ah s) (toN F) (t+1)):=by rw[aN.o rfl];exact bd.o
        have cx:=zh (a2.o (by simp));simp only[yR]at x0 bv;clear aN aM az a2 ag;go_wp2;exact⟨⟨t+1,Es,Ay,cy,aO.o,by go_num,bv.o,rfl,be,b8,cx,b6⟩,by have:=aO.o;simp only[intOf];omega⟩
       have eJ:0<u.length:=by cases u with|nil=>exact absurd rfl bB|cons _ _=>simp
       have m2:((u.length:Int)==0)=false:=by rw[zN];omega
       have dO:=zh (aM.o bB);replace bB:=zh bB;clear aN aM;have aQ:Hid (Below w.heap.size w wi):=a9.o.trans (b6.o.mono a9.o.size)
       by_cases hu8:8<u.length
       .have m3:decide (8<(u.length:Int))=true:=zG (by omega);have bp:=zh (az.o hu8);replace hu8:=zh hu8;clear az a2 ag;go_wp2;rw[yN];go_ret2;exact bh.o _ _ bX.o bp.o rfl aQ.o
       have m3:decide (8<(u.length:Int))=false:=zH (by omega);have cx:=zh (a2.o (by omega));have cN:Es.length<=60:=by have h1:=congrArg List.length bd.o;have h2:=Mt (n:=s.ps.length) (E:=Ah s) (F:=toN F) (t:=t);rw[zW]at h1;have:=aO.o;omega
       obtain⟨q,hq⟩:∃q,q=Es.length:=⟨_,rfl⟩;have bP:Hid (Below wt.heap.size wt (wi.alloc (.cells #[.pointer (some ⟨xb,0,none⟩)] 81))):=ar.o.alloc ar.o.size _;have bt:Hid ((wi.alloc (.cells #[.pointer (some ⟨xb,0,none⟩)] 81)).ownsRow wz.heap.size 81 1 (.slice Ay q cy) q (Es.map Ent.pt)):=by rw[hq];exact AC am.o.row bP.o
       have dD:Hid (∀j u,[Value.pointer (some ⟨xb,0,none⟩)][j]? = some u->(wi.alloc (.cells #[.pointer (some ⟨xb,0,none⟩)] 81)).cell? (Addr.add ⟨wi.heap.size,0,none⟩ j)=some u):=Ci.BO wi _ 81;have b9:Hid (wz.heap.size<=(wi.alloc (.cells #[.pointer (some ⟨xb,0,none⟩)] 81)).heap.size):=zQ au.o.size bP.o.size
       have dT:Hid (∀v' w',w'.ownsRow wz.heap.size 81 1 v' (q+1) (Es.map Ent.pt++[.pointer (some ⟨xb,0,none⟩)])->(wi.alloc (.cells #[.pointer (some ⟨xb,0,none⟩)] 81)).grownBy w' (Value.slice Ay q cy).ownBlock->(v'.ownBlock=(Value.slice Ay q cy).ownBlock\/v'.ownBlock=some (wi.alloc (.cells #[.pointer (some ⟨xb,0,none⟩)] 81)).heap.size)->∃Ay' cy',v'=.slice Ay' (q+1) cy'/\SyM w' wz.heap.size (.slice Ay' (Es++[(⟨xb,A,cu,u⟩:Ent)]).length cy') (Es++[(⟨xb,A,cu,u⟩:Ent)])/\Below wz.heap.size wz w'):=fun v' w' h1 h2 h3=>by
        obtain⟨Ay',cy',rfl⟩:=Ci.Dy h1;refine⟨Ay',cy',rfl,?_,?_⟩
        .have hl:(Es++[(⟨xb,A,cu,u⟩:Ent)]).length=q+1:=by rw[zX,hq];rfl
         rw[hl];have cA:=ag.o.below ((zI _ wi).alloc (zB _) (.cells #[.pointer (some ⟨xb,0,none⟩)] 81));rw[hq]at h1 h2 h3 ⊢;refine SyM.add (e:=⟨xb,A,cu,u⟩) am.o au.o.size bP.o cA.x cA.inInt dV.o (fun b o e=>cA.blk b o e) ?_ h2 (h3.imp id fun e=>⟨_,e,zB _⟩);exact h1
        exact au.o.trans (bP.o.mono au.o.size) |>.trans ⟨h2.os,h2.tape,h2.output,h2.size,fun k hk=>h2.block k (zJ hk b9.o) fun e=>by have:=(bt.o.lt k e.symm).1;omega⟩
       have be:Hid ((Es++[(⟨xb,A,cu,u⟩:Ent)]).map Ent.u=GW s.ps.length (Ah s) (toN F) (t+1)):=by rw[dO.o,yD,bd.o];rfl
       have ei:Hid ((Es++[(⟨xb,A,cu,u⟩:Ent)]).length=q+1):=by rw[zX,hq];rfl
       have cg:Hid (q<=60):=by rw[hq];exact cN
       rw[<-hq];replace hq:=zh hq;replace cN:=zh cN;clear dO az a2 ag b8
       go_wp2_with (at_builtin;refine Ci.wpList_append_new _ rfl _ _ 80 rfl wz.heap.size 81 i1 (.pointer none) 1 8 underlying80 cU.o dd.o de.o dh.o rfl (by decide) (.slice Ay q cy) q (Es.map Ent.pt) rfl bt.o ⟨wi.heap.size,0,none⟩ 1 1 [.pointer (some ⟨xb,0,none⟩)] rfl rfl dD.o (Ci.AQ _ rfl) (by decide) (by have:=cg.o;unfold maxLen;omega) (by have:=cg.o;omega) b9.o ?_;intro v' w' ho hg hn;obtain⟨Ay',cy',db,cD,cz⟩:=dT.o v' w' ho hg hn;replace cD:=zh cD;replace cz:=zh cz;clear ho hg hn x0 x9;subst db)
       exact⟨⟨t+1,Es++[(⟨xb,A,cu,u⟩:Ent)],Ay',cy',aO.o,by go_num,bv.o,by rw[ei.o],be,cD,cx,cz⟩,by have:=aO.o;simp only[intOf];omega⟩
     obtain rfl:t=(Ax s.ps.length (Ah s)).length:=by omega
     have aQ:Hid (Below w.heap.size w wt):=a9.o.trans (au.o.mono a9.o.size);have aU:Hid (Es.map Ent.u=Hs s.ps.length (Ah s) (toN F)):=bd.o.trans TR;obtain⟨R0,ai⟩:∃x,x=(CU s.ps.length (Ah s) (toN F) (Ax s.ps.length (Ah s)).length).flatten.length:=⟨_,rfl⟩;rw[<-ai];have en:R0<=60:=by have h1:=Kh (n:=s.ps.length) (E:=Ah s) (F:=toN F) (t:=(Ax s.ps.length (Ah s)).length);have h2:=ID (F:=toN F) (BY af.o);rw[Cl]at h2;omega
     by_cases h16:16<R0
     .have m3:decide (16<(R0:Int))=true:=zG (by omega);have bp:=zh (TU (n:=s.ps.length) (E:=Ah s) (F:=toN F) (by rw[<-ai];exact h16));replace h16:=zh h16;replace ai:=zh ai;go_wp2;rw[yN];go_ret2;exact bh.o _ _ bX.o bp.o rfl aQ.o
     have m3:decide (16<(R0:Int))=false:=zH (by omega);have dG:=zh (VP (n:=s.ps.length) (E:=Ah s) (F:=toN F) (by rw[<-ai];omega) h8.o);have bx:(Hs s.ps.length (Ah s) (toN F)).flatten.length<=16:=by unfold Hs;rw[EU,<-EW,<-ai];omega
     replace bx:=zh bx;have em:Es.length<=60:=by have h1:=congrArg List.length bd.o;have h2:=Mt (n:=s.ps.length) (E:=Ah s) (F:=toN F) (t:=(Ax s.ps.length (Ah s)).length);rw[zW]at h1;omega
     replace h16:=zh h16;replace ai:=zh ai
     go_wp2_with fail
     have aR:=zh (BY af.o);have bj:=Mu (F:=toN F) (BY af.o);rw[Cl,<-aU.o]at bj;have dy:=zh bj;clear bj;have ap:(Es.map Ent.u).flatten.length<=16:=by rw[aU.o];exact bx.o
     replace ap:=zh ap;have dB:=aS.o.below au.o;have cB:F.length=(toN F).length:=by simp[toN]
     have aV:VMC wt vb mb s.ps.length (DM (Ag s.cap) (toN F) (Es.map Ent.u) 0) (F.length+((Es.map Ent.u).take 0).flatten.length):=by have h:=dB.congr (val':=DM (Ag s.cap) (toN F) (Es.map Ent.u) 0) (fun p _=>by rw[<-TQ (L:=Ag s.cap) (us:=(Es.map Ent.u)),cB]);simpa using h
     replace aV:=zh aV;clear dB;replace cB:=zh cB;have dC:=zh (eb.o.below au.o);have dx:Hid (Kp (mb::(Es.take 0).map Ent.x) wt wt):=Kp.refl _ _
     go_loopw [123] (fun ix wr=>∃(k:Nat),k<=Es.length/\ix=.int .i64 (k:Int)/\Hid (Kp (mb::(Es.take k).map Ent.x) wt wr)/\Hid (VMC wr vb mb s.ps.length (DM (Ag s.cap) (toN F) (Es.map Ent.u) k) (F.length+((Es.map Ent.u).take k).flatten.length))) (fun ix _=>Es.length-(intOf ix).toNat)
     case atStart=>exact⟨0,zS _,rfl,dx,aV⟩
     case round=>
      clear dx aV;obtain⟨k,hk,rfl,al,aj⟩:=hrel;obtain⟨aa,rfl⟩:∃z,z=wr:=⟨_,rfl⟩
      by_cases hkl:k<Es.length
      .obtain ⟨e,he⟩:∃e,e=Es[k]:=⟨_,rfl⟩;have aB:e∈Es:=by rw[he];exact zO hkl
       obtain⟨cR,cM,eC⟩:=am.o.ent e aB;have bW:=VQ am.o.nd hkl;rw[<-he]at bW;have a8:(Es.map Ent.u)[k]'(by rw[zW];exact hkl)=e.u:=by rw[yJ,<-he]
       have bE:=QP bS.o (u:=e.u) (by rw[<-aU.o];exact wj aB);have bD:=h8.o _ bE.2;have bs:=Om dy.o (k:=k) (by rw[zW];exact hkl);rw[a8]at bs;obtain⟨D,hD,aL⟩:=QJ aR.o dy.o ap.o k;have aq:=aL.vals hD;have ed:=Fv (us:=(Es.map Ent.u)) (k:=k) (by rw[zW];exact hkl);rw[a8]at ed;have eI:=ap.o;have aH:e.x≠mb/\e.x≠vb:=by have:=dc.o;omega
       have br:e.x∉mb::(Es.take k).map Ent.x:=fun h=>(List.mem_cons.1 h).elim aH.1 bW;have eB:Hid (Below w.heap.size w wt):=aQ;have a1:Hid (∀x,x∈mb::(Es.take k).map Ent.x->w4.heap.size<=x):=fun x hx=>(List.mem_cons.1 hx).elim (fun h=>by rw[h];exact vP aX.o.1.symm) (fun h=>by obtain⟨e2,aG,rfl⟩:=List.mem_map.1 h;have h1:=(am.o.ent e2 (yE aG)).2.2;have h2:=an.o.size;omega);have aD:Hid (Below w.heap.size w aa):=al.o.to_below aQ.o (fun x hx=>by have h1:=a1.o x hx;have h2:=bL.o.size;omega);have dW:Hid (Bk aa e.x 84 [.slice e.A e.u.length e.c,.slice none 0 0,.slice none 0 0]):=cR.kp al.o br;have eK:w.heap.size<=e.x:=by have h1:=aQ.o.size;have h2:=a9.o.size;omega
       have bC:Hid (∀b o,e.A=some ⟨b,o,none⟩->b∉mb::(Es.take k).map Ent.x/\b≠e.x/\b≠mb):=fun b o h=>by
        obtain⟨h1,h2,h3⟩:=am.o.blk e aB b o h;have hb:b≠mb:=by have:=dc.o.1;omega
        refine⟨fun hm=>(List.mem_cons.1 hm).elim hb fun h=>?_,h3 e aB,hb⟩;obtain⟨e2,aG,rfl⟩:=List.mem_map.1 h;exact h3 e2 (yE aG) rfl
       have cV:Hid (InInt aa e.A (e.u.map fun(q:Nat)=>(q:Int))):=inInt_kp cM al.o (fun b o h=>(bC.o b o h).1);have aF:Hid (Bk aa w.heap.size 32 (SC s Ap Ac Av cp cc cv)):=dC.o.kp al.o (fun h=>(List.mem_cons.1 h).elim (fun h=>by have h1:=aX.o.1;have h2:=bH.o;omega) (fun h=>by obtain⟨e2,aG,q⟩:=List.mem_map.1 h;have h1:=(am.o.ent e2 (yE aG)).2.2;have h2:=bH.o;have h3:=an.o.size;omega));obtain⟨val,a0⟩:∃v,v=DM (Ag s.cap) (toN F) (Es.map Ent.u) k:=⟨_,rfl⟩;rw[<-a0]at aj aL aq;obtain⟨C0,bM⟩:∃c,c=F.length+((Es.map Ent.u).take k).flatten.length:=⟨_,rfl⟩;rw[<-bM]at aj;have ey:C0+e.u.length<=100000:=by omega
       have kB:=Q9 (D:=D) s Ap Ac Av e.A cp cc cv e.c e.u val e.x vb mb aa af.o cI bD bs.nodup bE.1 aq dW.o (fun W h=>hE.o.below (h.to_below aD.o (fun x hx=>by simp at hx;omega))) (fun W h=>(c9.o W (h.to_below aD.o (fun x hx=>by simp at hx;omega))).cap) (fun W h=>inInt_kp cV.o h (fun b o q=>by have:=(bC.o b o q).2.1;simpa using this)) (fun W h=>(aj.o.kp h (by have:=aH.2;simp;omega) (by have:=aH.1;simp;omega)).vm (by omega));obtain⟨gy,ew,ee,eE,eF,_,dI⟩:=Nt.Dy (Pa am.o.row al.o (fun b q hm=>(List.mem_cons.1 hm).elim (fun h=>by have h1:=(am.o.row.lt b q).1;have h2:=dc.o.1;omega) (fun h=>by obtain⟨e2,aG,h3⟩:=List.mem_map.1 h;exact(am.o.rb b q e2 (yE aG)).1 h3.symm))) (by omega:0<Es.length);injection ee with q1 _ q2;subst q1;subst q2;have e1:aa.cell? ⟨gy,k,none⟩=some (.pointer (some ⟨e.x,0,none⟩)):=dI k _ (by rw[wY,ze hkl,<-he];rfl);have j0:(0:Int)<=(k:Int):=by omega
       have j1:(k:Int)<(Es.length:Int):=by omega
       have cX:Hid (((Es.map Ent.u).take k).flatten.length+e.u.length<=16):=by unfold Hid;omega
       have aW:=zh hkl;replace kB:=zh kB;replace aL:=zh aL;replace bs:=zh bs;replace aq:=zh aq;replace bE:=zh bE;replace he:=zh he;replace a8:=zh a8;replace a0:=zh a0;replace bM:=zh bM;replace aB:=zh aB;replace cR:=zh cR;replace cM:=zh cM;replace bW:=zh bW;replace br:=zh br;replace aH:=zh aH;replace hD:=zh hD;clear dI;have u0:=aF.o.c0;have u1:=aF.o.c1;have u2:=aF.o.c2;have u9:=aF.o.lt
       go_wp2_with fail
       refine kB.o.q fun W5 ⟨w3,dK,dE⟩=>?_;obtain⟨Aa,Ab,ca,cb,la,dL,ay,ef,cq,bu⟩:=dE.slv aR.o aq.o bD;have bg:Hid (Kp [e.x] aa W5):=kp_trans dK dL (fun y hy=>.inl hy);replace ay:=zh ay;clear dK dL dE kB u0 u1 u2 u9 e1;have aJ:Hid (Below w.heap.size w W5):=bg.o.to_below aD.o (fun x hx=>by simp at hx;omega);have bm:=zh (aj.o.kp bg.o (by have:=aH.o.2;simp;omega) (by have:=aH.o.1;simp;omega));have dv:=zh (inInt_kp cV.o bg.o (fun b o q=>by have:=(bC.o b o q).2.1;simpa using this));have kV:Hid (∀W,Below W5.heap.size W5 W->Calls prog 39 #[.slice Aa e.u.length ca,.slice Ab e.u.length cb] W fun e1 w1=>(∃p c,e1=.returned (.tuple #[.slice p e.u.length c,.int .i64 0])/\InRow w1 p (B9 e.u.length fun i=>Cx SQ (Ag s.cap) e.u val (e.u.getD i 0)))/\Below W.heap.size W w1):=fun W h=>VE aR.o aL.o bs.o cX.o bD (hE.o.below (aJ.o.trans (h.mono aJ.o.size))) ef (cq.below h) bu;have bb:Hid (Below W5.heap.size W5 W5.drew):=(zI _ _).drew;have cC:Hid (∀W,Below W5.heap.size W5 W->W.cell? ⟨e.x,1,none⟩=some (.slice Aa e.u.length ca)/\W.cell? ⟨e.x,2,none⟩=some (.slice Ab e.u.length cb)):=fun W h=>⟨(ay.o.below h).c1,(ay.o.below h).c2⟩;clear cq bu dW cV aj;have x1:=ay.o.c1;have x2:=ay.o.c2;have x9:=ay.o.lt
       go_wp2_with fail
       go_region_held3 (fun W=>W.cell? ⟨e.x,1,none⟩=some (.slice Aa e.u.length ca)/\W.cell? ⟨e.x,2,none⟩=some (.slice Ab e.u.length cb)) (first|(with_reducible exact cC.o _ bb.o)|(with_reducible exact cC.o _ a5.o)|go_keep) (first|(go_at_call 39;refine(kV.o _ bb.o).mono ?_;rintro ex w8 ⟨⟨pS,cS,rfl,bA⟩,hb⟩;have a5:=bb.t hb;replace bA:=zh bA;clear hb))
       have cE:Hid (VMC w8 vb mb s.ps.length (IM (Ag s.cap) e.u val 0) (C0+0)):=by rw[TO];exact bm.o.below a5.o
       have ea:Hid (∀b o x,w8.cell? ⟨b,o,none⟩=some x->b≠mb):=fun b o x h=>cE.o.off h;have ek:=zh (ay.o.below a5.o);have d2:=zh (dv.o.below a5.o);have el:Hid (Below w.heap.size w w8):=aJ.o.trans (a5.o.mono aJ.o.size);have d3:Hid (Kp [e.x] aa w8):=bg.o.below a5.o;have eu:=zh ay.o.lt;clear bm dv ay cC bb kV bg aJ x1 x2 x9;have dw:Hid (Kp [mb] w8 w8):=Kp.refl _ _
       go_wp2_with fail
       go_loopw [145] (fun jx wr=>∃(i:Nat),i<=e.u.length/\jx=.int .i64 (i:Int)/\Hid (Kp [mb] w8 wr)/\Hid (VMC wr vb mb s.ps.length (IM (Ag s.cap) e.u val i) (C0+i))) (fun jx _=>e.u.length-(intOf jx).toNat)
       case atStart=>exact⟨0,zS _,rfl,dw,cE⟩
       case round=>
        clear dw cE;obtain⟨i,hi,rfl,av,bo⟩:=hrel;obtain⟨aT,rfl⟩:∃z,z=wr:=⟨_,rfl⟩
        by_cases hil:i<e.u.length
        .obtain⟨sb,so,d8,b0,dS⟩:=bA.o (by rw[Au];omega);subst d8;obtain⟨t1,t2,t3⟩:=dS i (by rw[Au];exact hil);rw[BN]at t1 t2 t3;rw[D1 hil]at t1 t2 t3;have bz:sb≠mb:=ea.o sb _ _ t1;have t1:=(zU (a:=⟨sb,so+i*3,none⟩) (av.o.block sb b0 (by simpa using bz))).trans t1;have t2:=(zU (a:=⟨sb,so+i*3+1,none⟩) (av.o.block sb b0 (by simpa using bz))).trans t2;have t3:=(zU (a:=⟨sb,so+i*3+2,none⟩) (av.o.block sb b0 (by simpa using bz))).trans t3;have t9:sb<aT.heap.size:=zJ b0 av.o.size;obtain⟨ub,uo,bO,aZ,dU⟩:=(inInt_kp d2.o av.o (fun b o q=>by have:=(bC.o b o q).2.2;simpa using this)) (by rw[zW];omega);have da:ub≠mb:=(bC.o ub uo bO).2.2;have e1:=dU i (by rw[zW];exact hil);rw[yJ]at e1;have bY:=bE.o.1 _ (zO hil);have bq:=TP (L:=Ag s.cap) (val:=val) hil;obtain⟨p,hp⟩:∃p,p=e.u[i]:=⟨_,rfl⟩;rw[<-hp]at e1 bY bq t1 t2 t3;replace hp:=zh hp;clear dU dS;replace bq:=zh bq;replace bO:=zh bO;replace bz:=zh bz;replace da:=zh da;replace e1:=zh e1;replace aZ:=zh aZ;have j0:(0:Int)<=(i:Int):=by omega
         have j1:(i:Int)<(e.u.length:Int):=by omega
         obtain⟨q,hq⟩:∃q,q=Cx SQ (Ag s.cap) e.u val p:=⟨_,rfl⟩;rw[<-hq]at t1 t2 t3 bq;replace hq:=zh hq
         go_wp2_with fail
         have b3:=ek.o.kp av.o (by have:=aH.o.1;simpa using this);rw[bO.o]at b3;refine YN vb mb s.ps.length (C0+i) p e.x ub uo e.u.length e.c i aT.heap.size q (IM (Ag s.cap) e.u val i) (aT.alloc (.cells #[.bool (rq (q)).1,.string (rq (q)).2.1,.string (rq (q)).2.2] 48)) (bo.o.below ((zI _ _).alloc (zB _) _)) (by omega) (by omega) hil ((b3.alloc _).c0) ((b3.alloc _).lt) ((zU (a:=⟨ub,uo+i,none⟩) (heap_alloc_old aT _ aZ.o)).trans e1.o) (Nat.lt_trans aZ.o (by simp)) (Bk.new aT _ _) aH.o.1 da.o (by have:=bo.o.lt;omega) ?_;intro _ _ _ _ _ _ _ _ _ we bn aE;have d4:Hid (Kp [mb] w8 we):=kp_trans (av.o.alloc _) aE.o (fun y hy=>.inl hy);have cF:Hid (VMC we vb mb s.ps.length (IM (Ag s.cap) e.u val (i+1)) (C0+(i+1))):=bn.o.congr fun x _=>(bq.o x).symm;clear bn aE av bo t1 t2 t3 t9 b3;go_wp2;exact⟨⟨i+1,by omega,by go_num,d4,cF⟩,by simp only[intOf];omega⟩
        obtain rfl:i=e.u.length:=by omega
        have d5:Hid (Kp (mb::(Es.take (k+1)).map Ent.x) wt aT):=by
         have hm:∀y,y∈(Es.take (k+1)).map Ent.x<->y∈(Es.take k).map Ent.x\/y=e.x:=fun y=>by rw[zP aW.o,<-he.o,yD,yc];simp
         have h1:Kp (mb::(Es.take (k+1)).map Ent.x) wt aa:=⟨al.o.os,al.o.tape,al.o.output,al.o.size,fun b hb hx=>al.o.block b hb fun h=>hx ((List.mem_cons.1 h).elim (fun h=>List.mem_cons.2 (.inl h)) (fun h=>List.mem_cons.2 (.inr ((hm b).2 (.inl h)))))⟩;exact kp_trans (kp_trans h1 d3.o (fun y hy=>.inl (List.mem_cons.2 (.inr ((hm y).2 (.inr (by simpa using hy))))))) av.o (fun y hy=>.inl (List.mem_cons.2 (.inl (by simpa using hy))))
        have d9:Hid (VMC aT vb mb s.ps.length (DM (Ag s.cap) (toN F) (Es.map Ent.u) (k+1)) (F.length+((Es.map Ent.u).take (k+1)).flatten.length)):=by
         have h:=bo.o;rw[VO]at h;have e1:DM (Ag s.cap) (toN F) (Es.map Ent.u) (k+1)=Cx SQ (Ag s.cap) e.u val:=by rw[Ol (by rw[zW];exact aW.o),a8.o,<-a0.o]
         have e2:F.length+((Es.map Ent.u).take (k+1)).flatten.length=C0+e.u.length:=by rw[bM.o,zP (by rw[zW];exact aW.o:k<(Es.map Ent.u).length),a8.o,xj,zX,List.flatten_singleton,Nat.add_assoc]
         rw[e1,e2];exact h
        have dJ:Hid (k+1<=Es.length):=aW.o;clear av bo;go_wp2;exact⟨⟨k+1,dJ.o,by go_num,d5,d9⟩,by have:=dJ.o;simp only[intOf];omega⟩
      obtain rfl:k=Es.length:=by omega
      have cj:((Es.map Ent.u).take Es.length).flatten.length<=16:=by have h:=congrArg (fun l=>(List.flatten l).length) (xP Es.length (Es.map Ent.u));simp only[xj,zX]at h;have:=ap.o;omega
      have aE:DM (Ag s.cap) (toN F) (Es.map Ent.u) Es.length=LX SQ s.ps.length (Ag s.cap) (toN F):=by unfold DM LX;rw[Cl,<-aU.o,xA (by rw[zW];exact zB _)]
      have aS:=aj.o.vm (by omega);rw[aE]at aS;replace aS:=zh aS;replace aE:=zh aE;replace cj:=zh cj;have a1:Hid (∀x,x∈mb::(Es.take Es.length).map Ent.x->w4.heap.size<=x):=fun x hx=>(List.mem_cons.1 hx).elim (fun h=>by rw[h];exact vP aX.o.1.symm) (fun h=>by obtain⟨e2,aG,rfl⟩:=List.mem_map.1 h;have h1:=(am.o.ent e2 (yE aG)).2.2;have h2:=an.o.size;omega);have aD:Hid (Below w.heap.size w aa):=al.o.to_below aQ.o (fun x hx=>by have h1:=a1.o x hx;have h2:=bL.o.size;omega);have aF:Hid (Bk aa w.heap.size 32 (SC s Ap Ac Av cp cc cv)):=dC.o.kp al.o (fun h=>by have h1:=a1.o _ h;have h2:=bH.o;omega);obtain⟨ev,cP⟩:∃ev,ev=LX SQ s.ps.length (Ag s.cap) (toN F):=⟨_,rfl⟩;rw[<-cP]at aS bf;replace cP:=zh cP;have eg:=FS 39 underlying39 s.ps.length (by omega);have kva:Hid (∀W (p:Nat),p<s.ps.length->Below aa.heap.size aa W->Calls prog 37 #[.int .i64 (p:Int),.pointer (some ⟨vb,0,none⟩)] W fun e w'=>e=.returned (.agg #[.bool (rq (ev p)).1,.string (rq (ev p)).2.1,.string (rq (ev p)).2.2])/\Below W.heap.size W w'):=fun W p hp h=>JU s.ps.length ev vb mb p hp (by omega) W (hE.o.below (aD.o.trans (h.mono aD.o.size))) (aS.o.below h);obtain⟨ob,a6⟩:∃x,x=aa.heap.size:=⟨_,rfl⟩;obtain⟨dX,aP⟩:∃W,W=(aa.alloc (.cells (AM s.ps.length fun _=>zraw).toArray 48)):=⟨_,rfl⟩;have b4:Hid (Below aa.heap.size aa dX):=by rw[aP];exact(zI _ aa).alloc (zB _) _
      have b7:Hid (RowB dX ob s.ps.length fun j=>if j<0 then rq (ev j) else zraw):=by rw[aP,a6];refine RowB.congr (r:=fun _=>zraw) (ym aa _) fun j _=>?_;rw[zE (yB _)]
      have u0:=aF.o.c0;have u1:=aF.o.c1;have u2:=aF.o.c2;have u9:=aF.o.lt
      go_wp2_with fail
      (try rw[<-aP])
      (try rw[<-a6])
      replace aP:=zh aP;replace a6:=zh a6;clear eg u0 u1 u2 u9
      go_loopw [167] (fun ix wr=>∃(k:Nat),k<=s.ps.length/\ix=.int .i64 (k:Int)/\Hid (Below aa.heap.size aa wr)/\Hid (RowB wr ob s.ps.length fun j=>if j<k then rq (ev j) else zraw)) (fun ix _=>s.ps.length-(intOf ix).toNat)
      case atStart=>exact⟨0,zS _,rfl,b4,b7⟩
      case round=>
       clear b4 b7;obtain⟨k,hk,rfl,ao,bk⟩:=hrel;obtain⟨dl,rfl⟩:∃z,z=wr:=⟨_,rfl⟩
       by_cases hkm:k<s.ps.length
       .have k0:=zh (kva.o dl k hkm ao.o);have q0:(0:Int)<=(k:Int):=by omega
        have q1:(k:Int)<(s.ps.length:Int):=by omega
        go_wp2_with fail
        refine k0.o.q fun w6 hb=>?_;have dr:Hid (Below aa.heap.size aa w6):=ao.o.trans (hb.mono ao.o.size);have a3:Hid (RowB w6 ob s.ps.length fun j=>if j<k then rq (ev j) else zraw):=bk.o.below hb bk.o.lt;clear hb k0 ao bk;obtain⟨r1,r2,r3⟩:=a3.o.cell hkm;have f1:=a3.o.frozen (k*3);have f2:=a3.o.frozen (k*3+1);have f3:=a3.o.frozen (k*3+2);have r9:=a3.o.lt;have bw:Hid (aa.heap.size<=ob):=vP a6.o.symm;have dY:Hid (Below aa.heap.size aa (((w6.setCell ⟨ob,k*3,none⟩ (.bool (rq (ev k)).1)).setCell ⟨ob,k*3+1,none⟩ (.string (rq (ev k)).2.1)).setCell ⟨ob,k*3+2,none⟩ (.string (rq (ev k)).2.2))):=((dr.o.setCell (p:=⟨ob,k*3,none⟩) bw.o _).setCell (p:=⟨ob,k*3+1,none⟩) bw.o _).setCell (p:=⟨ob,k*3+2,none⟩) bw.o _;have d6:Hid (RowB (((w6.setCell ⟨ob,k*3,none⟩ (.bool (rq (ev k)).1)).setCell ⟨ob,k*3+1,none⟩ (.string (rq (ev k)).2.1)).setCell ⟨ob,k*3+2,none⟩ (.string (rq (ev k)).2.2)) ob s.ps.length fun j=>if j<k+1 then rq (ev j) else zraw):=(a3.o.set hkm (rq (ev k))).congr fun j _=>by by_cases c:j=k;(· rw[zF c,zF (by omega),c]);(· rw[zE c];by_cases d:j<k;(· rw[zF d,zF (by omega)]);(· rw[zE d,zE (by omega)]))
        generalize (if k<k then rq (ev k) else zraw)=rz at r1 r2 r3;go_wp2;exact⟨⟨k+1,by omega,by go_num,dY,d6⟩,by simp only[intOf];omega⟩
       obtain rfl:k=s.ps.length:=by omega
       have d7:Hid (RowB dl ob s.ps.length fun j=>rq (ev j)):=bk.o.congr fun j hj=>by rw[zF hj]
       have d0:Hid (Below w.heap.size w dl):=aD.o.trans (ao.o.mono aD.o.size);have bw:Hid (w.heap.size<=ob):=by rw[a6.o];exact aD.o.size
       clear bk ao;go_wp2;rw[yN];go_ret2;exact bf.o _ _ ob bX.o dG.o rfl bw.o d7.o d0.o
end Sh
end
section
namespace Sh
open Nt Ci
def hL1:List Lp:=[(0,3,1/2),(1,0,1/2)]
def hL2:List Lp:=[(0,1,1/2),(0,3,1/2),(1,0,1/2)]
def hL3:List Lp:=[(0,1,1),(1,0,1)]
def hL4:List Lp:=[(0,3,1),(2,0,1/2),(2,1,1/2)]
theorem OQ{e:Nat->Rat}(h:Eff 4 hL1 [3] e):e 0=6/12/\e 1=3/12/\e 2=0/\e 3=1:=by
 have h3:=h.listed 3 (by simp);have h0:=h.sum 0 (by omega) (by simp);have h1:=h.sum 1 (by omega) (by simp);have h2:=h.sum 2 (by omega) (by simp);simp[hL1,Ao]at h0 h1 h2;refine⟨?_,?_,?_,h3⟩<;>grind
end Sh
end
section
open Go.RowKit Go.Shelf
namespace Sh
open Nt Ci
noncomputable def ev(s:SR)(F:List Int):Nat->Rat:=LX SQ s.ps.length (Ag s.cap) (toN F)
theorem Pn{s:SR}{F:List Int}(d:Ak s=true)(h:AX s.ps.length (Ah s) (toN F)=false):∃D,Vals (ev s F) D:=by
 rw[<-Cl]at h;obtain⟨D,hD,hi⟩:=LY (S:=SQ) (F:=toN F) (BY d) KN (IE h).2;exact⟨D,hi.vals hD⟩
theorem Oo{s:SR}{F:List Int}(d:Ak s=true)(h:AX s.ps.length (Ah s) (toN F)=false):Eff s.ps.length (Ag s.cap) (toN F) (ev s F):=by
 rw[<-Cl]at h;exact Tu (BY d) KN (IE h).2
theorem G0{s:SR}(F:List Int)(d:Ak s=true)(hn:s.ps.length<=8):AX s.ps.length (Ah s) (toN F)=false:=by
 rw[<-Cl];exact T4 (BY d) hn
theorem Mv(s:SR)(Ap Ac Av Af:Option Addr)(cp cc cv cf:Nat)(F:List Int)(w:World)(hE:Env w)(hs:StIn w s Ap Ac Av)(hn:s.ps.length<=8)(aa:s.cap.length<=300)(hF:InInt w Af F)(d:F.length<=140737488355328):
 Calls prog 12 #[.agg #[.slice Ap s.ps.length cp,.slice Ac s.cap.length cc,.slice Av s.vot.length cv],.slice Af F.length cf] w fun e w' =>
  (if Ak s=true/\AZ s.ps.length F=true then ∃b,e=.returned (.tuple #[.slice (some ⟨b,0,none⟩) s.ps.length s.ps.length,.int .i64 0])/\w.heap.size<=b/\RowB w' b s.ps.length fun p=>rq (ev s F p)
   else e=.returned (.tuple #[.slice none 0 0,.int .i64 1]))/\Below w.heap.size w w' :=
 (Pm s Ap Ac Av Af cp cc cv cf F w hE hs aa hF d).mono fun e w' h=>⟨by
   by_cases hgd:Ak s=true/\AZ s.ps.length F=true
   .rw[zF hgd];have h1:=h.1;rw[zF hgd,zE (by rw[G0 F hgd.1 hn];decide)]at h1;exact h1
   rw[zE hgd];have h1:=h.1;rw[zE hgd]at h1;exact h1,h.2⟩
end Sh
end
section
open Go.RowKit Go.Shelf
namespace Bd
open Nt Ci Sh
def lM:List Lk:=[(0,1,false,⟨#[49]⟩,⟨#[50]⟩),(0,2,false,⟨#[49]⟩,⟨#[50]⟩),(1,0,false,⟨#[49]⟩,⟨#[50]⟩)]
def sM:SR:=⟨[⟨#[97]⟩,⟨#[98]⟩,⟨#[112]⟩],lM,[]⟩
def LM:List Lp:=[(0,1,1/2),(0,2,1/2),(1,0,1/2)]
theorem Mw:Ak sM=true:=by decide +kernel
theorem Xq:Ag sM.cap=LM:=by decide +kernel
theorem Xr:toN [2]=[2]:=rfl
def q2:Rat:=2/3
def q1:Rat:=1/3
def v3(a b c:Rat)(p:Nat):Rat:=if p=0 then a else if p=1 then b else if p=2 then c else 0
def V3(a b c:Rat):List Raw:=[rq a,rq b,rq c]
theorem YO(v:Nat->Rat):Ao 0 v LM=1/2*v 1+1/2*v 2:=by simp[LM,Ao];grind
theorem YP(v:Nat->Rat):Ao 1 v LM=1/2*v 0:=by simp[LM,Ao];grind
theorem TW:ev sM [2] 0=q2/\ev sM [2] 1=q1/\ev sM [2] 2=1:=by
 have h:=Oo (F:=[2]) Mw (G0 _ Mw (by decide));rw[Xq,Xr]at h;have h2:=h.listed 2 (by decide);have h0:=h.sum 0 (by decide) (by decide);have h1:=h.sum 1 (by decide) (by decide);rw[YO]at h0;rw[YP]at h1;refine⟨?_,?_,h2⟩
 .show _=(2/3:Rat);grind
 show _=(1/3:Rat);grind
theorem Yq{W:World}{b:Nat}(h:Bk W b 106 [.int .i64 0,.int .i64 1,.bool false,.string ⟨#[49]⟩,.string ⟨#[50]⟩,.int .i64 0,.int .i64 2,.bool false,.string ⟨#[49]⟩,.string ⟨#[50]⟩,.int .i64 1,.int .i64 0,.bool false,.string ⟨#[49]⟩,.string ⟨#[50]⟩]):InLk W (some ⟨b,0,none⟩) lM:=fun _=>⟨b,0,rfl,h.lt,fun j hj=>by
 match j,hj with
 |0,_=>exact⟨h.c0,h.c1,h.c2,h.c3,h.c4⟩
 |1,_=>exact⟨h.c5,h.c6,h.c7,h.cell (j:=8) rfl,h.cell (j:=9) rfl⟩
 |2,_=>exact⟨h.cell (j:=10) rfl,h.cell (j:=11) rfl,h.cell (j:=12) rfl,h.cell (j:=13) rfl,h.cell (j:=14) rfl⟩
 |j+3,hj=>exact absurd hj (by simp[lM])⟩
theorem stM{W:World}{pb cb:Nat}(h1:Bk W pb 9 [.string ⟨#[97]⟩,.string ⟨#[98]⟩,.string ⟨#[112]⟩])(h2:Bk W cb 106 [.int .i64 0,.int .i64 1,.bool false,.string ⟨#[49]⟩,.string ⟨#[50]⟩,.int .i64 0,.int .i64 2,.bool false,.string ⟨#[49]⟩,.string ⟨#[50]⟩,.int .i64 1,.int .i64 0,.bool false,.string ⟨#[49]⟩,.string ⟨#[50]⟩]):StIn W sM (some ⟨pb,0,none⟩) (some ⟨cb,0,none⟩) none:=⟨fun _=>⟨pb,0,rfl,h1.lt,fun j hj=>by
 match j,hj with
 |0,_=>exact h1.c0
 |1,_=>exact h1.c1
 |2,_=>exact h1.c2
 |j+3,hj=>exact absurd hj (by simp[sM])⟩,Yq h2,fun h=>absurd h (by decide),by decide,by decide,by decide,by decide +kernel,by decide +kernel,by decide +kernel,by decide +kernel,by decide +kernel⟩
def Smp(W:World)(pb cb:Nat):Prop:=Bk W pb 9 [.string ⟨#[97]⟩,.string ⟨#[98]⟩,.string ⟨#[112]⟩]/\Bk W cb 106 [.int .i64 0,.int .i64 1,.bool false,.string ⟨#[49]⟩,.string ⟨#[50]⟩,.int .i64 0,.int .i64 2,.bool false,.string ⟨#[49]⟩,.string ⟨#[50]⟩,.int .i64 1,.int .i64 0,.bool false,.string ⟨#[49]⟩,.string ⟨#[50]⟩]
theorem Smp.below{W W':World}{pb cb:Nat}(h:Smp W pb cb)(hb:Below W.heap.size W W'):Smp W' pb cb:=⟨h.1.below hb,h.2.below hb⟩
theorem Smp.alloc{W:World}{pb cb:Nat}(h:Smp W pb cb)(o:Obj):Smp (W.alloc o) pb cb:=⟨h.1.alloc o,h.2.alloc o⟩
theorem Smp.st{W:World}{pb cb:Nat}(h:Smp W pb cb):StIn W sM (some ⟨pb,0,none⟩) (some ⟨cb,0,none⟩) none:=stM h.1 h.2
theorem OZ{W:World}{b:Nat}(h:RowB W b 3 (fun p=>rq (ev sM [2] p))):InRow W (some ⟨b,0,none⟩) (V3 q2 q1 1):=by
 have h1:=IJ h
 have h2:B9 3 (ev sM [2])=V3 q2 q1 1:=by
  show [rq (ev sM [2] 0),rq (ev sM [2] 1),rq (ev sM [2] 2)]=_
  rw[TW.1,TW.2.1,TW.2.2];rfl
 rw[<-h2];exact h1
structure CIn(W:World)(A B:Option Addr)(V:List Raw)(R:List Int):Prop where
 row:InRow W A V
 ints:InInt W B R
 lv:V.length<=140737488355328
 lr:R.length<=140737488355328
 sz:∀k (h:k<V.length),V[k].2.1.size<=140737488355328/\V[k].2.2.size<=140737488355328
theorem CIn.below{W W':World}{A B:Option Addr}{V:List Raw}{R:List Int}(h:CIn W A B V R)(hb:Below W.heap.size W W'):CIn W' A B V R:=⟨h.row.below hb (zB _),h.ints.below hb,h.lv,h.lr,h.sz⟩
theorem TX(s:SR)(Ap Ac Av Af Aw Ar:Option Addr)(cp cc cv cf cw cr:Nat)(F:List Int)(ab:Bool)(V:List Raw)(R:List Int)(w:World)(hE:Env w)(hs:StIn w s Ap Ac Av)(h:s.cap.length<=300)(hF:InInt w Af F)(d:F.length<=140737488355328)(hC:CIn w Aw Ar V R):
 Calls prog 17 #[.agg #[.slice Ap s.ps.length cp,.slice Ac s.cap.length cc,.slice Av s.vot.length cv],.slice Af F.length cf,.agg #[.bool ab,.slice Aw V.length cw,.slice Ar R.length cr]] w (ChkPost s F ab V R w) :=
 QG s Ap Ac Av Af Aw Ar cp cc cv cf cw cr F ab V R w hE hs h hF d hC.row hC.lv hC.sz hC.ints hC.lr
section
variable {s:SR} {F:List Int} {V:List Raw} {R:List Int} {ab:Bool}
theorem Chk.sound(h:Chk s F ab V R):Ak s=true:=h.1.1
theorem Chk.len(h:Chk s F ab V R):V.length=s.ps.length:=h.2.1
theorem Chk.fits(h:Chk s F ab V R):Hk V=true:=h.2.2.2.1
theorem Chk.nn(h:Chk s F ab V R)(p:Nat):0<=D4 V p:=by
 obtain⟨_,D,hD⟩:=Ek h.fits;exact hD.nn p
theorem Chk.abv(h:Chk s F true V R):Abv s.ps.length (Ag s.cap) (toN F) (D4 V):=fun p hp=>⟨h.nn p,(h.2.2.2.2 p hp).1 rfl⟩
theorem Chk.blw(h:Chk s F false V R):Blw s.ps.length (Ag s.cap) (toN F) (D4 V) (rnk R):=fun p hp=>⟨h.nn p,(h.2.2.2.2 p hp).2 rfl⟩
theorem Chk.short(h:Chk s F ab V R)(p:Nat):ShortQ (D4 V p):=by
 obtain⟨_,D,hD⟩:=Ek h.fits;exact hD.short p
theorem Chk.raw(h:Chk s F ab V R){p:Nat}(hp:p<V.length):V[p]=rq (D4 V p):=by
 have h1:=(Ek h.fits).1;have h2:V[p]? = (B9 V.length (D4 V))[p]?:=by rw[<-h1]
 rw[ze hp,ze (by rw[Au];exact hp),BN]at h2;exact Option.some.inj h2
end
end Bd
end
section
open Go.ChangeShapes Go.WideShapes Go.ChangeAt Go.RowKit Go.Shelf Go.Joins Go.Deep
namespace Bd
open Nt Ci
section
variable {H:Type} {enc:TypeId×Value->H} {w:World} {base:Nat} {held:Bool}
def TY(k:Bool)(V:List Raw)(R:List Int)(d:DataW H):Prop:=∃dv dr,d=.agg [.lit (.bool k),dv,dr]/\NN V dv/\Jp Vl R dr
theorem Oq:prog.cellsOf 53=3:=by kernel_rfl
theorem QR{r:Go.Reach}{b0:Nat}{v:Value}{d:DataW H}{p:List MemPlace}(hv:Value.okWide prog w r b0 53 v)(h:DataW.Trod enc prog w base (fun _=>true) held 53 v d p):
 ∃(k:Bool)(A D:Option Addr)(m o:Nat)(V:List Raw)(R:List Int),v=.agg #[.bool k,.slice A V.length m,.slice D R.length o]/\TY k V R d/\InRow w A V/\InInt w D R:=by
 obtain⟨c0,c1,c2,y0,y1,y2,m,rfl,rfl,_,aa,ad,ae⟩:=open_agg3 underlying53 (by kernel_rfl) Oq hv h;obtain⟨k,e0,rfl⟩:=DataW.trod_bool underlying4 aa;obtain⟨A,m,V,e1,i1,m1⟩:=V6 ad;obtain⟨D,o,R,e2,i2,m2,_⟩:=It ae;simp only[List.cons.injEq,and_true]at e0 e1 e2;subst e0 e1 e2;exact⟨k,A,D,m,o,V,R,rfl,⟨_,_,rfl,i1,i2⟩,m1,m2⟩
theorem Xs{k:Bool}{V:List Raw}{R:List Int}{d:DataW H}{A D:Option Addr}(h:TY k V R d)(hw:∀m∈d.weights prog 53,m<=140737488351232)(m1:InRow w A V)(m2:InInt w D R):CIn w A D V R:=by
 obtain⟨dv,dr,rfl,i1,i2⟩:=h
 have e:(DataW.agg [.lit (.bool k),dv,dr]).weights prog 53=dv.weights prog 39++dr.weights prog 37:=by
  simp[DataW.weights,DataW.weightsEach,underlying53]
 rw[e]at hw;obtain⟨a1,a2⟩:=Tk i1 fun m hm=>hw m (yV _ hm);obtain⟨b1,b2⟩:=Gl underlying37 (vC (by decide:0<8) (by kernel_rfl)) i2 fun m hm=>hw m (yz _ hm);exact⟨m1,m2,a1,b1,fun i hi=>a2 _ (zO hi)⟩
end
end Bd
end
section
open Go.RowKit Go.Shelf
namespace Sh
open Nt Ci
def BoolPost(p:Bool->Prop)(w:World)(e:Ending)(w':World):Prop:=(∃r,e=.returned (.bool r)/\p r)/\Below w.heap.size w w'
theorem BoolPost.mkB{p:Bool->Prop}{w:World}{e:Ending}{w':World}{r:Bool}(h1:e=.returned (.bool r))(h2:p r)(h3:Below w.heap.size w w'):BoolPost p w e w':=⟨⟨r,h1,h2⟩,h3⟩
theorem Ot(g:Bool)(n d:ByteArray)(b:Nat)(w:World)(hb:Bk w b 48 [.bool g,.string n,.string d]):
 Calls prog 47 #[.int .i64 30,.slice (some ⟨b,0,none⟩) 1 1] w (BoolPost (fun _=>True) w):=by
 have c1:=hb.c1;have c2:=hb.c2;have c9:=hb.lt;replace hb:=zh hb;go_enter func47,ntmps47;go_wp2
 go_loopw [5] (fun ix wr=>∃(i:Nat),i<=1/\ix=.int .i64 (i:Int)/\wr=w) (fun ix _=>1-(intOf ix).toNat)
 case atStart=>exact⟨0,by omega,rfl,rfl⟩
 case round=>
  obtain⟨i,hi,rfl,rfl⟩:=hrel
  by_cases hlt:i<1
  .obtain rfl:i=0:=by omega
   by_cases h1:(30:Int)<(n.size:Int)
   .have m1:decide ((30:Int)<(n.size:Int))=true:=zG h1;have m1n:decide (30<n.size)=true:=zG (by omega);replace h1:=zh h1;go_wp2;go_ret;exact BoolPost.mkB (r:=false) rfl trivial (zI _ _)
   have m1:decide ((30:Int)<(n.size:Int))=false:=zH h1;have m1n:decide (30<n.size)=false:=zH (by omega);replace h1:=zh h1
   by_cases h2:(30:Int)<(d.size:Int)
   .have m2:decide ((30:Int)<(d.size:Int))=true:=zG h2;have m2n:decide (30<d.size)=true:=zG (by omega);replace h2:=zh h2;go_wp2;go_ret;exact BoolPost.mkB (r:=false) rfl trivial (zI _ _)
   have m2:decide ((30:Int)<(d.size:Int))=false:=zH h2;have m2n:decide (30<d.size)=false:=zH (by omega);replace h2:=zh h2;go_wp2;exact⟨⟨1,by omega,by go_num,by first|rfl|trivial⟩,by simp only[intOf];omega⟩
  obtain rfl:i=1:=by omega
  go_wp2;go_ret;exact BoolPost.mkB (r:=true) rfl trivial (zI _ _)
theorem Ou(s:SR)(Ap Ac Av:Option Addr)(cp cc cv:Nat)(w:World)(hs:StIn w s Ap Ac Av):
 Calls prog 16 #[.agg #[.slice Ap s.ps.length cp,.slice Ac s.cap.length cc,.slice Av s.vot.length cv],.int .i64 7] w (BoolPost (fun r=>r=true->s.ps.length<=7/\s.cap.length<=30/\s.vot.length<=30) w):=by
 have ae:Hid (Bk (w.alloc (.cells #[.slice Ap s.ps.length cp,.slice Ac s.cap.length cc,.slice Av s.vot.length cv] 32)) w.heap.size 32 (SC s Ap Ac Av cp cc cv)):=Bk.new w _ _;have af:Hid (Below w.heap.size w (w.alloc (.cells #[.slice Ap s.ps.length cp,.slice Ac s.cap.length cc,.slice Av s.vot.length cv] 32))):=(zI _ w).alloc (zB _) _;have ksh:=zh (fun g n d b w h=>Ot g n d b w h);replace hs:=zh hs;have u0:=ae.o.c0;have u1:=ae.o.c1;have u2:=ae.o.c2;have u9:=ae.o.lt
 by_cases z0:(7:Int)<(s.ps.length:Int)
 .have m0:decide ((7:Int)<(s.ps.length:Int))=true:=zG z0;have m0n:decide (7<s.ps.length)=true:=zG (by omega);replace z0:=zh z0;go_enter func16,ntmps16;go_wp2;go_ret;exact BoolPost.mkB (r:=false) rfl (fun h=>(by cases h)) af.o
 have m0:decide ((7:Int)<(s.ps.length:Int))=false:=zH z0;have m0n:decide (7<s.ps.length)=false:=zH (by omega)
 by_cases z1:(30:Int)<(s.cap.length:Int)
 .have m1:decide ((30:Int)<(s.cap.length:Int))=true:=zG z1;have m1n:decide (30<s.cap.length)=true:=zG (by omega);replace z1:=zh z1;go_enter func16,ntmps16;go_wp2;go_ret;exact BoolPost.mkB (r:=false) rfl (fun h=>(by cases h)) af.o
 have m1:decide ((30:Int)<(s.cap.length:Int))=false:=zH z1;have m1n:decide (30<s.cap.length)=false:=zH (by omega)
 by_cases z2:(30:Int)<(s.vot.length:Int)
 .have m2:decide ((30:Int)<(s.vot.length:Int))=true:=zG z2;have m2n:decide (30<s.vot.length)=true:=zG (by omega);replace z2:=zh z2;go_enter func16,ntmps16;go_wp2;go_ret;exact BoolPost.mkB (r:=false) rfl (fun h=>(by cases h)) af.o
 have m2:decide ((30:Int)<(s.vot.length:Int))=false:=zH z2;have m2n:decide (30<s.vot.length)=false:=zH (by omega);have ai:Hid (s.ps.length<=7/\s.cap.length<=30/\s.vot.length<=30):=⟨by omega,by omega,by omega⟩;obtain⟨y0,y1,y2⟩:=ai.o;replace z0:=zh z0;replace z1:=zh z1;replace z2:=zh z2;go_enter func16,ntmps16;go_wp2;clear u0 u1 u2 u9
 go_loopw [5] (fun ix wr=>∃(i:Nat),i<=s.ps.length/\ix=.int .i64 (i:Int)/\Hid (Below w.heap.size w wr)/\Hid (Bk wr w.heap.size 32 (SC s Ap Ac Av cp cc cv))) (fun ix _=>s.ps.length-(intOf ix).toNat)
 case atStart=>exact⟨0,zS _,rfl,af,ae⟩
 case round=>
  obtain⟨i,hi,rfl,hB,hX⟩:=hrel;obtain⟨wz,rfl⟩:∃z,z=wr:=⟨_,rfl⟩;have u0:=hX.o.c0;have u1:=hX.o.c1;have u2:=hX.o.c2;have u9:=hX.o.lt;have j0:(0:Int)<=(i:Int):=by omega
  by_cases hlt:i<s.ps.length
  .have j1:(i:Int)<(s.ps.length:Int):=by omega
   obtain⟨b,o,rfl,ah,hc⟩:=(hs.o.below hB.o).ps (by omega);have e1:=hc i hlt;generalize s.ps[i]=x at e1;clear hc
   by_cases h1:(60:Int)<(x.size:Int)
   .have q1:decide ((60:Int)<(x.size:Int))=true:=zG h1;have q1n:decide (60<x.size)=true:=zG (by omega);replace h1:=zh h1;go_wp2;go_ret;exact BoolPost.mkB (r:=false) rfl (fun h=>(by cases h)) hB.o
   have q1:decide ((60:Int)<(x.size:Int))=false:=zH h1;have q1n:decide (60<x.size)=false:=zH (by omega);replace h1:=zh h1;go_wp2
   go_roundw
   case rel=>exact⟨i+1,by omega,by go_num,hB,hX⟩
   case measure=>simp[intOf];omega
  obtain rfl:i=s.ps.length:=by omega
  go_wp2;clear u0 u1 u2 u9
  go_loopw [6] (fun ix wr=>∃(i:Nat),i<=s.cap.length/\ix=.int .i64 (i:Int)/\Hid (Below w.heap.size w wr)/\Hid (Bk wr w.heap.size 32 (SC s Ap Ac Av cp cc cv))) (fun ix _=>s.cap.length-(intOf ix).toNat)
  case atStart=>exact⟨0,zS _,rfl,hB,hX⟩
  case round=>
   obtain⟨i,hi,rfl,hB,hX⟩:=hrel;obtain⟨wz,rfl⟩:∃z,z=wr:=⟨_,rfl⟩;have u0:=hX.o.c0;have u1:=hX.o.c1;have u2:=hX.o.c2;have u9:=hX.o.lt;have j0:(0:Int)<=(i:Int):=by omega
   by_cases hlt:i<s.cap.length
   .have j1:(i:Int)<(s.cap.length:Int):=by omega
    obtain⟨b,o,rfl,ah,hc⟩:=(hs.o.below hB.o).cap (by omega);obtain⟨_,_,e3,e4,e5⟩:=hc i hlt;generalize s.cap[i]=x at e3 e4 e5;obtain⟨co,ho,gg,nn,dd⟩:=x;clear hc;replace e3:wz.cell? ⟨b,o+i*5+2,none⟩=some (.bool gg):=e3;replace e4:wz.cell? ⟨b,o+i*5+3,none⟩=some (.string nn):=e4;replace e5:wz.cell? ⟨b,o+i*5+4,none⟩=some (.string dd):=e5;have ks:=zh (ksh.o gg nn dd wz.heap.size _ (Bk.new wz 48 [.bool gg,.string nn,.string dd]));have aa:Hid (Below wz.heap.size wz (wz.alloc (.cells #[.bool gg,.string nn,.string dd] 48))):=(zI _ _).alloc (zB _) _
    go_wp2_with fail
    refine ks.o.mono ?_;rintro e w5 ⟨⟨r,rfl,_⟩,hb⟩;have ad:=zh (hB.o.trans ((aa.o.trans (hb.mono aa.o.size)).mono hB.o.size));have ag:=zh (hX.o.below (aa.o.trans (hb.mono aa.o.size)));clear hb e3 e4 e5 u0 u1 u2 u9
    cases r with
    |false=>
     go_wp2;go_ret;exact BoolPost.mkB (r:=false) rfl (fun h=>(by cases h)) ad.o
    |true=>
     go_wp2
     go_roundw
     case rel=>exact⟨i+1,by omega,by go_num,ad,ag⟩
     case measure=>simp[intOf];omega
   obtain rfl:i=s.cap.length:=by omega
   go_wp2;clear u0 u1 u2 u9
   go_loopw [7] (fun ix wr=>∃(i:Nat),i<=s.vot.length/\ix=.int .i64 (i:Int)/\Hid (Below w.heap.size w wr)/\Hid (Bk wr w.heap.size 32 (SC s Ap Ac Av cp cc cv))) (fun ix _=>s.vot.length-(intOf ix).toNat)
   case atStart=>exact⟨0,zS _,rfl,hB,hX⟩
   case round=>
    obtain⟨i,hi,rfl,hB,hX⟩:=hrel;obtain⟨wz,rfl⟩:∃z,z=wr:=⟨_,rfl⟩;have u0:=hX.o.c0;have u1:=hX.o.c1;have u2:=hX.o.c2;have u9:=hX.o.lt;have j0:(0:Int)<=(i:Int):=by omega
    by_cases hlt:i<s.vot.length
    .have j1:(i:Int)<(s.vot.length:Int):=by omega
     obtain⟨b,o,rfl,ah,hc⟩:=(hs.o.below hB.o).vot (by omega);obtain⟨_,_,e3,e4,e5⟩:=hc i hlt;generalize s.vot[i]=x at e3 e4 e5;obtain⟨co,ho,gg,nn,dd⟩:=x;clear hc;replace e3:wz.cell? ⟨b,o+i*5+2,none⟩=some (.bool gg):=e3;replace e4:wz.cell? ⟨b,o+i*5+3,none⟩=some (.string nn):=e4;replace e5:wz.cell? ⟨b,o+i*5+4,none⟩=some (.string dd):=e5;have ks:=zh (ksh.o gg nn dd wz.heap.size _ (Bk.new wz 48 [.bool gg,.string nn,.string dd]));have aa:Hid (Below wz.heap.size wz (wz.alloc (.cells #[.bool gg,.string nn,.string dd] 48))):=(zI _ _).alloc (zB _) _
     go_wp2_with fail
     refine ks.o.mono ?_;rintro e w5 ⟨⟨r,rfl,_⟩,hb⟩;have ad:=zh (hB.o.trans ((aa.o.trans (hb.mono aa.o.size)).mono hB.o.size));have ag:=zh (hX.o.below (aa.o.trans (hb.mono aa.o.size)));clear hb e3 e4 e5 u0 u1 u2 u9
     cases r with
     |false=>
      go_wp2;go_ret;exact BoolPost.mkB (r:=false) rfl (fun h=>(by cases h)) ad.o
     |true=>
      go_wp2
      go_roundw
      case rel=>exact⟨i+1,by omega,by go_num,ad,ag⟩
      case measure=>simp[intOf];omega
    obtain rfl:i=s.vot.length:=by omega
    go_wp2;go_ret;exact BoolPost.mkB (r:=true) rfl (fun _=>ai.o) hB.o
end Sh
end
section
open Go.RowKit Go.Shelf
namespace Ci
open Nt
def EH(l:List Lk):List Value:=(l.map lkL).flatten
theorem FV(x:Lk):(lkL x).length=5:=rfl
theorem QS(x:Lk)(l:List Lk):EH (x::l)=lkL x++EH l:=rfl
theorem Ki(l:List Lk)(x:Lk):EH (l++[x])=EH l++lkL x:=by
 unfold EH;rw[yD,xj];simp
theorem TZ:∀(l:List Lk)(j f:Nat)(hj:j<l.length),f<5->(EH l)[j*5+f]? = (lkL l[j])[f]?:=by
 intro l
 induction l with
 |nil=>intro j f hj;exact absurd hj (yB _)
 |cons a l ih=>
  intro j f hj hf;rw[QS]
  cases j with
  |zero=>
   rw[xw (by rw[FV];omega)];simp
  |succ j=>
   rw[List.getElem?_append_right (by rw[FV];omega),FV,show (j+1)*5+f-5=j*5+f by omega,ih j f (by simpa using hj) hf];simp
def Ua:Value:=.agg #[.int .i64 0,.int .i64 0,.bool false,.string ⟨#[]⟩,.string ⟨#[]⟩]
theorem Wz:(prog.info? 106).map (fun i=>(i.zero,i.size,i.bytes))=some (some Ua,5,56):=by kernel_rfl
section
variable {W W':World} {base n:Nat} {e:TypeId} {u:Value} {l:List Lk}
theorem Po(h:W.ownsRow base e 5 u l.length (EH l)):∃A cap,u=.slice A l.length cap/\InLk W A l:=by
 rcases h.2 with⟨rfl,h0⟩|⟨g,cap,cur,rfl,hb,hg,_⟩
 .refine⟨none,0,by rw[h0],fun hl=>by omega⟩
 refine⟨_,cap,rfl,fun hl=>⟨g,0,rfl,(Array.getElem?_eq_some_iff.1 hg).1,fun j hj=>?_⟩⟩;have d:∀o,(⟨g,0,none⟩:Addr).add o=⟨g,o,none⟩:=fun o=>by unfold Addr.add;split<;>simp_all
 have key:∀f v,f<5->(lkL l[j])[f]? = some v->W.cell? ⟨g,j*5+f,none⟩=some v:=fun f v hf hv=>by
  have hc:=h.cells (g:=g) (by simp[Value.ownBlock]) (j*5+f) v (by rw[TZ l j f hj hf];exact hv)
  rwa [d]at hc
 simp only[yS];exact⟨key 0 _ (by omega) rfl,key 1 _ (by omega) rfl,key 2 _ (by omega) rfl,key 3 _ (by omega) rfl,key 4 _ (by omega) rfl⟩
theorem QT{m:Nat}{xs:List Value}(h:W.ownsRow base e m u n xs):∃A cap,u=.slice A n cap:=by
 rcases h.2 with⟨rfl,h0⟩|⟨g,cap,cur,rfl,_⟩
 .exact⟨none,0,by rw[h0]⟩
 exact⟨_,cap,rfl⟩
theorem KW(w:World)(x:Lk)(t:TypeId):∀j u,(lkL x)[j]? = some u->(w.alloc (.cells #[.int .i64 x.1,.int .i64 x.2.1,.bool x.2.2.1,.string x.2.2.2.1,.string x.2.2.2.2] t)).cell? (Addr.add ⟨w.heap.size,0,none⟩ j)=some u:=by
 intro j u hj;have d:(⟨w.heap.size,0,none⟩:Addr).add j=⟨w.heap.size,j,none⟩:=by unfold Addr.add;split<;>simp_all
 rw[d];simp only[World.cell?,ym];simp only[lkL]at hj
 match j,hj with
 |0,hj=>simpa using hj
 |1,hj=>simpa using hj
 |2,hj=>simpa using hj
 |3,hj=>simpa using hj
 |4,hj=>simpa using hj
 |j+5,hj=>simp at hj
theorem Ov(x:Lk):∀u∈lkL x,u.oneCell'=true:=by
 intro u hu;simp only[lkL,xC,yZ,wk]at hu
 rcases hu with rfl|rfl|rfl|rfl|rfl<;>rfl
end
end Ci
end
section
open Go.RowKit Go.Shelf
namespace Ci
structure Gv(W:World)(B R n:Nat)(v:Nat->Value)(rw_:Nat->List Lk):Prop where
 lt:R<W.heap.size
 hd:∀i,i<n->W.cell? ⟨R,i,none⟩=some (v i)
 fr:∀i,W.frozen? ⟨R,i,none⟩=false
 rows:∀i,i<n->W.ownsRow B 106 5 (v i) (rw_ i).length (EH (rw_ i))
 apart:∀i j,i<n->j<n->i≠j->Qy (v i) (v j)
 ne:∀i,i<n->(v i).ownBlock≠some R
 lowR:B<=R
section
variable {W W':World} {B R n i:Nat} {v:Nat->Value} {rw_:Nat->List Lk}
theorem Gv.below(h:Gv W B R n v rw_)(hb:Below W.heap.size W W'):Gv W' B R n v rw_ :=
 ⟨zJ h.lt hb.size,fun i hi=>(hb.cell (p:=⟨R,i,none⟩) h.lt).trans (h.hd i hi),fun i=>(hb.frozen (p:=⟨R,i,none⟩) h.lt).trans (h.fr i),fun i hi=>AC (h.rows i hi) hb,h.apart,h.ne,h.lowR⟩
theorem Gv.alloc(h:Gv W B R n v rw_)(o:Obj):Gv (W.alloc o) B R n v rw_:=h.below ((zI _ W).alloc (zB _) o)
theorem Gv.drew(h:Gv W B R n v rw_):Gv W.drew B R n v rw_:=h.below (zI _ W).drew
theorem Gv.mono{B':Nat}(h:Gv W B R n v rw_)(hb:B'<=B):Gv W B' R n v rw_ :=
 ⟨h.lt,h.hd,h.fr,fun i hi=>by
   obtain⟨h1,h2⟩:=h.rows i hi;refine⟨h1,?_⟩
   rcases h2 with h2|⟨g,cap,cur,hv,hg,hh⟩
   .exact .inl h2
   exact .inr ⟨g,cap,cur,hv,zQ hb hg,hh⟩,h.apart,h.ne,zQ hb h.lowR⟩
theorem Gv.start(w:World){B:Nat}(hB:B<=w.heap.size)(n:Nat)(t:TypeId):Gv (w.alloc (.cells (madeCells #[.slice none 0 0] n) t)) B w.heap.size n (fun _=>.slice none 0 0) fun _=>[]:=by
 have h:=ym w (.cells (madeCells #[(.slice none 0 0:Value)] n) t);refine⟨by simp,fun x hx=>?_,fun x=>by simp only[World.frozen?,h];simp,fun _ _=>yf _ _ _ _,fun _ _ _ _ _ b hb=>(by cases hb),fun _ _ hb=>(by cases hb),hB⟩;simp only[World.cell?,h];simp[madeCells,hx];rw[qB];rfl
def IP(rw_:Nat->List Lk)(x:Nat)(q:Lk):Nat->List Lk:=fun i=>if i=x then rw_ i++[q] else rw_ i
theorem Gv.step(h:Gv W B R n v rw_){x:Nat}{q:Lk}(hx:x<n){u:Value}(hg:W.grownBy W' (v x).ownBlock)(ho:W'.ownsRow B 106 5 u ((rw_ x).length+1) (EH (rw_ x)++lkL q))(hn:u.ownBlock=(v x).ownBlock\/u.ownBlock=some W.heap.size):
 Gv (W'.setCell ⟨R,x,none⟩ u) B R n (fun i=>if i=x then u else v i) (IP rw_ x q):=by
 have ag:some R≠(v x).ownBlock:=fun e=>h.ne x hx e.symm;have ad:W'.heap[R]? = W.heap[R]?:=hg.block R h.lt ag;have d:∀i,W'.cell? ⟨R,i,none⟩=W.cell? ⟨R,i,none⟩:=fun i=>zU (a:=⟨R,i,none⟩) ad;have ah:∀i,W'.frozen? ⟨R,i,none⟩=W.frozen? ⟨R,i,none⟩:=fun i=>yF (a:=⟨R,i,none⟩) ad
 have af:u.ownBlock≠some R:=fun e=>by
  rcases hn with hn|hn
  .exact h.ne x hx (by rw[<-hn,e])
  rw[e]at hn;have:=h.lt;simp only[Option.some.injEq]at hn;omega
 have ae:∀a b:Nat,a≠b->(⟨R,a,none⟩:Addr)≠⟨R,b,none⟩:=fun a b e1 e2=>by injection e2 with _ e3;exact e1 e3
 have far:∀{m:Nat} {z:Value} {xs:List Value},W'.ownsRow B 106 5 z m xs->z.ownBlock≠some R->(W'.setCell ⟨R,x,none⟩ u).ownsRow B 106 5 z m xs:=fun h hz=>
  h.kept (row:=some R) ⟨rfl,rfl,rfl,by simp,fun k _ hk=>zg _ _ _ _ (fun e=>hk (by rw[e]))⟩ (.inr hz)
 have aa:∀i,i<n->i≠x->Qy (v i) u:=fun i hi ai b hb e=>by
  rcases hn with hn|hn
  .exact h.apart i x hi hx ai b hb (by rw[<-hn,e])
  have:=((h.rows i hi).lt b hb).2;rw[e]at hn;simp only[Option.some.injEq]at hn;omega
 refine⟨by have:=hg.size;have:=h.lt;simp;omega,fun i hi=>?_,fun i=>by simpa [ah] using h.fr i,fun i hi=>?_,fun i j hi hj e=>?_,fun i hi=>?_,h.lowR⟩
 .by_cases e:i=x
  .subst e;rw[zF rfl];exact xN _ _ _ ((d i).trans (h.hd i hi))
  rw[zE e,yu _ _ _ _ (by first|exact ae _ _ e|exact ae _ _ fun c=>e c.symm),d];exact h.hd i hi
 .by_cases e:i=x
  .subst e;rw[zF rfl];have:IP rw_ i q i=rw_ i++[q]:=zF rfl;rw[this,zX,Ki];exact far ho af
  rw[zE e];have:IP rw_ x q i=rw_ i:=zE e;rw[this];refine far ((h.rows i hi).kept hg ?_) (h.ne i hi)
  cases hv:(v i).ownBlock with
  |none=>exact .inl rfl
  |some b=>exact .inr fun c=>h.apart i x hi hx e b hv c.symm
 .by_cases e1:i=x
  .have e2:j≠x:=fun c=>e (by rw[e1,c]);rw[zF e1,zE e2];exact fun b hb hc=>aa j hj e2 b hc hb
  rw[zE e1]
  by_cases e2:j=x
  .rw[zF e2];exact aa i hi e1
  rw[zE e2];exact h.apart i j hi hj e
 by_cases e:i=x
 .rw[zF e];exact af
 rw[zE e];exact h.ne i hi
theorem Gv.of_block(h:Gv W B R n v rw_)(hs:W.heap.size<=W'.heap.size)(hR:W'.heap[R]? = W.heap[R]?)(hv:∀i b,i<n->(v i).ownBlock=some b->W'.heap[b]? = W.heap[b]?):Gv W' B R n v rw_ :=
 ⟨zJ h.lt hs,fun i hi=>(zU (a:=⟨R,i,none⟩) hR).trans (h.hd i hi),fun i=>(yF (a:=⟨R,i,none⟩) hR).trans (h.fr i),fun i hi=>by
   obtain⟨h1,h2⟩:=h.rows i hi;refine⟨h1,?_⟩
   rcases h2 with h2|⟨g,cap,cur,d,hg,hh,rest⟩
   .exact .inl h2
   exact .inr ⟨g,cap,cur,d,hg,(hv i g hi (by rw[d];rfl)).trans hh,rest⟩,h.apart,h.ne,h.lowR⟩
theorem Gv.kp{xs:List Nat}(h:Gv W B R n v rw_)(hk:Kp xs W W')(hR:R∉xs)(hv:∀i b,i<n->(v i).ownBlock=some b->b∉xs):Gv W' B R n v rw_ :=
 h.of_block hk.size (hk.block R h.lt hR) fun i b hi e=>hk.block b ((h.rows i hi).lt b e).2 (hv i b hi e)
theorem Gv.congr{a':Nat->List Lk}(h:Gv W B R n v rw_)(e:∀i,i<n->rw_ i=a' i):Gv W B R n v a' :=
 ⟨h.lt,h.hd,h.fr,fun i hi=>by rw[<-e i hi];exact h.rows i hi,h.apart,h.ne,h.lowR⟩
end
end Ci
end
section
namespace Co
open Ci
def vs(V:List (Nat×Nat×Nat))(S:Nat->Bool)(p:Nat):Nat:=(V.map fun x=>if x.1=p/\S x.2.1=true then x.2.2 else 0).sum
def maj(V:List (Nat×Nat×Nat))(S:Nat->Bool)(p:Nat):Bool:=decide (3000<vs V S p)
def inR(V:List (Nat×Nat×Nat))(F:List Nat):Nat->Nat->Bool
 |0,p=>decide (p∈F)
 |k+1,p=>inR V F k p||maj V (inR V F k) p
def VIn(n:Nat)(V:List (Nat×Nat×Nat)):Prop:=∀x,x∈V->x.1<n/\x.2.1<n
section
variable {V:List (Nat×Nat×Nat)} {F F':List Nat} {S T:Nat->Bool} {n p q k j:Nat}
theorem KX:∀{V:List (Nat×Nat×Nat)},(∀x,x∈V->S x.2.1=true->T x.2.1=true)->vs V S p<=vs V T p:=by
 intro V
 induction V with
 |nil=>intro _;exact zB _
 |cons a V ih=>
  intro h;have h1:=ih fun x hx=>h x (zY _ hx);have h2:=h a (zf ..);unfold vs at h1 ⊢;simp only[xS,List.sum_cons]
  have h3:(if a.1=p/\S a.2.1=true then a.2.2 else 0)<=if a.1=p/\T a.2.1=true then a.2.2 else 0:=by
   split
   .rename_i hc;rw[zF ⟨hc.1,h2 hc.2⟩];exact zB _
   exact zS _
  omega
theorem Ub(h:∀x,x∈V->S x.2.1=T x.2.1):vs V S p=vs V T p :=
 Nat.le_antisymm (KX fun x hx=>by rw[h x hx];exact id) (KX fun x hx=>by rw[h x hx];exact id)
theorem Uc(h:∀x,x∈V->S x.2.1=true->T x.2.1=true)(hm:maj V S p=true):maj V T p=true:=by
 have h1:=zL hm;have h2:=KX (p:=p) h;exact zG (by omega)
theorem QU(h:∀x,x∈V->S x.2.1=T x.2.1):maj V S p=maj V T p:=by unfold maj;rw[Ub h]
theorem En:inR V F (k+1) p=(inR V F k p||maj V (inR V F k) p):=rfl
theorem Ow(h:inR V F j p=true)(d:j<=k):inR V F k p=true:=by
 induction d with
 |refl=>exact h
 |step _ ih=>rw[En,ih];rfl
def Xt(V:List (Nat×Nat×Nat))(F:List Nat)(p:Nat)(r:Int):Prop :=
 (r=-1/\∀k,inR V F k p=false)\/∃k:Nat,r=(k:Int)/\inR V F k p=true/\∀j,j<k->inR V F j p=false
theorem Pp(V:List (Nat×Nat×Nat))(F:List Nat)(p:Nat):∃r,Xt V F p r:=by
 by_cases h:∃k,inR V F k p=true
 .obtain⟨k,hk⟩:=h;obtain⟨j,_,h1,h2⟩:=If (P:=fun k=>inR V F k p=true) k hk;exact⟨j,.inr ⟨j,rfl,h1,fun i hi=>by simpa using h2 i hi⟩⟩
 exact ⟨-1,.inl ⟨rfl,fun k=>by
  cases hc:inR V F k p
  .rfl
  exact absurd ⟨k,hc⟩ h⟩⟩
noncomputable def rd(V:List (Nat×Nat×Nat))(F:List Nat)(p:Nat):Int:=Classical.choose (Pp V F p)
theorem Ud:Xt V F p (rd V F p):=vF (Pp V F p)
theorem W6:-1<=rd V F p:=by
 rcases Ud (V:=V) (F:=F) (p:=p) with⟨h,_⟩|⟨k,h,_⟩<;>omega
theorem Cd:inR V F k p=true<->0<=rd V F p/\rd V F p<=k:=by
 rcases Ud (V:=V) (F:=F) (p:=p) with⟨h,h2⟩|⟨j,h,h2,h3⟩
 .rw[h2 k];exact⟨fun h=>(by cases h),fun h3=>by omega⟩
 constructor
 .intro hk;refine⟨by omega,?_⟩;have:¬k<j:=fun c=>by rw[h3 k c]at hk;cases hk
  omega
 intro hk;exact Ow h2 (by omega)
theorem Xu:rd V F p<0<->∀k,inR V F k p=false:=by
 constructor
 .intro h k
  cases hc:inR V F k p
  .rfl
  have:=(Cd.1 hc).1;omega
 intro h
 rcases Ud (V:=V) (F:=F) (p:=p) with⟨h1,_⟩|⟨j,_,h2,_⟩
 .omega
 rw[h j]at h2;cases h2
theorem VR:rd V F p=0<->p∈F:=by
 constructor
 .intro h;have:inR V F 0 p=true:=Cd.2 (by omega);exact zL this
 intro h;have:inR V F 0 p=true:=zG h;have:=Cd.1 this;omega
theorem Ue{a:Int}(h:Xt V F p a):rd V F p=a:=by
 rcases h with⟨rfl,h⟩|⟨k,rfl,h,hm⟩
 .have h1:=Xu.2 h;have h2:=W6 (V:=V) (F:=F) (p:=p);omega
 have h1:=Cd.1 h;obtain⟨j,hj⟩:∃j:Nat,rd V F p=j:=⟨(rd V F p).toNat,by omega⟩
 have h2:¬j<k:=fun c=>by
  have h3:=hm j c;rw[Cd.2 (by omega)]at h3
  cases h3
 omega
theorem VS(h:rd V F p=((k+1:Nat):Int)):maj V (inR V F k) p=true:=by
 have h1:inR V F (k+1) p=true:=Cd.2 (by omega);rw[En,Bool.or_eq_true]at h1
 rcases h1 with h1|h1
 .have:=(Cd.1 h1).2;omega
 exact h1
theorem Uf(hV:VIn n V)(h:∀p,p<n->inR V F (k+1) p=true->inR V F k p=true):∀m,k<=m->∀p,p<n->inR V F m p=inR V F k p:=by
 intro m hm
 induction hm with
 |refl=>exact fun _ _=>rfl
 |step hm ih=>
  intro p hp;rw[En,ih p hp,QU (T:=inR V F k) fun x hx=>ih _ (hV x hx).2,<-En]
  cases hc:inR V F k p
  .cases hd:inR V F (k+1) p
   .rfl
   rw[h p hp hd]at hc;cases hc
  exact Ow hc (by omega)
theorem Pq(hV:VIn n V)(h:∀p,p<n->inR V F (k+1) p=true->inR V F k p=true)(hp:p<n):rd V F p<=k:=by
 by_cases h0:0<=rd V F p
 .obtain⟨j,hj⟩:∃j:Nat,rd V F p=j:=⟨(rd V F p).toNat,by omega⟩
  by_cases c:j<=k
  .omega
  have h1:inR V F j p=true:=Cd.2 (by omega);rw[Uf hV h j (by omega) p hp]at h1;exact(Cd.1 h1).2
 omega
theorem Ug(hV:VIn n V)(hp:p<n):∀(k:Nat),(k:Int)<rd V F p->∃q,q<n/\rd V F q=((k+1:Nat):Int):=by
 intro k hk;apply vU;intro d
 have:=Pq (k:=k) hV (F:=F) (fun q hq h=>by
  have h1:=Cd.1 h
  by_cases c:rd V F q=((k+1:Nat):Int)
  .exact absurd ⟨q,hq,c⟩ d
  exact Cd.2 (by omega)) hp
 omega
theorem Yr(hV:VIn n V)(hp:p<n):rd V F p<=n:=by
 by_cases h0:0<=rd V F p
 .obtain ⟨k,hk⟩:∃k:Nat,rd V F p=k:=⟨(rd V F p).toNat,by omega⟩
  have key:∀j:Nat,j<=k->∃l:List Nat,l.length=j/\l.Nodup/\(∀x,x∈l->x<n/\1<=rd V F x/\rd V F x<=j):=by
   intro j
   induction j with
   |zero=>exact fun _=>⟨[],rfl,vL,fun x hx=>by cases hx⟩
   |succ j ih=>
    intro hj;obtain⟨l,h1,h2,h3⟩:=ih (by omega);obtain⟨q,hq,hr⟩:=Ug hV hp (F:=F) j (by omega);refine⟨q::l,by simp[h1],List.nodup_cons.2 ⟨fun hm=>?_,h2⟩,fun x hx=>?_⟩
    .have:=(h3 q hm).2.2;omega
    rcases List.mem_cons.1 hx with rfl|hx
    .exact⟨hq,by omega,by omega⟩
    have:=h3 x hx;omega
  obtain⟨l,h1,h2,h3⟩:=key k (zB _);have:=Cy n l h2 fun x hx=>(h3 x hx).1;omega
 omega
theorem QV(hV:VIn n V)(hF:∀f,f∈F->S f=true)(hc:∀p,p<n->S p=false->maj V S p=false):∀k p,p<n->inR V F k p=true->S p=true:=by
 intro k
 induction k with
 |zero=>exact fun p _ h=>hF p (zL h)
 |succ k ih=>
  intro p hp h;rw[En,Bool.or_eq_true]at h
  rcases h with h|h
  .exact ih p hp h
  cases hs:S p
  .have h1:=Uc (T:=S) (fun x hx hh=>ih _ (hV x hx).2 hh) h;rw[hc p hp hs]at h1
   cases h1
  rfl
end
end Co
end
section
open Go.RowKit Go.Shelf
namespace Co
open Nt Ci
def uq(u:Nat):Rat:=mkRat (u:Int) 6000
theorem Xv(a b:Nat):uq a+uq b=uq (a+b):=by
 unfold uq;rw[Rat.mkRat_add_mkRat _ _ (by decide) (by decide)]
 have h:((a:Int)*((6000:Nat):Int)+(b:Int)*((6000:Nat):Int))=((a+b:Nat):Int)*((6000:Nat):Int):=by
  rw[xH,Int.add_mul]
 rw[h,Rat.mkRat_mul_right (by decide)]
theorem W7(u:Nat):uq u=(u:Rat)/6000:=by
 unfold uq;rw[vT];rfl
theorem Pr{a b:Nat}:uq a<uq b<->a<b:=by
 have h:(a:Rat)<(b:Rat)<->a<b:=Rat.natCast_lt_natCast;rw[W7,W7,<-h];grind
theorem Uh{a b:Nat}:uq a=uq b<->a=b:=by
 constructor
 .intro h
  have h1:¬a<b:=fun c=>by
   have:=Pr.2 c;rw[h]at this;exact Rat.lt_irrefl this
  have h2:¬b<a:=fun c=>by
   have:=Pr.2 c;rw[h]at this;exact Rat.lt_irrefl this
  omega
 intro h;rw[h]
theorem Ui(u:Nat):decide (0<Is (uq u) (uq 3000))=decide (3000<u):=by
 unfold Is;rw[xp,ye,ye]
 by_cases h1:u<3000
 .rw[zF (Pr.2 h1)];omega
 rw[zE fun c=>h1 (Pr.1 c)]
 by_cases h2:u=3000
 .rw[zF (Uh.2 h2)];omega
 rw[zE fun c=>h2 (Uh.1 c)];omega
theorem G1{a:Nat}(h:a<9223372036854775807):a<L1:=by
 have:=EO (n:=(a:Int)) (by omega) (by omega)
 simpa using this
theorem EX{u:Nat}(h:u<9223372036854775807):ShortQ (uq u):=by
 have h1:=Ni false u 6000 (by decide);have h2:=Nj false u 6000 (by decide);have e:mkRat (sg false u) 6000=uq u:=rfl;rw[e]at h1 h2;refine⟨?_,?_⟩
 .rw[h1,BH];exact G1 (zn (wF _ _) h)
 rw[h2];exact G1 (zn (wF _ _) (by decide))
theorem Xw{g:Bool}{n d:ByteArray}(h:unitsN (g,n,d)≠0):(.agg #[.bool g,.string n,.string d]:Value)=qv (uq (unitsN (g,n,d))):=by
 have hu:unitsN (g,n,d)=val n*(6000/val d)/\A4 g n d=true/\g=false/\6000%val d=0:=by
  unfold unitsN at h ⊢
  by_cases c1:A4 g n d=false\/g=true\/4<n.size\/4<d.size
  .rw[zF c1]at h;exact absurd rfl h
  rw[zE c1]at h ⊢
  by_cases c2:val d<val n\/6000%val d≠0
  .rw[zF c2]at h;exact absurd rfl h
  rw[zE c2];refine⟨rfl,?_,?_,by omega⟩
  .cases hv:A4 g n d
   .exact absurd (.inl hv) c1
   rfl
  cases hg:g
  .rfl
  exact absurd (.inr (.inl hg)) c1
 obtain⟨h1,h2,h3,h4⟩:=hu;obtain⟨q,hq,e1,e2,e3⟩:=Ip h2;have v1:val n=q.num.natAbs:=by rw[e2];exact Bi _
 have v2:val d=q.den:=by rw[e3];exact Bi _
 have hz:¬q.num<0:=by
  rw[h3]at e1;exact yA e1.symm
 have hd:q.den≠0:=q.den_nz;obtain⟨k,hk⟩:=Nat.dvd_of_mod_eq_zero h4;rw[v2]at hk;have ad:6000/q.den=k:=by rw[hk];exact Nat.mul_div_cancel_left _ (by omega)
 have e:uq (unitsN (g,n,d))=q:=by
  unfold uq;rw[h1,v1,v2,ad,hk];have aa:k≠0:=fun c=>by rw[c]at hk;omega
  rw[xU,Rat.mkRat_mul_right aa];have:((q.num.natAbs:Nat):Int)=q.num:=by omega
  rw[this,Rat.mkRat_self]
 rw[e];unfold qv;rw[<-e1,<-e2,<-e3]
def vt(x:Lk):Nat×Nat×Nat:=(x.1.toNat,x.2.1.toNat,unitsN (lkP x))
def VT(s:SR):List (Nat×Nat×Nat):=s.vot.map vt
def row(l:List Lk)(p:Nat):List Lk:=l.filter fun x=>decide (x.1=(p:Int))
def Cw(S:Nat->Bool)(l:List Lk):Nat:=(l.map fun x=>if S x.2.1.toNat=true then unitsN (lkP x) else 0).sum
theorem QW(S:Nat->Bool)(x:Lk)(l:List Lk):Cw S (x::l)=(if S x.2.1.toNat=true then unitsN (lkP x) else 0)+Cw S l:=by simp[Cw]
theorem QX(S:Nat->Bool){l:List Lk}{i:Nat}(h:i<l.length):Cw S (l.take (i+1))=Cw S (l.take i)+if S l[i].2.1.toNat=true then unitsN (lkP l[i]) else 0:=by
 unfold Cw;rw[zP h,yD,List.sum_append];simp
theorem VU(S:Nat->Bool):∀(l:List Lk),Cw S l<=6000*l.length:=by
 intro l
 induction l with
 |nil=>simp[Cw]
 |cons a l ih=>
  rw[QW,zZ];have:=Iq (lkP a)
  split<;>omega
theorem Xx{s:SR}(h:∀x,x∈s.vot->0<=x.1)(S:Nat->Bool)(p:Nat):vs (VT s) S p=Cw S (row s.vot p):=by
 unfold vs VT Cw row;generalize s.vot=l at h
 induction l with
 |nil=>rfl
 |cons a l ih=>
  have ih':=ih fun x hx=>h x (zY _ hx);have h0:=h a (zf ..);rw[xS,xS,List.sum_cons,ih',zk]
  by_cases c:a.1=(p:Int)
  .have c2:(vt a).1=p:=by show a.1.toNat=p;omega
   rw[zF (zG c),xS,List.sum_cons]
   congr 1
   by_cases c3:S a.2.1.toNat=true
   .rw[zF ⟨c2,c3⟩,zF c3];rfl
   rw[zE fun c4=>c3 c4.2,zE c3]
  have c2:¬(vt a).1=p:=fun c2=>c (by have:a.1.toNat=p:=c2;omega);rw[zE (c:=decide (a.1=(p:Int))=true) (by simpa using c),zE fun c4=>c2 c4.1,yS]
theorem VV{s:SR}(h:∀x,x∈s.vot->0<=x.1)(S:Nat->Bool)(p:Nat):maj (VT s) S p=decide (3000<Cw S (row s.vot p)):=by unfold maj;rw[Xx h]
theorem KY{s:SR}(h:Ak s=true):s.ps.length<=60:=by
 unfold Ak at h;simp only[zr,yC]at h;exact h.2.1
structure SeIn(w:World)(xb R b B n:Nat)(v:Nat->Value)(rows:Nat->List Lk)(o:Nat->Int):Prop where
 x:Bk w xb 93 [.slice (some ⟨R,0,none⟩) n n,.slice (some ⟨b,0,none⟩) n n]
 g:Gv w B R n v rows
 r:RoI w b n o
 nx:xb≠b
 nxR:xb≠R
 nR:R≠b
 nv:∀i,i<n->(v i).ownBlock≠some b
 lb:B<=b
section
variable {w w':World} {xb R b B n:Nat} {v:Nat->Value} {rows:Nat->List Lk} {o:Nat->Int}
theorem SeIn.below(h:SeIn w xb R b B n v rows o)(hb:Below w.heap.size w w'):SeIn w' xb R b B n v rows o :=
 ⟨h.x.below hb,h.g.below hb,h.r.below hb,h.nx,h.nxR,h.nR,h.nv,h.lb⟩
theorem SeIn.set(h:SeIn w xb R b B n v rows o){p:Nat}(hp:p<n)(k:Int):SeIn (w.setCell ⟨b,p,none⟩ (.int .i64 k)) xb R b B n v rows (Er o p k):=by
 have hg:w.grownBy (w.setCell ⟨b,p,none⟩ (.int .i64 k)) (some b):=A8 w ⟨b,p,none⟩ _;refine⟨h.x.far h.nx _,?_,h.r.set hp k,h.nx,h.nxR,h.nR,h.nv,h.lb⟩;exact h.g.of_block (by simp) (zg _ _ _ _ h.nR) fun i b' hi e=>zg _ _ _ _ fun c=>h.nv i hi (by rw[e,c])
theorem SeIn.congr{o':Nat->Int}(h:SeIn w xb R b B n v rows o)(e:∀x,x<n->o x=o' x):SeIn w xb R b B n v rows o':=⟨h.x,h.g,h.r.congr e,h.nx,h.nxR,h.nR,h.nv,h.lb⟩
end
theorem found_any(xb R b B n p:Nat)(v:Nat->Value)(rows:Nat->List Lk)(o:Nat->Int)(w:World)(hx:SeIn w xb R b B n v rows o)(hp:p<n)(_hn:n<=1000):
 Calls prog 88 #[.pointer (some ⟨xb,0,none⟩),.int .i64 (p:Int)] w fun e w'=>e=.returned (.bool (decide (0<=o p)))/\w'=w:=by
 have u0:=hx.x.c1;have u9:=hx.x.lt;have e1:=hx.r.cell p hp;have e9:=hx.r.lt;have j0:(0:Int)<=(p:Int):=by omega
 have j1:(p:Int)<(n:Int):=by omega
 generalize o p=d at e1;go_enter func88,ntmps88;go_wp2;go_ret;exact⟨rfl,rfl⟩
end Co
end
section
open Go.RowKit Go.Shelf
namespace Co
open Nt Ci
def Ys(k:Nat):Code->Bool
 |.region a _ _=>a==k
 |_=>false
noncomputable def bgR(j:Nat):Code:=((Tryz.f40.body.map Ci.Bl).bind fun l=>l.find? (Ys j)).getD .skip
theorem YQ{c0 c1 c2 c3 c4 c5 c6 c7 c8 aK aL aM aN aO aP aQ aR aS aT aU aV aW aX aY aZ a0 a1 a2 a3 a4 a5 a6 a7 a8 a9 ba bb bc bd be bf bg bh bi bj bk bm bn bo bp bq br bs bt bu bD bE bF bG bH bI bJ bK bL bM bN bO bP bQ bR bS bT bU:Value}{Q:Exit->Act->World->Prop}(xb R b lb B B0 n co:Nat)(ho:Int)(gg:Bool)(nn dd:ByteArray)(v:Nat->Value)(rows:Nat->List Lk)(o:Nat->Int)(w wz:World)(_hn:n<=1000)(ap:co<n)(bW:(rows co).length<=1000)(hx:SeIn w xb R b B n v rows o)(ak:Bk w lb 106 [.int .i64 (co:Int),.int .i64 ho,.bool gg,.string nn,.string dd])(av:xb≠R)(ag:lb≠R)(aw:∀i,i<n->(v i).ownBlock≠some xb)(bw:∀i,i<n->(v i).ownBlock≠some lb)(ao:B0<=B)(aA:Below B0 wz w)
 (h:∀(u42 u43 u44 u45 u46 u47 u48 u49 u50 u51 u52 u53 u54 u55 u56 u57 u58 u59:Value)(W:World)(_:Hid (∃v',SeIn W xb R b B n v' (IP rows co ((co:Int),ho,gg,nn,dd)) o/\∀i,i<n->(v' i).ownBlock≠some xb))(_:Hid (Below B0 wz W)),Q .normal ⟨#[c0,c1,c2,c3,c4,c5,c6,c7,c8,.pointer (some ⟨xb,0,none⟩),aK,.pointer (some ⟨lb,0,none⟩),aL,aM,aN,aO,aP,aQ,aR,aS,aT,aU,aV,aW,aX,aY,aZ,a0,a1,a2,a3,a4,a5,a6,a7,a8,a9,ba,bb,bc,bd,be,u42,u43,u44,u45,u46,u47,u48,u49,u50,u51,u52,u53,u54,u55,u56,u57,u58,u59,bf,bg,bh,bi,bj,bk,bm,bn,bo,bp,bq,br,bs,bt,bu],[]⟩ (W)):
 Code.wp prog (bgR 11) Q ⟨#[c0,c1,c2,c3,c4,c5,c6,c7,c8,.pointer (some ⟨xb,0,none⟩),aK,.pointer (some ⟨lb,0,none⟩),aL,aM,aN,aO,aP,aQ,aR,aS,aT,aU,aV,aW,aX,aY,aZ,a0,a1,a2,a3,a4,a5,a6,a7,a8,a9,ba,bb,bc,bd,be,bD,bE,bF,bG,bH,bI,bJ,bK,bL,bM,bN,bO,bP,bQ,bR,bS,bT,bU,bf,bg,bh,bi,bj,bk,bm,bn,bo,bp,bq,br,bs,bt,bu],[]⟩ w:=by
 conv=>arg 2;whnf
 conv=>arg 4;zeta
 replace h:=zh h;have ax:=hx.g.hd co ap;have aq:=zh (hx.g.rows co ap);have ah:=hx.g.lt;obtain⟨vh,ai⟩:∃z,z=v co:=⟨_,rfl⟩;rw[<-ai]at ax aq;have aC:Hid (vh.ownBlock≠some xb):=by rw[ai];exact aw co ap
 have bz:Hid (vh.ownBlock≠some lb):=by rw[ai];exact bw co ap
 have bx:Hid (vh.ownBlock≠some R):=by rw[ai];exact hx.g.ne co ap
 have au:Hid (vh.ownBlock≠some b):=by rw[ai];exact hx.nv co ap
 replace ai:=zh ai
 have HO:Hid (∀W,Below w.heap.size w W->W.cell? ⟨xb,0,none⟩=some (.slice (some ⟨R,0,none⟩) n n)/\W.cell? ⟨lb,0,none⟩=some (.int .i64 (co:Int))/\W.cell? ⟨lb,1,none⟩=some (.int .i64 ho)/\W.cell? ⟨lb,2,none⟩=some (.bool gg)/\W.cell? ⟨lb,3,none⟩=some (.string nn)/\W.cell? ⟨lb,4,none⟩=some (.string dd)):=fun W h=>
  ⟨(hx.x.below h).c0,(ak.below h).c0,(ak.below h).c1,(ak.below h).c2,(ak.below h).c3,(ak.below h).c4⟩
 obtain⟨i0,aB,bC⟩:=Option.map_eq_some_iff.1 Wz;simp only[Prod.mk.injEq]at bC;obtain⟨az,aD,aE⟩:=bC;obtain⟨zl,aJ⟩:∃z,z=Ua:=⟨_,rfl⟩;have bB:Hid (zl.cells.size=5):=by rw[aJ];rfl
 rw[<-aJ]at az;clear aJ;replace aB:=zh aB;replace az:=zh az;replace aD:=zh aD;replace aE:=zh aE;have aj:B<=w.heap.size:=zQ hx.g.lowR (xF ah);replace hx:=zh hx;replace ak:=zh ak;replace av:=zh av;replace ag:=zh ag;replace aA:=zh aA;have q0:(0:Int)<=(co:Int):=by omega
 have q1:(co:Int)<(n:Int):=by omega
 replace aw:=zh aw;clear bw;refine xR ?_;refine xG (S:=fun W=>W.cell? ⟨xb,0,none⟩=some (.slice (some ⟨R,0,none⟩) n n)/\W.cell? ⟨lb,0,none⟩=some (.int .i64 (co:Int))/\W.cell? ⟨lb,1,none⟩=some (.int .i64 ho)/\W.cell? ⟨lb,2,none⟩=some (.bool gg)/\W.cell? ⟨lb,3,none⟩=some (.string nn)/\W.cell? ⟨lb,4,none⟩=some (.string dd)) (by kernel_rfl) (HO.o _ (zI _ _).drew) (fun af=>?_);replace af:=zh af;refine tkhG (v:=?_) 0 rfl (af.o) (Or.inl ⟨by rfl,?_⟩) ?_;rotate_left
 . (intro w aa;obtain⟨q1,q2,q3,q4,q5,q6⟩:=aa;go_simp<;>with_reducible rfl)
 try simp only[Act.put,zA]
 refine tkhG (v:=?_) 1 rfl (af.o) (Or.inl ⟨by rfl,?_⟩) ?_;rotate_left
 . (intro w aa;obtain⟨q1,q2,q3,q4,q5,q6⟩:=aa;go_simp<;>with_reducible rfl)
 try simp only[Act.put]
 refine tkhG (v:=?_) 2 rfl (af.o) (Or.inl ⟨by rfl,?_⟩) ?_;rotate_left
 . (intro w aa;obtain⟨q1,q2,q3,q4,q5,q6⟩:=aa;go_simp<;>with_reducible rfl)
 try simp only[Act.put]
 refine tkhG (v:=?_) 3 rfl (af.o) (Or.inl ⟨by rfl,?_⟩) ?_;rotate_left
 . (intro w aa;obtain⟨q1,q2,q3,q4,q5,q6⟩:=aa;go_simp<;>with_reducible rfl)
 try simp only[Act.put]
 refine tkhG (v:=?_) 4 rfl (af.o) (Or.inl ⟨by rfl,?_⟩) ?_;rotate_left
 . (intro w aa;obtain⟨q1,q2,q3,q4,q5,q6⟩:=aa;go_simp<;>with_reducible rfl)
 try simp only[Act.put]
 refine tkhG (v:=?_) 5 rfl (af.o) (Or.inl ⟨by rfl,?_⟩) ?_;rotate_left
 . (intro w aa;obtain⟨q1,q2,q3,q4,q5,q6⟩:=aa;go_simp<;>with_reducible rfl)
 try simp only[Act.put]
 refine tkhG (v:=?_) 6 rfl (af.o) (Or.inl ⟨by rfl,?_⟩) ?_;rotate_left
 . (intro w aa;obtain⟨q1,q2,q3,q4,q5,q6⟩:=aa;go_simp<;>with_reducible rfl)
 try simp only[Act.put]
 refine tkhG (v:=?_) 7 rfl (af.o) (Or.inl ⟨by rfl,?_⟩) ?_;rotate_left
 . (intro w aa;obtain⟨q1,q2,q3,q4,q5,q6⟩:=aa;go_simp<;>with_reducible rfl)
 try simp only[Act.put]
 refine tkhG (v:=?_) 8 rfl (af.o) (Or.inl ⟨by rfl,?_⟩) ?_;rotate_left
 . (intro w aa;obtain⟨q1,q2,q3,q4,q5,q6⟩:=aa;go_simp<;>with_reducible rfl)
 try simp only[Act.put]
 refine tkhG (v:=?_) 9 rfl (af.o) (Or.inl ⟨by rfl,?_⟩) ?_;rotate_left
 . (intro w aa;obtain⟨q1,q2,q3,q4,q5,q6⟩:=aa;go_simp<;>with_reducible rfl)
 try simp only[Act.put]
 refine tkhG (v:=?_) 10 rfl (af.o) (Or.inl ⟨by rfl,?_⟩) ?_;rotate_left
 . (intro w aa;obtain⟨q1,q2,q3,q4,q5,q6⟩:=aa;go_simp<;>with_reducible rfl)
 try simp only[Act.put]
 refine tkhG (v:=?_) 11 rfl (af.o) (Or.inl ⟨by rfl,?_⟩) ?_;rotate_left
 . (intro w aa;obtain⟨q1,q2,q3,q4,q5,q6⟩:=aa;go_simp<;>with_reducible rfl)
 try simp only[Act.put]
 refine tkhG (v:=?_) 12 rfl (af.o) (Or.inl ⟨by rfl,?_⟩) ?_;rotate_left
 . (intro w aa;obtain⟨q1,q2,q3,q4,q5,q6⟩:=aa;go_simp<;>with_reducible rfl)
 try simp only[Act.put]
 refine tkhG (v:=?_) 14 rfl (af.o) (Or.inl ⟨by rfl,?_⟩) ?_;rotate_left
 . (intro w aa;obtain⟨q1,q2,q3,q4,q5,q6⟩:=aa;go_simp<;>with_reducible rfl)
 try simp only[Act.put]
 have bv:Hid (Below w.heap.size w w.drew):=(zI _ w).drew;have d:Hid (Below w.heap.size w (w.alloc (.cells #[.int .i64 (co:Int),.int .i64 ho,.bool gg,.string nn,.string dd] 106)).drew):=((zI _ w).alloc (zB _) _).drew;refine zT (rs:=[13,15]) (by kernel_rfl) (by simp) ?_;refine zK (o:=_) rfl (fun K hK=>?_) ?_
 .have hh:=(bv.o.cell (p:=⟨R,co,none⟩) ah).trans ax;go_simp;clear hh;refine hK.o _ _ (HO.o _ bv.o) (fun _=>?_);clear hK K
  try simp only[Act.put,zA,zD,zC]
  refine zT (rs:=[15]) (by kernel_rfl) (by simp) ?_;refine zK (o:=_) rfl (fun K hK=>?_) ?_
  .go_simp;refine hK.o _ _ (HO.o _ d.o) (fun _=>?_);clear hK K
   try simp only[Act.put,zA,zD,zC]
   refine zT (rs:=[16]) (by kernel_rfl) (by simp) ?_;refine zK (o:=_) rfl (fun K hK=>?_) ?_
   .rw [zF (by rfl)];refine Ci.AH _ _ _ 30 rfl B 106 i0 zl 5 56 underlying30 aB.o az.o aD.o aE.o bB.o (by decide) vh (rows co).length (EH (rows co)) rfl (AC aq.o d.o) ⟨w.heap.size,0,none⟩ 1 1 (lkL ((co:Int),ho,gg,nn,dd)) rfl rfl (KW w ((co:Int),ho,gg,nn,dd) 106) (Ov _) (by omega) (by unfold maxLen;omega) (by omega) (zQ aj d.o.size) ?_;intro vb wb am ae al;have ad:Hid (Bk wb lb 106 [.int .i64 (co:Int),.int .i64 ho,.bool gg,.string nn,.string dd]):=(ak.o.below d.o).grown ae (fun e=>bz.o e.symm);have an:Hid (Bk wb xb 93 [.slice (some ⟨R,0,none⟩) n n,.slice (some ⟨b,0,none⟩) n n]):=(hx.o.x.below d.o).grown ae (fun e=>aC.o e.symm)
    have aH:Hid (Gv (wb.setCell ⟨R,co,none⟩ vb) B R n (fun i=>if i=co then vb else v i) (IP rows co ((co:Int),ho,gg,nn,dd))):=by
     have h:=((hx.o.g.alloc (.cells #[.int .i64 (co:Int),.int .i64 ho,.bool gg,.string nn,.string dd] 106)).drew).step (q:=((co:Int),ho,gg,nn,dd)) ap (u:=vb) (W':=wb) (by rw[<-ai.o];exact ae) am (by rw[<-ai.o];exact al);exact h
    have bA:=zh am
    have aI:Hid (∃v',SeIn (wb.setCell ⟨R,co,none⟩ vb) xb R b B n v' (IP rows co ((co:Int),ho,gg,nn,dd)) o/\∀i,i<n->(v' i).ownBlock≠some xb):=by
     refine⟨_,⟨an.o.far av.o _,aH.o,?_,hx.o.nx,hx.o.nxR,hx.o.nR,fun i hi=>?_,hx.o.lb⟩,fun i hi=>?_⟩
     .refine(((hx.o.r.below d.o).grown ae fun e=>au.o e).grown (A8 wb ⟨R,co,none⟩ vb) fun e=>hx.o.nR (Option.some.inj e))
     .by_cases c:i=co
      .rw[zF c];intro e
       rcases al with h1|h1
       .exact au.o (by rw[<-h1,e])
       rw[e]at h1;have h2:=(hx.o.r.below d.o).lt;simp only[Option.some.injEq]at h1;omega
      rw[zE c];exact hx.o.nv i hi
     by_cases c:i=co
     .rw[zF c];intro e
      rcases al with h1|h1
      .exact aC.o (by rw[<-h1,e])
      rw[e]at h1;have h2:=(hx.o.x.below d.o).lt;simp only[Option.some.injEq]at h1;omega
     rw[zE c];exact aw.o i hi
    have aF:Hid (Below B0 wz wb):=(aA.o.trans (d.o.mono (zQ ao aj))).grown ae (zQ (zQ ao aj) d.o.size) (fun b e=>zQ ao (aq.o.lt b e).1);have aG:Hid (Below B0 wz (wb.setCell ⟨R,co,none⟩ vb)):=aF.o.setCell (p:=⟨R,co,none⟩) (zQ ao hx.o.g.lowR) _;have ar:=ae.block R (zJ ah d.o.size) (fun e=>bx.o e.symm);have y1:=(zU (a:=⟨R,co,none⟩) ar).trans ((d.o.cell (p:=⟨R,co,none⟩) ah).trans ax);have y2:=(yF (a:=⟨R,co,none⟩) ar).trans ((d.o.frozen (p:=⟨R,co,none⟩) ah).trans (hx.o.g.fr co));have y3:R<wb.heap.size:=zJ (zJ ah d.o.size) ae.size
    rcases am.2 with⟨_,ay⟩|⟨g9,cap9,cur9,rfl,_⟩
    .exact absurd ay (by omega)
    clear am ae al d ar;refine hK.o _ _ ⟨an.o.c0,ad.o.c0,ad.o.c1,ad.o.c2,ad.o.c3,ad.o.c4⟩ (fun _=>?_);clear hK K
    try simp only[Act.put,zA]
    refine tkhG (v:=?_) 17 rfl (⟨an.o.c0,ad.o.c0,ad.o.c1,ad.o.c2,ad.o.c3,ad.o.c4⟩) (Or.inl ⟨by rfl,?_⟩) ?_;rotate_left
    . (intro w aa;obtain⟨q1,q2,q3,q4,q5,q6⟩:=aa;go_simp<;>with_reducible rfl)
    try simp only[Act.put]
    refine zT (rs:=[18]) (by kernel_rfl) (by simp) ?_;refine zK (o:=_) rfl (fun K hK=>?_) ?_
    .go_simp;refine hK.o _ _ ⟨(an.o.far (p:=⟨R,co,none⟩) av.o _).c0,((ad.o.far (p:=⟨R,co,none⟩) ag.o _).c0),((ad.o.far (p:=⟨R,co,none⟩) ag.o _).c1),((ad.o.far (p:=⟨R,co,none⟩) ag.o _).c2),((ad.o.far (p:=⟨R,co,none⟩) ag.o _).c3),((ad.o.far (p:=⟨R,co,none⟩) ag.o _).c4)⟩ (fun _=>?_);clear hK K
     try simp only[Act.put,zA,zD,zC]
     refine xJ (by kernel_rfl) ?_ _;refine yx ?_;exact h.o _ _ _ _ _ _ _ _ _ _ _ _ _ _ _ _ _ _ _ aI aG
    exact zR
   exact zR
  exact zR
 refine zK (o:=_) rfl (fun K hK=>?_) ?_
 .go_simp;refine hK.o _ _ (HO.o _ d.o) (fun _=>?_);clear hK K
  try simp only[Act.put,zA,zD,zC]
  refine zT (rs:=[13]) (by kernel_rfl) (by simp) ?_;refine zK (o:=_) rfl (fun K hK=>?_) ?_
  .have hh:=(d.o.cell (p:=⟨R,co,none⟩) ah).trans ax;go_simp;clear hh;refine hK.o _ _ (HO.o _ d.o) (fun _=>?_);clear hK K
   try simp only[Act.put,zA,zD,zC]
   refine zT (rs:=[16]) (by kernel_rfl) (by simp) ?_;refine zK (o:=_) rfl (fun K hK=>?_) ?_
   .rw [zF (by rfl)];refine Ci.AH _ _ _ 30 rfl B 106 i0 zl 5 56 underlying30 aB.o az.o aD.o aE.o bB.o (by decide) vh (rows co).length (EH (rows co)) rfl (AC aq.o d.o) ⟨w.heap.size,0,none⟩ 1 1 (lkL ((co:Int),ho,gg,nn,dd)) rfl rfl (KW w ((co:Int),ho,gg,nn,dd) 106) (Ov _) (by omega) (by unfold maxLen;omega) (by omega) (zQ aj d.o.size) ?_;intro vb wb am ae al;have ad:Hid (Bk wb lb 106 [.int .i64 (co:Int),.int .i64 ho,.bool gg,.string nn,.string dd]):=(ak.o.below d.o).grown ae (fun e=>bz.o e.symm);have an:Hid (Bk wb xb 93 [.slice (some ⟨R,0,none⟩) n n,.slice (some ⟨b,0,none⟩) n n]):=(hx.o.x.below d.o).grown ae (fun e=>aC.o e.symm)
    have aH:Hid (Gv (wb.setCell ⟨R,co,none⟩ vb) B R n (fun i=>if i=co then vb else v i) (IP rows co ((co:Int),ho,gg,nn,dd))):=by
     have h:=((hx.o.g.alloc (.cells #[.int .i64 (co:Int),.int .i64 ho,.bool gg,.string nn,.string dd] 106)).drew).step (q:=((co:Int),ho,gg,nn,dd)) ap (u:=vb) (W':=wb) (by rw[<-ai.o];exact ae) am (by rw[<-ai.o];exact al);exact h
    have bA:=zh am
    have aI:Hid (∃v',SeIn (wb.setCell ⟨R,co,none⟩ vb) xb R b B n v' (IP rows co ((co:Int),ho,gg,nn,dd)) o/\∀i,i<n->(v' i).ownBlock≠some xb):=by
     refine⟨_,⟨an.o.far av.o _,aH.o,?_,hx.o.nx,hx.o.nxR,hx.o.nR,fun i hi=>?_,hx.o.lb⟩,fun i hi=>?_⟩
     .refine(((hx.o.r.below d.o).grown ae fun e=>au.o e).grown (A8 wb ⟨R,co,none⟩ vb) fun e=>hx.o.nR (Option.some.inj e))
     .by_cases c:i=co
      .rw[zF c];intro e
       rcases al with h1|h1
       .exact au.o (by rw[<-h1,e])
       rw[e]at h1;have h2:=(hx.o.r.below d.o).lt;simp only[Option.some.injEq]at h1;omega
      rw[zE c];exact hx.o.nv i hi
     by_cases c:i=co
     .rw[zF c];intro e
      rcases al with h1|h1
      .exact aC.o (by rw[<-h1,e])
      rw[e]at h1;have h2:=(hx.o.x.below d.o).lt;simp only[Option.some.injEq]at h1;omega
     rw[zE c];exact aw.o i hi
    have aF:Hid (Below B0 wz wb):=(aA.o.trans (d.o.mono (zQ ao aj))).grown ae (zQ (zQ ao aj) d.o.size) (fun b e=>zQ ao (aq.o.lt b e).1);have aG:Hid (Below B0 wz (wb.setCell ⟨R,co,none⟩ vb)):=aF.o.setCell (p:=⟨R,co,none⟩) (zQ ao hx.o.g.lowR) _;have ar:=ae.block R (zJ ah d.o.size) (fun e=>bx.o e.symm);have y1:=(zU (a:=⟨R,co,none⟩) ar).trans ((d.o.cell (p:=⟨R,co,none⟩) ah).trans ax);have y2:=(yF (a:=⟨R,co,none⟩) ar).trans ((d.o.frozen (p:=⟨R,co,none⟩) ah).trans (hx.o.g.fr co));have y3:R<wb.heap.size:=zJ (zJ ah d.o.size) ae.size
    rcases am.2 with⟨_,ay⟩|⟨g9,cap9,cur9,rfl,_⟩
    .exact absurd ay (by omega)
    clear am ae al d ar;refine hK.o _ _ ⟨an.o.c0,ad.o.c0,ad.o.c1,ad.o.c2,ad.o.c3,ad.o.c4⟩ (fun _=>?_);clear hK K
    try simp only[Act.put,zA]
    refine tkhG (v:=?_) 17 rfl (⟨an.o.c0,ad.o.c0,ad.o.c1,ad.o.c2,ad.o.c3,ad.o.c4⟩) (Or.inl ⟨by rfl,?_⟩) ?_;rotate_left
    . (intro w aa;obtain⟨q1,q2,q3,q4,q5,q6⟩:=aa;go_simp<;>with_reducible rfl)
    try simp only[Act.put]
    refine zT (rs:=[18]) (by kernel_rfl) (by simp) ?_;refine zK (o:=_) rfl (fun K hK=>?_) ?_
    .go_simp;refine hK.o _ _ ⟨(an.o.far (p:=⟨R,co,none⟩) av.o _).c0,((ad.o.far (p:=⟨R,co,none⟩) ag.o _).c0),((ad.o.far (p:=⟨R,co,none⟩) ag.o _).c1),((ad.o.far (p:=⟨R,co,none⟩) ag.o _).c2),((ad.o.far (p:=⟨R,co,none⟩) ag.o _).c3),((ad.o.far (p:=⟨R,co,none⟩) ag.o _).c4)⟩ (fun _=>?_);clear hK K
     try simp only[Act.put,zA,zD,zC]
     refine xJ (by kernel_rfl) ?_ _;refine yx ?_;exact h.o _ _ _ _ _ _ _ _ _ _ _ _ _ _ _ _ _ _ _ aI aG
    exact zR
   exact zR
  exact zR
 exact zR
theorem Xy:(prog.info? 30).map (fun i=>(i.zero,i.size,i.bytes))=some (some (.slice none 0 0),1,24):=by kernel_rfl
theorem SeIn.build{W:World}{R b B n:Nat}(hG:Gv W B R n (fun _=>.slice none 0 0) fun _=>[])(hr:RoI W b n fun _=>-1)(aa:R≠b)(d:B<=b):
 SeIn (W.alloc (.cells #[.slice (some ⟨R,0,none⟩) n n,.slice (some ⟨b,0,none⟩) n n] 93)) W.heap.size R b B n (fun _=>.slice none 0 0) (fun _=>[]) fun _=>-1 :=
 ⟨Bk.new W _ _,hG.alloc _,hr.alloc _,fun e=>by have:=hr.lt;omega,fun e=>by have:=hG.lt;omega,aa,fun i _ h=>(by cases h),d⟩
theorem YR(n:Nat)(w:World)(hn:n<=1000):Calls prog 73 #[.slice (some ⟨w.heap.size+1,0,none⟩) 1 1,.int .i64 (n:Int)] (((w.alloc (.cells (madeCells #[(.slice none 0 0:Value)] n) 30)).alloc (.cells #[.int .i64 (-1)] 3)).drew) (fun e w'=>(∃b,e=.returned (.slice (some ⟨b,0,none⟩) n n)/\Gv w' w.heap.size (w.heap.size) n (fun _=>.slice none 0 0) (fun _=>[])/\RoI w' b n (fun _=>-1)/\(w.heap.size)≠b/\w.heap.size<=b)/\Below w.heap.size w w'):=by
 have hL:Bk (((w.alloc (.cells (madeCells #[(.slice none 0 0:Value)] n) 30)).alloc (.cells #[.int .i64 (-1)] 3)).drew) (w.heap.size+1) 3 [.int .i64 (-1)]:=by
  have h:=Bk.new (w.alloc (.cells (madeCells #[(.slice none 0 0:Value)] n) 30)) 3 [.int .i64 (-1)];rw[zV]at h;exact h
 have hB:Below w.heap.size w (((w.alloc (.cells (madeCells #[(.slice none 0 0:Value)] n) 30)).alloc (.cells #[.int .i64 (-1)] 3)).drew):=(((zI _ w).alloc (zB _) _).alloc (by simp) _).drew
 have hG:Gv (((w.alloc (.cells (madeCells #[(.slice none 0 0:Value)] n) 30)).alloc (.cells #[.int .i64 (-1)] 3)).drew) w.heap.size (w.heap.size) n (fun _=>.slice none 0 0) fun _=>[]:=by
  exact((Gv.start w (zB _) n _).alloc _).drew
 refine(E6 n _ _ hn (hL.c0) hL.lt).mono ?_;rintro e w3 ⟨⟨rfl,d⟩,hb⟩;exact⟨⟨_,rfl,hG.below hb,RoI.of_row d,fun e=>by have:=hG.lt;omega,hB.size⟩,hB.trans (hb.mono hB.size)⟩
theorem YS(n:Nat)(w:World)(hn:n<=1000):Calls prog 73 #[.slice (some ⟨w.heap.size,0,none⟩) 1 1,.int .i64 (n:Int)] (((w.alloc (.cells #[.int .i64 (-1)] 3)).alloc (.cells (madeCells #[(.slice none 0 0:Value)] n) 30)).drew) (fun e w'=>(∃b,e=.returned (.slice (some ⟨b,0,none⟩) n n)/\Gv w' w.heap.size (w.heap.size+1) n (fun _=>.slice none 0 0) (fun _=>[])/\RoI w' b n (fun _=>-1)/\(w.heap.size+1)≠b/\w.heap.size<=b)/\Below w.heap.size w w'):=by
 have hL:Bk (((w.alloc (.cells #[.int .i64 (-1)] 3)).alloc (.cells (madeCells #[(.slice none 0 0:Value)] n) 30)).drew) (w.heap.size) 3 [.int .i64 (-1)]:=by
  exact((Bk.new w 3 [.int .i64 (-1)]).alloc _).below (zI _ _).drew
 have hB:Below w.heap.size w (((w.alloc (.cells #[.int .i64 (-1)] 3)).alloc (.cells (madeCells #[(.slice none 0 0:Value)] n) 30)).drew):=(((zI _ w).alloc (zB _) _).alloc (by simp) _).drew
 have hG:Gv (((w.alloc (.cells #[.int .i64 (-1)] 3)).alloc (.cells (madeCells #[(.slice none 0 0:Value)] n) 30)).drew) w.heap.size (w.heap.size+1) n (fun _=>.slice none 0 0) fun _=>[]:=by
  have h:=Gv.start (w.alloc (.cells #[.int .i64 (-1)] 3)) (B:=w.heap.size) (by simp) n 30;rw[zV]at h;exact h.drew
 refine(E6 n _ _ hn (hL.c0) hL.lt).mono ?_;rintro e w3 ⟨⟨rfl,d⟩,hb⟩;exact⟨⟨_,rfl,hG.below hb,RoI.of_row d,fun e=>by have:=hG.lt;omega,hB.size⟩,hB.trans (hb.mono hB.size)⟩
theorem YT(n:Nat)(w:World)(hn:n<=1000):Calls prog 73 #[.slice (some ⟨w.heap.size,0,none⟩) 1 1,.int .i64 (n:Int)] ((w.alloc (.cells #[.int .i64 (-1)] 3)).drew) (fun e w'=>(∃b,e=.returned (.slice (some ⟨b,0,none⟩) n n)/\RoI w' b n (fun _=>-1)/\w.heap.size<=b)/\Below w.heap.size w w'):=by
 have hL:Bk ((w.alloc (.cells #[.int .i64 (-1)] 3)).drew) (w.heap.size) 3 [.int .i64 (-1)]:=by
  exact(Bk.new w 3 [.int .i64 (-1)]).below (zI _ _).drew
 have hB:Below w.heap.size w ((w.alloc (.cells #[.int .i64 (-1)] 3)).drew):=((zI _ w).alloc (zB _) _).drew;refine(E6 n _ _ hn (hL.c0) hL.lt).mono ?_;rintro e w3 ⟨⟨rfl,d⟩,hb⟩;exact⟨⟨_,rfl,RoI.of_row d,hB.size⟩,hB.trans (hb.mono hB.size)⟩
theorem bg7{c0 c1 c2 c3 c4 c5 c7 c8 ae af ag ah ai aj ak al am an ao ap aq ar au av aw ax ay az aA aB aC aD aE aF aG aH aI aJ aK aL aM aN aO aP aQ aR aS aT aU aV aW aX aY aZ a0 a1 a2 a3 a4 a5 a6 a7 a8 ba bb bc a9 bd be bf bg bh bi bj:Value}{Q:Exit->Act->World->Prop}(n:Nat)(w:World)(hn:n<=1000)
 (h:∀(u28 u29 u30 u31 u32 u33 u34:Value)(xb R b:Nat)(W:World)(_:Hid (SeIn W xb R b w.heap.size n (fun _=>.slice none 0 0) (fun _=>[]) fun _=>-1))(_:Hid (Below w.heap.size w W))(_:w.heap.size<=xb),Q .normal ⟨#[c0,c1,c2,c3,c4,c5,.int .i64 (n:Int),c7,c8,.pointer (some ⟨xb,0,none⟩),ae,af,ag,ah,ai,aj,ak,al,am,an,ao,ap,aq,ar,au,av,aw,ax,u28,u29,u30,u31,u32,u33,u34,ay,az,aA,aB,aC,aD,aE,aF,aG,aH,aI,aJ,aK,aL,aM,aN,aO,aP,aQ,aR,aS,aT,aU,aV,aW,aX,aY,aZ,a0,a1,a2,a3,a4,a5,a6,a7,a8,ba,bb,bc],[]⟩ (W)):
 Code.wp prog (bgR 7) Q ⟨#[c0,c1,c2,c3,c4,c5,.int .i64 (n:Int),c7,c8,a9,ae,af,ag,ah,ai,aj,ak,al,am,an,ao,ap,aq,ar,au,av,aw,ax,bd,be,bf,bg,bh,bi,bj,ay,az,aA,aB,aC,aD,aE,aF,aG,aH,aI,aJ,aK,aL,aM,aN,aO,aP,aQ,aR,aS,aT,aU,aV,aW,aX,aY,aZ,a0,a1,a2,a3,a4,a5,a6,a7,a8,ba,bb,bc],[]⟩ w:=by
 conv=>arg 2;whnf
 conv=>arg 4;zeta
 replace h:=zh h;have bk:=vE (P:=prog) 91 30 (.slice none 0 0) 24 underlying91 Xy rfl .i64 .i64 n (by omega) (by omega);have k1:=zh (YR n w hn);have k2:=zh (YS n w hn);have k3:=zh (YT n w hn);refine xR ?_;refine xG (S:=fun _=>True) (by kernel_rfl) trivial (fun _=>?_);refine xZ (i:=0) (oi:=_) (v:=?_) rfl (by kernel_rfl) (by kernel_rfl) (by kernel_rfl) (fun _ _ _ h=>h) (Or.inl ⟨by rfl,?_⟩) trivial ?_;rotate_left
 . (intro w d;go_simp<;>with_reducible rfl)
 try simp only[Act.put,zA]
 refine xZ (i:=3) (oi:=_) (v:=?_) rfl (by kernel_rfl) (by kernel_rfl) (by kernel_rfl) (fun _ _ _ h=>h) (Or.inl ⟨by rfl,?_⟩) trivial ?_;rotate_left
 . (intro w d;go_simp<;>with_reducible rfl)
 try simp only[Act.put]
 refine zT (rs:=[1,2]) (by kernel_rfl) (by simp) ?_;refine zK (o:=_) rfl (fun K hK=>?_) ?_
 .go_simp;refine hK.o _ _ trivial (fun _=>?_);clear hK K
  try simp only[Act.put,zA,zD,zC]
  refine zT (rs:=[2]) (by kernel_rfl) (by simp) ?_;refine zK (o:=_) rfl (fun K hK=>?_) ?_
  .go_simp;refine hK.o _ _ trivial (fun _=>?_);clear hK K
   try simp only[Act.put,zA,zD,zC]
   refine zT (rs:=[4]) (by kernel_rfl) (by simp) ?_;refine zK (o:=_) rfl (fun K hK=>?_) ?_
   .go_simp;go_at_call 73;refine k1.o.mono ?_;rintro _ w3 ⟨⟨b,rfl,hG,hr,ad,aa⟩,hb⟩
    go_wp2_with fail
    refine hK.o _ _ trivial (fun _=>?_);clear hK K
    try simp only[Act.put,zA,zD,zC]
    refine xZ (i:=5) (oi:=_) (v:=?_) rfl (by kernel_rfl) (by kernel_rfl) (by kernel_rfl) (fun _ _ _ h=>h) (Or.inl ⟨by rfl,?_⟩) trivial ?_;rotate_left
    . (intro w d;go_simp<;>with_reducible rfl)
    try simp only[Act.put,zA]
    refine zT (rs:=[6]) (by kernel_rfl) (by simp) ?_;refine zK (o:=_) rfl (fun K hK=>?_) ?_
    .go_simp;refine hK.o _ _ trivial (fun _=>?_);clear hK K
     try simp only[Act.put,zA,zD,zC]
     refine xZ (i:=7) (oi:=_) (v:=?_) rfl (by kernel_rfl) (by kernel_rfl) (by kernel_rfl) (fun _ _ _ h=>h) (Or.inl ⟨by rfl,?_⟩) trivial ?_;rotate_left
     . (intro w d;go_simp<;>with_reducible rfl)
     try simp only[Act.put,zA]
     refine xJ (by kernel_rfl) ?_ _;refine yx ?_;exact h.o _ _ _ _ _ _ _ _ (w.heap.size) b _ (SeIn.build hG hr ad aa) (hb.alloc hb.size _) hb.size
    exact zR
   exact zR
  exact zR
 refine zK (o:=_) rfl (fun K hK=>?_) ?_
 .go_simp;refine hK.o _ _ trivial (fun _=>?_);clear hK K
  try simp only[Act.put,zA,zD,zC]
  refine zT (rs:=[1,4]) (by kernel_rfl) (by simp) ?_;refine zK (o:=_) rfl (fun K hK=>?_) ?_
  .go_simp;refine hK.o _ _ trivial (fun _=>?_);clear hK K
   try simp only[Act.put,zA,zD,zC]
   refine zT (rs:=[4]) (by kernel_rfl) (by simp) ?_;refine zK (o:=_) rfl (fun K hK=>?_) ?_
   .go_simp;go_at_call 73;refine k2.o.mono ?_;rintro _ w3 ⟨⟨b,rfl,hG,hr,ad,aa⟩,hb⟩
    go_wp2_with fail
    refine hK.o _ _ trivial (fun _=>?_);clear hK K
    try simp only[Act.put,zA,zD,zC]
    refine xZ (i:=5) (oi:=_) (v:=?_) rfl (by kernel_rfl) (by kernel_rfl) (by kernel_rfl) (fun _ _ _ h=>h) (Or.inl ⟨by rfl,?_⟩) trivial ?_;rotate_left
    . (intro w d;go_simp<;>with_reducible rfl)
    try simp only[Act.put,zA]
    refine zT (rs:=[6]) (by kernel_rfl) (by simp) ?_;refine zK (o:=_) rfl (fun K hK=>?_) ?_
    .go_simp;refine hK.o _ _ trivial (fun _=>?_);clear hK K
     try simp only[Act.put,zA,zD,zC]
     refine xZ (i:=7) (oi:=_) (v:=?_) rfl (by kernel_rfl) (by kernel_rfl) (by kernel_rfl) (fun _ _ _ h=>h) (Or.inl ⟨by rfl,?_⟩) trivial ?_;rotate_left
     . (intro w d;go_simp<;>with_reducible rfl)
     try simp only[Act.put,zA]
     refine xJ (by kernel_rfl) ?_ _;refine yx ?_;exact h.o _ _ _ _ _ _ _ _ (w.heap.size+1) b _ (SeIn.build hG hr ad aa) (hb.alloc hb.size _) hb.size
    exact zR
   exact zR
  refine zK (o:=_) rfl (fun K hK=>?_) ?_
  .go_simp;go_at_call 73;refine k3.o.mono ?_;rintro _ w3 ⟨⟨b,rfl,hr,aa⟩,hb⟩
   go_wp2_with fail
   refine hK.o _ _ trivial (fun _=>?_);clear hK K
   try simp only[Act.put,zA,zD,zC]
   refine zT (rs:=[1]) (by kernel_rfl) (by simp) ?_;refine zK (o:=_) rfl (fun K hK=>?_) ?_
   .go_simp;refine hK.o _ _ trivial (fun _=>?_);clear hK K
    try simp only[Act.put,zA,zD,zC]
    have hq:=SeIn.build (Gv.start w3 hb.size n 30) (hr.alloc (.cells (madeCells #[(.slice none 0 0:Value)] n) 30)) (fun e=>by have:=hr.lt;omega) aa;rw[zV]at hq;refine xZ (i:=5) (oi:=_) (v:=?_) rfl (by kernel_rfl) (by kernel_rfl) (by kernel_rfl) (fun _ _ _ h=>h) (Or.inl ⟨by rfl,?_⟩) trivial ?_;rotate_left
    . (intro w d;go_simp<;>with_reducible rfl)
    try simp only[Act.put,zA]
    refine zT (rs:=[6]) (by kernel_rfl) (by simp) ?_;refine zK (o:=_) rfl (fun K hK=>?_) ?_
    .go_simp;refine hK.o _ _ trivial (fun _=>?_);clear hK K
     try simp only[Act.put,zA,zD,zC]
     refine xZ (i:=7) (oi:=_) (v:=?_) rfl (by kernel_rfl) (by kernel_rfl) (by kernel_rfl) (fun _ _ _ h=>h) (Or.inl ⟨by rfl,?_⟩) trivial ?_;rotate_left
     . (intro w d;go_simp<;>with_reducible rfl)
     try simp only[Act.put,zA]
     refine xJ (by kernel_rfl) ?_ _;refine yx ?_;exact h.o _ _ _ _ _ _ _ _ (w3.heap.size) b _ (hq) ((hb.alloc hb.size _).alloc (zQ hb.size (by simp)) _) (zQ hb.size (by simp))
    exact zR
   exact zR
  exact zR
 exact zR
def Se(s:SR)(base:Nat)(w:World)(xb b:Nat)(o:Nat->Int):Prop :=
 ∃R B v,base<=B/\base<=xb/\SeIn w xb R b B s.ps.length v (row s.vot) o
theorem Se.below{s:SR}{base xb b:Nat}{o:Nat->Int}{w w':World}(h:Se s base w xb b o)(hb:Below w.heap.size w w'):Se s base w' xb b o:=by
 obtain⟨R,B,v,h1,h2,h3⟩:=h;exact⟨R,B,v,h1,h2,h3.below hb⟩
def KZ(s:SR)(F:List Int)(w:World)(e:Ending)(w':World):Prop :=
 (if Ak s=true/\AZ s.ps.length F=true then ∃xb b,e=.returned (.tuple #[.pointer (some ⟨xb,0,none⟩),.int .i64 0])/\Se s w.heap.size w' xb b (fun x=>if x∈toN F then 0 else -1)
   else e=.returned (.tuple #[.pointer none,.int .i64 1]))/\Below w.heap.size w w'
theorem Uj{l:List Lk}{k co:Nat}(h:k<l.length)(d:l[k].1=(co:Int))(p:Nat):IP (row (l.take k)) co l[k] p=row (l.take (k+1)) p:=by
 unfold IP row;rw[zP h,yQ]
 by_cases e:p=co
 .rw[zF e,zk,zF (by rw[e,d];simp)];rfl
 rw[zE e,zk,zE (by rw[d];simp;omega)];simp
theorem VW(l:List Lk)(k p:Nat):(row (l.take k) p).length<=l.length:=by
 unfold row;have h1:=zy (fun x:Lk=>decide (x.1=(p:Int))) (l.take k);have h2:(l.take k).length<=l.length:=vO _ _;omega
theorem GX{s:SR}(h:Ak s=true):∀x,x∈s.vot->(0<=x.1/\x.1<s.ps.length)/\(0<=x.2.1/\x.2.1<s.ps.length)/\unitsN (lkP x)≠0:=by
 unfold Ak at h;simp only[zr,yC]at h;intro x hx;obtain⟨i,hi,rfl⟩:=zi hx;obtain⟨⟨a1,a2,_,a4⟩,_,_⟩:=DH h.2.2.2 hi;exact⟨a1,a2,a4⟩
theorem QY(s:SR)(Ap Ac Av Af:Option Addr)(cp cc cv cf:Nat)(F:List Int)(w:World)(hE:Env w)(hs:StIn w s Ap Ac Av)(aR:s.cap.length<=300)(a2:s.vot.length<=300)(hF:InInt w Af F)(aL:F.length<=140737488355328):
 Calls prog 40 #[.agg #[.slice Ap s.ps.length cp,.slice Ac s.cap.length cc,.slice Av s.vot.length cv],.slice Af F.length cf] w (KZ s F w):=by
 have aj:Hid (Bk (w.alloc (.cells #[.slice Ap s.ps.length cp,.slice Ac s.cap.length cc,.slice Av s.vot.length cv] 32)) w.heap.size 32 (SC s Ap Ac Av cp cc cv)):=Bk.new w _ _;have ag:Hid (Below w.heap.size w (w.alloc (.cells #[.slice Ap s.ps.length cp,.slice Ac s.cap.length cc,.slice Av s.vot.length cv] 32))):=(zI _ w).alloc (zB _) _;have u0:=aj.o.c0;have u1:=aj.o.c1;have u2:=aj.o.c2;have u9:=aj.o.lt;have ks:=Dk s Ap Ac Av cp cc cv _ (hE.below ag.o) (hs.below ag.o);replace hE:=zh hE;replace hs:=zh hs;replace hF:=zh hF;have a1:=hs.o.np
 cases d:Ak s with
 |false=>
  rw[d]at ks;replace ks:=zh ks;have hP:Hid (∀e W,e=.returned (.tuple #[.pointer none,.int .i64 1])->Below w.heap.size w W->KZ s F w e W):=fun e W h1 h2=>⟨by rw[zE (by rw[d];simp)];exact h1,h2⟩;clear d;go_enter func40,ntmps40
  go_wp2_with fail
  refine ks.o.q fun w2 hb=>?_;have aa:=ag.t hb;clear hb;go_wp2;go_ret2;exact hP.o _ _ rfl aa.o
 |true=>
  rw[d]at ks;replace ks:=zh ks;have aY:=KY d;have aW:=zh (GX d);go_enter func40,ntmps40
  go_wp2_with fail
  refine ks.o.q fun w2 hb=>?_;have aa:=ag.t hb;have ah:=zh (aj.o.below hb);clear hb u0 u1 u2 u9 aj ag ks;have u0:=ah.o.c0;have u1:=ah.o.c1;have u2:=ah.o.c2;have u9:=ah.o.lt;have kr:=Fs s Ap Ac Av Af cp cc cv cf F w2 (hE.o.below aa.o) (hs.o.below aa.o) aR (hF.o.below aa.o) aL
  by_cases hls:AZ s.ps.length F=true
  .have ak:Hid (Calls prog 35 #[.agg #[.slice Ap s.ps.length cp,.slice Ac s.cap.length cc,.slice Av s.vot.length cv],.slice Af F.length cf] w2 fun e w'=>(∃v,e=.returned (.tuple #[.slice v s.ps.length s.ps.length,.int .i64 0]))/\Below w2.heap.size w2 w'):=kr.mono fun e w' h=>⟨by have h1:=h.1;rw[zF ⟨d,hls⟩]at h1;obtain⟨b,e1,_⟩:=h1;exact⟨_,e1⟩,h.2⟩;clear kr;have hP:Hid (∀e W,(∃xb b,e=.returned (.tuple #[.pointer (some ⟨xb,0,none⟩),.int .i64 0])/\Se s w.heap.size W xb b (fun x=>if x∈toN F then 0 else -1))->Below w.heap.size w W->KZ s F w e W):=fun e W h1 h2=>⟨by rw[zF ⟨d,hls⟩];exact h1,h2⟩
   have aS:Hid (∀i (h:i<F.length),∃f:Nat,F[i]=(f:Int)/\f<s.ps.length/\(toN F)[i]? = some f):=fun i h=>by
    obtain⟨f,h1,h2,h3⟩:=Ob hls h;exact⟨f,h1,by omega,h3⟩
   have aH:Hid ((toN F).length=F.length):=by unfold Hid toN;rw[zW]
   replace hls:=zh hls;replace d:=zh d
   go_wp2_with fail
   refine ak.o.mono ?_;rintro e w3 ⟨⟨rk,rfl⟩,hb⟩;have ai:=aa.t hb;have aA:=zh (ah.o.below hb);clear hb u0 u1 u2 u9 ah aa ak
   go_wp2_with fail
   refine bg7 s.ps.length w3 (by omega) ?_;intro _ _ _ _ _ _ _ xb R b w4 aw aq am;have ar:=zh (ai.o.trans (aq.o.mono ai.o.size));have ao:=zh (aA.o.below aq.o);have u2:=ao.o.c2;have u9:=ao.o.lt;have ae:Hid (w.heap.size<=w3.heap.size):=ai.o.size;clear aq aA ai;have aX:Hid (w.heap.size<=xb):=zQ ae.o am;have ax:Hid (∃v,SeIn w4 xb R b w3.heap.size s.ps.length v (row (s.vot.take 0)) (fun _=>-1)/\∀i,i<s.ps.length->(v i).ownBlock≠some xb):=⟨_,aw.o,fun i _ h=>(by cases h)⟩;have aV:Hid (∀k (h:k<s.vot.length) (co:Nat),s.vot[k].1=(co:Int)->IP (row (s.vot.take k)) co s.vot[k]=row (s.vot.take (k+1))):=fun k h co e=>funext fun p=>Uj h e p;have aT:=zh (fun k p=>VW s.vot k p);clear aw am
   go_wp2_with fail
   go_loopw [38] (fun ix wr=>∃(k:Nat),k<=s.vot.length/\ix=.int .i64 (k:Int)/\Hid (Below w.heap.size w wr)/\Hid (∃v,SeIn wr xb R b w3.heap.size s.ps.length v (row (s.vot.take k)) (fun _=>-1)/\∀i,i<s.ps.length->(v i).ownBlock≠some xb)) (fun ix _=>s.vot.length-(intOf ix).toNat)
   case atStart=>exact⟨0,zS _,rfl,ar,ax⟩
   case round=>
    obtain⟨k,hk,rfl,hB,hS⟩:=hrel;clear ar ax u2 u9 ao
    by_cases hlt:k<s.vot.length
    .obtain ⟨vb,off,rfl,aZ,aB⟩:=(hs.o.below hB.o).vot (by omega);obtain⟨e1,e2,e3,e4,e5⟩:=aB k hlt;have aG:=aW.o s.vot[k] (zO hlt);have aI:=zh (aV.o k hlt);obtain⟨x,hx⟩:∃x,x=s.vot[k]:=⟨_,rfl⟩;rw[<-hx]at e1 e2 e3 e4 e5 aG aI;replace hx:=zh hx;obtain⟨coI,ho,gg,nn,dd⟩:=x;obtain⟨⟨i1,i2⟩,_,_⟩:=aG;replace i1:0<=coI:=i1;replace i2:coI<s.ps.length:=i2;obtain⟨co,rfl⟩:∃c:Nat,coI=(c:Int):=⟨coI.toNat,by omega⟩;replace e1:wr.cell? ⟨vb,off+k*5,none⟩=some (.int .i64 (co:Int)):=e1;replace e2:wr.cell? ⟨vb,off+k*5+1,none⟩=some (.int .i64 ho):=e2;replace e3:wr.cell? ⟨vb,off+k*5+2,none⟩=some (.bool gg):=e3;replace e4:wr.cell? ⟨vb,off+k*5+3,none⟩=some (.string nn):=e4;replace e5:wr.cell? ⟨vb,off+k*5+4,none⟩=some (.string dd):=e5;have aU:=zh (aI.o co rfl);have j0:(0:Int)<=(k:Int):=by omega
     have j1:(k:Int)<(s.vot.length:Int):=by omega
     obtain⟨v,ad,ap⟩:=hS.o;have al:Hid (Bk (wr.alloc (.cells #[.int .i64 (co:Int),.int .i64 ho,.bool gg,.string nn,.string dd] 106)) wr.heap.size 106 [.int .i64 (co:Int),.int .i64 ho,.bool gg,.string nn,.string dd]):=Bk.new wr _ _;have au:=zh (hB.o.alloc hB.o.size (.cells #[.int .i64 (co:Int),.int .i64 ho,.bool gg,.string nn,.string dd] 106));have az:=zh (ad.below ((zI _ wr).alloc (zB _) (.cells #[.int .i64 (co:Int),.int .i64 ho,.bool gg,.string nn,.string dd] 106)))
     have aQ:Hid (∀i,i<s.ps.length->(v i).ownBlock≠some wr.heap.size):=fun i hi e=>by
      have:=((ad.g.rows i hi).lt _ e).2;omega
     have aN:Hid (xb≠R):=ad.nxR
     have aM:Hid (wr.heap.size≠R):=fun e=>by
      have:=ad.g.lt;omega
     replace ap:=zh ap;clear ad aB
     go_wp2_with fail
     refine YQ xb R b wr.heap.size w3.heap.size w.heap.size s.ps.length co ho gg nn dd v (row (s.vot.take k)) (fun _=>-1) _ w (by omega) (by omega) (by have:=aT.o k co;omega) az.o al.o aN.o aM.o ap.o aQ.o ae.o au.o ?_;intro _ _ _ _ _ _ _ _ _ _ _ _ _ _ _ _ _ _ w6 ay aJ;rw[aU.o]at ay;clear e1 e2 e3 e4 e5 al au az;go_wp2
     go_roundw
     case rel=>exact⟨k+1,by omega,by go_num,aJ,ay⟩
     case measure=>simp[intOf];omega
    obtain rfl:k=s.vot.length:=by omega
    obtain⟨v,ad,_⟩:=hS.o;rw[zu]at ad;have av:Hid (SeIn wr xb R b w3.heap.size s.ps.length v (row s.vot) (ini (toN F) 0)):=ad.congr fun x _=>by simp[ini]
    clear hS ad
    go_wp2_with fail
    go_loopw [63] (fun ix wz=>∃(j:Nat),j<=F.length/\ix=.int .i64 (j:Int)/\Hid (Below w.heap.size w wz)/\Hid (SeIn wz xb R b w3.heap.size s.ps.length v (row s.vot) (ini (toN F) j))) (fun ix _=>F.length-(intOf ix).toNat)
    case atStart=>exact⟨0,zS _,rfl,hB,av⟩
    case round=>
     obtain⟨j,hj,rfl,an,af⟩:=hrel;obtain⟨wz,rfl⟩:∃z,z=wr:=⟨_,rfl⟩;clear hB av
     by_cases hjl:j<F.length
     .obtain⟨fb,fo,rfl,a0,aF⟩:=hF.o.below an.o (by omega);obtain⟨f,aC,aD,aE⟩:=aS.o j hjl;have e1:=aF j hjl;rw[aC]at e1;have j0:(0:Int)<=(j:Int):=by omega
      have j1:(j:Int)<(F.length:Int):=by omega
      have f0:(0:Int)<=(f:Int):=by omega
      have f1:(f:Int)<(s.ps.length:Int):=by omega
      have x0:=af.o.x.c1;have x9:=af.o.x.lt;have r0:=af.o.r.cell f aD;have r1:=af.o.r.fr f;have r9:=af.o.r.lt;have al:Hid (w.heap.size<=b):=zQ ae.o af.o.lb;have aP:Hid (SeIn (wz.setCell ⟨b,f,none⟩ (.int .i64 0)) xb R b w3.heap.size s.ps.length v (row s.vot) (ini (toN F) (j+1))):=(af.o.set aD 0).congr fun x _=>Mn aE x;have aK:Hid (Below w.heap.size w (wz.setCell ⟨b,f,none⟩ (.int .i64 0))):=an.o.setCell (p:=⟨b,f,none⟩) al.o _;clear aC aE aF;go_wp2
      go_roundw
      case rel=>exact⟨j+1,by omega,by go_num,aK,aP⟩
      case measure=>simp[intOf];omega
     obtain rfl:j=F.length:=by omega
     have aO:Hid (Se s w.heap.size wz xb b (fun x=>if x∈toN F then 0 else -1)):=⟨R,w3.heap.size,v,ae.o,aX.o,af.o.congr fun x _=>by rw[<-aH.o];exact Pe _ x⟩;go_wp2;go_ret2;exact hP.o _ _ ⟨xb,b,rfl,aO.o⟩ an.o
  have ak:Hid (Calls prog 35 #[.agg #[.slice Ap s.ps.length cp,.slice Ac s.cap.length cc,.slice Av s.vot.length cv],.slice Af F.length cf] w2 fun e w'=>e=.returned (.tuple #[.slice none 0 0,.int .i64 1])/\Below w2.heap.size w2 w'):=kr.mono fun e w' h=>⟨by have h1:=h.1;rwa [zE fun c=>hls c.2]at h1,h.2⟩;clear kr;have hP:Hid (∀e W,e=.returned (.tuple #[.pointer none,.int .i64 1])->Below w.heap.size w W->KZ s F w e W):=fun e W h1 h2=>⟨by rw[zE fun c=>hls c.2];exact h1,h2⟩;replace hls:=zh hls;replace d:=zh d
  go_wp2_with fail
  refine ak.o.q fun w3 hb=>?_;have ai:=aa.t hb;clear hb u0 u1 u2 u9 ah aa ak;go_wp2;go_ret2;exact hP.o _ _ rfl ai.o
def QB(W:World)(sb:Nat)(q:Rat):Prop:=∃g n d,(.agg #[.bool g,.string n,.string d]:Value)=qv q/\Bk W sb 48 [.bool g,.string n,.string d]
theorem QB.below{W W':World}{sb:Nat}{q:Rat}(h:QB W sb q)(hb:Below W.heap.size W W'):QB W' sb q:=by
 obtain⟨g,n,d,e,h⟩:=h;exact⟨g,n,d,e,h.below hb⟩
def Yt(n:Nat)(l:List Lk):Prop:=∀x,x∈l->(0<=x.2.1/\x.2.1<n)/\unitsN (lkP x)≠0
theorem VX:(.agg #[.bool false,.string ⟨#[49]⟩,.string ⟨#[50]⟩]:Value)=qv (uq 3000):=by kernel_rfl
theorem VY:(.agg #[.bool false,.string ⟨#[48]⟩,.string ⟨#[49]⟩]:Value)=qv (uq 0):=by kernel_rfl
theorem La(xb R B n p:Nat)(v:Nat->Value)(rows:Nat->List Lk)(S:Nat->Bool)(w:World)(hE:Env w)(hG:Gv w B R n v rows)(hp:p<n)(_hn:n<=1000)(hl:(rows p).length<=1000000)(aj:Yt n (rows p))
 (HC:∀W,Below w.heap.size w W->∀q:Int,0<=q->q<n->Calls prog 88 #[.pointer (some ⟨xb,0,none⟩),.int .i64 q] W fun e w'=>e=.returned (.bool (S q.toNat))/\Below W.heap.size W w'):
 Calls prog 89 #[.slice (some ⟨R,0,none⟩) n n,.int .i64 (p:Int),.func (.func 88) #[.pointer (some ⟨xb,0,none⟩)] #[]] w fun e w'=>e=.returned (.bool (decide (3000<Cw S (rows p))))/\Below w.heap.size w w':=by
 have u0:=hG.hd p hp;have u9:=hG.lt;obtain⟨A,cap,hv,hA⟩:=Po (hG.rows p hp);rw[hv]at u0;clear hv;have j0:(0:Int)<=(p:Int):=by omega
 have j1:(p:Int)<(n:Int):=by omega
 have ar:Hid (Bk (w.alloc (.cells #[.bool false,.string ⟨#[48]⟩,.string ⟨#[49]⟩] 48)) w.heap.size 48 [.bool false,.string ⟨#[48]⟩,.string ⟨#[49]⟩]):=Bk.new w _ _;have ak:Hid (Below w.heap.size w (w.alloc (.cells #[.bool false,.string ⟨#[48]⟩,.string ⟨#[49]⟩] 48))):=(zI _ w).alloc (zB _) _;have am:Hid (QB (w.alloc (.cells #[.bool false,.string ⟨#[48]⟩,.string ⟨#[49]⟩] 48)) w.heap.size (uq (Cw S ((rows p).take 0)))):=⟨_,_,_,VY,ar.o⟩;clear ar;replace hE:=zh hE;replace hA:=zh hA;replace aj:=zh aj;replace HC:=zh HC;replace hG:=zh hG;have ay:=zh (fun l=>VU S l);go_enter func89,ntmps89;go_wp2;clear u0 u9
 go_loopw [18] (fun ix wr=>∃(k:Nat),k<=(rows p).length/\ix=.int .i64 (k:Int)/\Hid (Below w.heap.size w wr)/\Hid (QB wr w.heap.size (uq (Cw S ((rows p).take k))))) (fun ix _=>(rows p).length-(intOf ix).toNat)
 case atStart=>exact⟨0,zS _,rfl,ak,am⟩
 case round=>
  obtain⟨k,hk,rfl,hB,hQ⟩:=hrel;clear ak am;have au:Hid (Cw S ((rows p).take k)<9223372036854775807):=by have h1:=ay.o ((rows p).take k);have h2:=List.length_take_le k (rows p);show _<_;omega
  by_cases hlt:k<(rows p).length
  .obtain ⟨b,off,rfl,aC,ao⟩:=(hA.o.below hB.o) (by omega);obtain⟨e1,e2,e3,e4,e5⟩:=ao k hlt;have ap:=aj.o (rows p)[k] (zO hlt);have aa:Hid (Cw S ((rows p).take (k+1))=Cw S ((rows p).take k)+if S (rows p)[k].2.1.toNat=true then unitsN (lkP (rows p)[k]) else 0):=QX S hlt;obtain⟨x,hx⟩:∃x,x=(rows p)[k]:=⟨_,rfl⟩;rw[<-hx]at e1 e2 e3 e4 e5 ap aa;obtain⟨co,ho,gg,nn,dd⟩:=x;obtain⟨⟨i1,i2⟩,i3⟩:=ap;replace i1:0<=ho:=i1;replace i2:ho<n:=i2;have aA:Hid ((.agg #[.bool gg,.string nn,.string dd]:Value)=qv (uq (unitsN (gg,nn,dd)))):=Xw i3;replace aa:Hid (Cw S ((rows p).take (k+1))=Cw S ((rows p).take k)+if S ho.toNat=true then unitsN (gg,nn,dd) else 0):=aa;clear i3;replace e1:wr.cell? ⟨b,off+k*5,none⟩=some (.int .i64 co):=e1;replace e2:wr.cell? ⟨b,off+k*5+1,none⟩=some (.int .i64 ho):=e2;replace e3:wr.cell? ⟨b,off+k*5+2,none⟩=some (.bool gg):=e3;replace e4:wr.cell? ⟨b,off+k*5+3,none⟩=some (.string nn):=e4;replace e5:wr.cell? ⟨b,off+k*5+4,none⟩=some (.string dd):=e5;replace hx:=zh hx;have k0:(0:Int)<=(k:Int):=by omega
   have k1:(k:Int)<((rows p).length:Int):=by omega
   have aB:Hid (Bk (wr.alloc (.cells #[.int .i64 co,.int .i64 ho,.bool gg,.string nn,.string dd] 106)) wr.heap.size 106 [.int .i64 co,.int .i64 ho,.bool gg,.string nn,.string dd]):=Bk.new wr _ _;have ae:=zh (hB.o.alloc hB.o.size (.cells #[.int .i64 co,.int .i64 ho,.bool gg,.string nn,.string dd] 106));have al:Hid (Below wr.heap.size wr (wr.alloc (.cells #[.int .i64 co,.int .i64 ho,.bool gg,.string nn,.string dd] 106))):=(zI _ wr).alloc (zB _) _;have kc:=HC.o _ ae.o ho i1 i2;clear ao
   cases an:S ho.toNat with
   |false=>
    rw[an]at kc aa;replace kc:=zh kc;have af:Hid (Cw S ((rows p).take (k+1))=Cw S ((rows p).take k)):=aa.o
    go_wp2_with fail
    refine kc.o.q fun w2 hb=>?_;have ad:=ae.t hb;have aw:Hid (QB w2 w.heap.size (uq (Cw S ((rows p).take (k+1))))):=by rw[af.o];exact(hQ.o.below al.o).below hb
    clear hb e1 e2 e3 e4 e5;go_wp2
    go_roundw
    case rel=>exact⟨k+1,by omega,by go_num,ad,aw⟩
    case measure=>simp[intOf];omega
   |true=>
    rw[an]at kc aa;replace kc:=zh kc;have af:Hid (Cw S ((rows p).take (k+1))=Cw S ((rows p).take k)+unitsN (gg,nn,dd)):=aa.o;have az:Hid (unitsN (gg,nn,dd)<9223372036854775807):=zn (Iq _) (by decide)
    go_wp2_with fail
    refine kc.o.q fun w2 hb=>?_;have ad:=ae.t hb;obtain⟨g1,n1,d1,ag,d⟩:=(hQ.o.below al.o).below hb;replace d:=zh d;have ah:=zh (aB.o.below hb)
    have kA:Hid (Calls prog 52 #[.agg #[.bool g1,.string n1,.string d1],.agg #[.bool gg,.string nn,.string dd]] w2 fun e w'=>(∃g2 n2 d2,e=.returned (.tuple #[.agg #[.bool g2,.string n2,.string d2],.int .i64 0])/\(.agg #[.bool g2,.string n2,.string d2]:Value)=qv (uq (Cw S ((rows p).take (k+1)))))/\Below w2.heap.size w2 w'):=by
     rw[ag,aA.o,af.o];refine(GE (uq (Cw S ((rows p).take k))) (uq (unitsN (gg,nn,dd))) (EX au.o) (EX az.o) w2 (hE.o.below ad.o)).q fun w' hb=>?_;rw[Xv];exact⟨⟨_,_,_,rfl,rfl⟩,hb⟩
    clear hb e1 e2 e3 e4 e5 ag;have s0:=d.o.c0;have s1:=d.o.c1;have s2:=d.o.c2;have s9:=d.o.lt;have y2:=ah.o.c2;have y3:=ah.o.c3;have y4:=ah.o.c4;have y9:=ah.o.lt
    go_wp2_with fail
    refine kA.o.mono ?_;rintro e w3 ⟨⟨g2,n2,d2,rfl,aq⟩,hb⟩;have ai:=ad.t hb;have h:=zh (d.o.below hb);clear hb s0 s1 s2 s9 y2 y3 y4 y9;have s0:=h.o.c0;have s1:=h.o.c1;have s2:=h.o.c2;have f0:=h.o.frozen 0;have f1:=h.o.frozen 1;have f2:=h.o.frozen 2;have s9:=h.o.lt;have av:Hid (Below w.heap.size w (((w3.setCell ⟨w.heap.size,0,none⟩ (.bool g2)).setCell ⟨w.heap.size,1,none⟩ (.string n2)).setCell ⟨w.heap.size,2,none⟩ (.string d2))):=((ai.o.setCell (p:=⟨w.heap.size,0,none⟩) (zB _) _).setCell (p:=⟨w.heap.size,1,none⟩) (zB _) _).setCell (p:=⟨w.heap.size,2,none⟩) (zB _) _;have ax:Hid (QB (((w3.setCell ⟨w.heap.size,0,none⟩ (.bool g2)).setCell ⟨w.heap.size,1,none⟩ (.string n2)).setCell ⟨w.heap.size,2,none⟩ (.string d2)) w.heap.size (uq (Cw S ((rows p).take (k+1))))):=⟨g2,n2,d2,aq,((h.o.set 0 (.bool g2)).set 1 (.string n2)).set 2 (.string d2)⟩;clear aq;go_wp2
    go_roundw
    case rel=>exact⟨k+1,by omega,by go_num,av,ax⟩
    case measure=>simp[intOf];omega
  obtain rfl:k=(rows p).length:=by omega
  obtain⟨g1,n1,d1,ag,d⟩:=hQ.o;replace d:=zh d
  have kC:Hid (Calls prog 55 #[.agg #[.bool g1,.string n1,.string d1],.agg #[.bool false,.string ⟨#[49]⟩,.string ⟨#[50]⟩]] wr fun e w'=>(∃c:Int,e=.returned (.tuple #[.int .i64 c,.int .i64 0])/\decide (0<c)=decide (3000<Cw S (rows p)))/\Below wr.heap.size wr w'):=by
   rw[ag,VX,zu];refine(CI _ _ (EX (by have:=au.o;rwa [zu]at this)) (EX (by decide)) wr (hE.o.below hB.o)).q fun w' hb=>?_;exact⟨⟨_,rfl,Ui _⟩,hb⟩
  clear ag;have s0:=d.o.c0;have s1:=d.o.c1;have s2:=d.o.c2;have s9:=d.o.lt
  go_wp2_with fail
  refine kC.o.mono ?_;rintro e w3 ⟨⟨c,rfl,hc⟩,hb⟩;have ai:=hB.t hb;replace hc:=zh hc;clear hb s0 s1 s2 s9;go_wp2;go_ret;exact⟨Ad hc.o,ai.o⟩
section
variable {V:List (Nat×Nat×Nat)} {L:List Nat} {n p q k j m:Nat}
noncomputable def cut(V:List (Nat×Nat×Nat))(L:List Nat)(k p:Nat):Int:=if inR V L k p=true then rd V L p else -1
theorem Uk:cut V L 0 p=if p∈L then 0 else -1:=by
 unfold cut
 by_cases h:p∈L
 .rw[zF h,zF (show inR V L 0 p=true from zG h)];exact VR.2 h
 rw[zE h,zE (show ¬inR V L 0 p=true by simpa [inR] using h)]
theorem VZ:0<=cut V L k p<->inR V L k p=true:=by
 unfold cut
 by_cases h:inR V L k p=true
 .rw[zF h];have:=(Cd.1 h).1;exact⟨fun _=>h,fun _=>this⟩
 rw[zE h];exact⟨fun c=>by omega,fun c=>absurd c h⟩
theorem W8:(fun q=>decide (0<=cut V L k q))=inR V L k:=by
 funext q
 rw[xp,ye];exact VZ
theorem Yu(h0:inR V L k p=false):rd V L p=((k+1:Nat):Int)<->maj V (inR V L k) p=true:=by
 constructor
 .exact VS
 intro h;have h1:inR V L (k+1) p=true:=by rw[En,h,Bool.or_true]
 have h2:=Cd.1 h1;have h3:¬(0<=rd V L p/\rd V L p<=k):=fun c=>by rw[Cd.2 c]at h0;cases h0
 omega
theorem Yv(h0:inR V L k p=true):rd V L p≠((k+1:Nat):Int):=by
 have:=(Cd.1 h0).2;omega
theorem Ul:cut V L (k+1) p=if rd V L p=((k+1:Nat):Int) then ((k+1:Nat):Int) else cut V L k p:=by
 by_cases h:rd V L p=((k+1:Nat):Int)
 .rw[zF h];unfold cut;rw[zF (Cd.2 (by omega)),h]
 rw[zE h];unfold cut
 by_cases h1:inR V L k p=true
 .rw[zF h1,zF (Ow h1 (by omega))]
 rw[zE h1,zE];intro c;have h2:=Cd.1 c;have h3:¬(0<=rd V L p/\rd V L p<=k):=fun c=>h1 (Cd.2 c);omega
noncomputable def nx(V:List (Nat×Nat×Nat))(L:List Nat)(k m:Nat):List Nat:=(List.range m).filter fun q=>decide (rd V L q=((k+1:Nat):Int))
theorem Xz(h:rd V L m=((k+1:Nat):Int)):nx V L k (m+1)=nx V L k m++[m]:=by
 unfold nx;rw[xo,yQ,zk,zF (zG h)];rfl
theorem W9(h:rd V L m≠((k+1:Nat):Int)):nx V L k (m+1)=nx V L k m:=by
 unfold nx;rw[xo,yQ,zk,zE (by simpa using h)];simp
theorem IQ:q∈nx V L k m<->q<m/\rd V L q=((k+1:Nat):Int):=by
 unfold nx;rw[List.mem_filter,List.mem_range,ye]
theorem X0:(nx V L k m).length<=m:=by
 have:=zy (fun q=>decide (rd V L q=((k+1:Nat):Int))) (List.range m);rw[yh]at this;exact this
theorem X1(hV:VIn n V)(h:nx V L k n=[])(hp:p<n):cut V L k p=rd V L p:=by
 have h1:∀p,p<n->inR V L (k+1) p=true->inR V L k p=true:=fun p hp hh=>by
  have h2:=Cd.1 hh
  by_cases c:rd V L p=((k+1:Nat):Int)
  .have:p∈nx V L k n:=IQ.2 ⟨hp,c⟩;rw[h]at this
   cases this
  exact Cd.2 (by omega)
 have h3:=Pq hV h1 hp;have h4:=W6 (V:=V) (F:=L) (p:=p);unfold cut
 by_cases c:inR V L k p=true
 .rw[zF c]
 rw[zE c];have h5:¬(0<=rd V L p/\rd V L p<=k):=fun d=>c (Cd.2 d);omega
theorem Yw(hV:VIn n V)(h:nx V L k n≠[]):k+1<=n:=by
 obtain⟨q,hq⟩:=List.exists_mem_of_ne_nil _ h;obtain⟨h1,h2⟩:=IQ.1 hq;have:=Yr hV (F:=L) h1;omega
noncomputable def stp(V:List (Nat×Nat×Nat))(L:List Nat)(n k j p:Nat):Int:=if p∈(nx V L k n).take j then ((k+1:Nat):Int) else cut V L k p
theorem Um:stp V L n k 0 p=cut V L k p:=by unfold stp;simp
theorem Un(h:(nx V L k n)[j]? = some q)(x:Nat):Er (stp V L n k j) q ((k+1:Nat):Int) x=stp V L n k (j+1) x:=by
 unfold Er stp;obtain⟨hk,rfl⟩:=List.getElem?_eq_some_iff.1 h
 have hm:x∈(nx V L k n).take (j+1)<->x∈(nx V L k n).take j\/x=(nx V L k n)[j]:=by
  rw[zP hk,yc,xE]
 by_cases e:x=(nx V L k n)[j]
 .rw[zF e,zF (hm.2 (.inr e))]
 rw[zE e]
 by_cases e2:x∈(nx V L k n).take j
 .rw[zF e2,zF (hm.2 (.inl e2))]
 rw[zE e2,zE fun c=>(hm.1 c).elim e2 e]
theorem Wa(hp:p<n):stp V L n k (nx V L k n).length p=cut V L (k+1) p:=by
 unfold stp;rw[zu,Ul]
 by_cases h:rd V L p=((k+1:Nat):Int)
 .rw[zF h,zF (IQ.2 ⟨hp,h⟩)]
 rw[zE h,zE fun c=>h (IQ.1 c).2]
theorem X2{s:SR}(h:∀x,x∈s.vot->(0<=x.1/\x.1<s.ps.length)/\(0<=x.2.1/\x.2.1<s.ps.length)/\unitsN (lkP x)≠0):VIn s.ps.length (VT s):=by
 intro y hy;obtain⟨x,hx,rfl⟩:=List.mem_map.1 (show y∈s.vot.map vt from hy);obtain⟨h1,h2,_⟩:=h x hx;exact⟨by show x.1.toNat<_;omega,by show x.2.1.toNat<_;omega⟩
end
end Co
end
section
open Go.RowKit Go.Shelf
namespace Co
open Nt Ci
theorem Uo{s:SR}(h:∀x,x∈s.vot->(0<=x.1/\x.1<s.ps.length)/\(0<=x.2.1/\x.2.1<s.ps.length)/\unitsN (lkP x)≠0)(p:Nat):Yt s.ps.length (row s.vot p):=fun x hx=>by
 have:=h x (List.mem_filter.1 hx).1;exact⟨this.2.1,this.2.2⟩
theorem Up(l:List Lk)(p:Nat):(row l p).length<=l.length:=zy _ _
theorem QZ{s:SR}{xb R b B p:Nat}{v:Nat->Value}{o:Nat->Int}{w:World}(hE:Env w)(hS:SeIn w xb R b B s.ps.length v (row s.vot) o)(hp:p<s.ps.length)(d:Ak s=true)(ad:s.vot.length<=300):
 Calls prog 89 #[.slice (some ⟨R,0,none⟩) s.ps.length s.ps.length,.int .i64 (p:Int),.func (.func 88) #[.pointer (some ⟨xb,0,none⟩)] #[]] w fun e w'=>e=.returned (.bool (maj (VT s) (fun q=>decide (0<=o q)) p))/\Below w.heap.size w w':=by
 have aa:=KY d;have h:=GX d;have hl:=Up s.vot p;rw[VV (fun x hx=>(h x hx).1.1)]
 exact La xb R B s.ps.length p v (row s.vot) (fun q=>decide (0<=o q)) w hE hS.g hp (by omega) (by omega) (Uo h p) fun W hW q h0 h1=>by
  obtain⟨m,rfl⟩:∃m:Nat,q=(m:Int):=⟨q.toNat,by omega⟩;refine(found_any xb R b B s.ps.length m v (row s.vot) o W (hS.below hW) (by omega) (by omega)).mono ?_;rintro e w' ⟨rfl,rfl⟩;exact⟨by simp,zI _ _⟩
theorem Wb(s:SR)(xb b:Nat)(L:List Nat)(w0 w:World)(hE:Env w0)(aj:Below w0.heap.size w0 w)(ai:Ak s=true)(a4:s.vot.length<=300)(aZ:Se s w0.heap.size w xb b (fun x=>if x∈L then 0 else -1)):
 Calls prog 41 #[.pointer (some ⟨xb,0,none⟩)] w fun e w'=>e=.returned (.tuple #[])/\Se s w0.heap.size w' xb b (rd (VT s) L)/\Below w0.heap.size w0 w':=by
 obtain⟨R,B,v,aq,aR,ap⟩:=aZ;have a6:=KY ai;have hV:Hid (VIn s.ps.length (VT s)):=X2 (GX ai);have aH:Hid (SeIn w xb R b B s.ps.length v (row s.vot) (cut (VT s) L 0)):=ap.congr fun x _=>Uk.symm;have a0:Hid (w0.heap.size<=b):=zQ aq ap.lb;have aL:Hid (∀W,SeIn W xb R b B s.ps.length v (row s.vot) (rd (VT s) L)->Se s w0.heap.size W xb b (rd (VT s) L)):=fun W h=>⟨R,B,v,aq,aR,h⟩
 have kmaj:Hid (∀k W p,p<s.ps.length->Below w0.heap.size w0 W->SeIn W xb R b B s.ps.length v (row s.vot) (cut (VT s) L k)->Calls prog 89 #[.slice (some ⟨R,0,none⟩) s.ps.length s.ps.length,.int .i64 (p:Int),.func (.func 88) #[.pointer (some ⟨xb,0,none⟩)] #[]] W fun e w'=>e=.returned (.bool (maj (VT s) (inR (VT s) L k) p))/\Below W.heap.size W w'):=fun k W p hp hW hS=>by
  have h:=QZ (hE.below hW) hS hp ai a4;rw[W8]at h;exact h
 have kfound:Hid (∀k W p,p<s.ps.length->SeIn W xb R b B s.ps.length v (row s.vot) (cut (VT s) L k)->Calls prog 88 #[.pointer (some ⟨xb,0,none⟩),.int .i64 (p:Int)] W fun e w'=>e=.returned (.bool (inR (VT s) L k p))/\w'=W):=fun k W p hp hS=>by
  have h:=found_any xb R b B s.ps.length p v (row s.vot) _ W hS hp (by omega);have e:decide (0<=cut (VT s) L k p)=inR (VT s) L k p:=congrFun W8 p;rw[e]at h;exact h
 obtain⟨i0,au,aS⟩:=Option.map_eq_some_iff.1 Tw;simp only[Prod.mk.injEq]at aS;obtain⟨aA,aB,aC⟩:=aS;replace au:=zh au;replace aA:=zh aA;replace aB:=zh aB;replace aC:=zh aC;replace aj:=zh aj;replace ai:=zh ai;clear ap hE aq aR;go_enter func41,ntmps41;go_wp2
 go_loopw [2] (fun kv wr=>∃(k:Nat),k<=s.ps.length/\kv=.int .i64 ((k:Int)+1)/\Hid (Below w0.heap.size w0 wr)/\Hid (SeIn wr xb R b B s.ps.length v (row s.vot) (cut (VT s) L k))) (fun kv _=>s.ps.length+2-(intOf kv).toNat)
 case atStart=>exact⟨0,zS _,by go_num,aj,aH⟩
 case round=>
  obtain⟨k,hk,rfl,aD,ak⟩:=hrel;obtain⟨wo,rfl⟩:∃z,z=wr:=⟨_,rfl⟩;clear aj aH;have x0:=ak.o.x.c1;have x9:=ak.o.x.lt;go_wp2;clear x0 x9;have aG:Hid (wo.ownsRow wo.heap.size 3 1 (.slice none 0 0) 0 (Bv (nx (VT s) L k 0))):=yf _ _ _ _
  go_loopw [3,14] (fun nv ix wz=>∃(i m c:Nat)(A:Option Addr),i<=s.ps.length/\m=(nx (VT s) L k i).length/\nv=.slice A m c/\ix=.int .i64 (i:Int)/\Hid (Kp [] wo wz)/\Hid (wz.ownsRow wo.heap.size 3 1 (.slice A m c) m (Bv (nx (VT s) L k i)))) (fun _ ix _=>s.ps.length-(intOf ix).toNat)
  case atStart=>exact⟨0,0,0,none,zS _,rfl,rfl,rfl,Kp.refl _ _,aG⟩
  case round=>
   obtain⟨i,m,c,A,hi,hm,rfl,rfl,hK,hO⟩:=hrel;obtain⟨wz,rfl⟩:∃z,z=wr:=⟨_,rfl⟩;clear aG;have am:Hid (Below w0.heap.size w0 wz):=aD.o.trans ((hK.o.to_below (zI _ wo) fun x hx=>by simp at hx).mono aD.o.size);have ae:Hid (SeIn wz xb R b B s.ps.length v (row s.vot) (cut (VT s) L k)):=ak.o.below (hK.o.to_below (zI _ wo) fun x hx=>by simp at hx);have a9:m<=i:=by rw[hm];exact X0
   replace hm:=zh hm
   by_cases hin:i<s.ps.length
   .have j0:(0:Int)<=(i:Int):=by omega
    have j1:(i:Int)<(s.ps.length:Int):=by omega
    have kf:=kfound.o k wz i hin ae.o
    cases hc:inR (VT s) L k i with
    |true=>
     rw[hc]at kf;replace kf:=zh kf;have d:Hid (nx (VT s) L k (i+1)=nx (VT s) L k i):=W9 (Yv hc);have ag:Hid (m=(nx (VT s) L k (i+1)).length):=by rw[d.o];exact hm.o
     have ao:Hid (wz.ownsRow wo.heap.size 3 1 (.slice A m c) m (Bv (nx (VT s) L k (i+1)))):=by rw[d.o];exact hO.o
     clear hc
     go_wp2_with fail
     refine kf.o.mono ?_;rintro e wq ⟨rfl,rfl⟩;go_wp2;exact⟨⟨i+1,m,c,A,by omega,ag.o,rfl,by go_num,hK,ao⟩,by simp only[intOf];omega⟩
    |false=>
     rw[hc]at kf;replace kf:=zh kf;have km:=kmaj.o k wz i hin am.o ae.o;have x0:=ae.o.x.c0;have x9:=ae.o.x.lt;have al:=Yu hc;clear hc
     cases ad:maj (VT s) (inR (VT s) L k) i with
     |false=>
      rw[ad]at km;replace km:=zh km;have d:Hid (nx (VT s) L k (i+1)=nx (VT s) L k i):=W9 fun h=>by rw[al.1 h]at ad;cases ad
      have ag:Hid (m=(nx (VT s) L k (i+1)).length):=by rw[d.o];exact hm.o
      clear al ad
      go_wp2_with fail
      refine kf.o.mono ?_;rintro e wq ⟨rfl,rfl⟩
      go_wp2_with fail
      refine km.o.q fun wq hb=>?_;have ao:Hid (wq.ownsRow wo.heap.size 3 1 (.slice A m c) m (Bv (nx (VT s) L k (i+1)))):=by rw[d.o];exact AC hO.o hb
      have aV:=zh (hK.o.below hb);clear hb x0 x9;go_wp2;exact⟨⟨i+1,m,c,A,by omega,ag.o,rfl,by go_num,aV,ao⟩,by simp only[intOf];omega⟩
     |true=>
      rw[ad]at km;replace km:=zh km;have d:Hid (nx (VT s) L k (i+1)=nx (VT s) L k i++[i]):=Xz (al.2 ad);have ag:Hid (m+1=(nx (VT s) L k (i+1)).length):=by show m+1=_;rw[d.o,zX,wQ,<-hm.o]
      clear al ad
      go_wp2_with fail
      refine kf.o.mono ?_;rintro e wq ⟨rfl,rfl⟩
      go_wp2_with fail
      refine km.o.q fun wq hb=>?_;have aX:=zh (AC hO.o hb);have aU:=zh (hK.o.below hb);clear hb x0 x9;have aY:=zh (AC aX.o ((zI _ wq).alloc (zB _) (.cells #[.int .i64 (i:Int)] 3)));have aF:=zh (aU.o.alloc (.cells #[.int .i64 (i:Int)] 3));have aK:Hid (wo.heap.size<=(wq.alloc (.cells #[.int .i64 (i:Int)] 3)).heap.size):=aF.o.size;have aJ:Hid (∀j u,[(Value.int .i64 (i:Int))][j]? = some u->(wq.alloc (.cells #[.int .i64 (i:Int)] 3)).cell? (Addr.add ⟨wq.heap.size,0,none⟩ j)=some u):=Ci.BO wq _ _;have aQ:Hid (Bv (nx (VT s) L k i)++[.int .i64 (i:Int)]=Bv (nx (VT s) L k (i+1))):=by rw[d.o];exact(E4 _ _).symm
      have ay:Hid (∀b,(Value.slice A m c).ownBlock=some b->b∈([]:List Nat)\/wo.heap.size<=b):=fun b e=>.inr (hO.o.lt b e).1
      go_wp2_with (at_builtin;refine Ci.wpList_append_new _ rfl _ _ 37 rfl wo.heap.size 3 i0 (.int .i64 0) 1 8 underlying37 au.o aA.o aB.o aC.o rfl (by decide) (.slice A m c) m _ rfl aY.o ⟨wq.heap.size,0,none⟩ 1 1 [.int .i64 (i:Int)] rfl rfl aJ.o (Ci.AQ _ rfl) (by decide) (by unfold maxLen;omega) (by omega) aK.o ?_;intro ba bb ah aM a3;obtain⟨A7,c7,rfl⟩:=Ci.Dy ah;rw[aQ.o]at ah;have a1:=zh (aF.o.grown aM ay.o);replace ah:=zh ah;clear aM a3)
      exact⟨⟨i+1,m+1,c7,A7,by omega,ag.o,rfl,by go_num,a1,ah⟩,by simp only[intOf];omega⟩
   obtain rfl:i=s.ps.length:=by omega
   clear kfound kmaj
   by_cases hnil:nx (VT s) L k s.ps.length=[]
   .obtain rfl:m=0:=by rw[hm.o,hnil];rfl
    have af:Hid (Se s w0.heap.size wz xb b (rd (VT s) L)):=aL.o _ (ae.o.congr fun x hx=>X1 hV.o hnil hx);clear hnil hm hO;go_wp2;refine zo (results_none rfl _ _ _) rfl ?_;exact⟨rfl,af.o,am.o⟩
   have a2:=Yw hV.o hnil;have a8:0<m:=by rw[hm.o];exact List.length_pos_iff.2 hnil
   have t1:((m:Int)==0)=false:=by rw[zN];omega
   have t2:(m==0)=false:=by rw[zN];omega
   have aw:=hO.o;rw[hm.o]at aw
   rcases D3 aw with⟨_,h0⟩|⟨g,cap,hA,a7,aO,_,ar⟩
   .exact absurd h0 hnil
   rw[<-hm.o]at hA;simp only[Value.slice.injEq]at hA;obtain⟨rfl,_,rfl⟩:=hA;have aN:Hid (g≠b):=fun e=>by have:=ak.o.r.lt;omega
   replace ar:=zh ar;replace hnil:=zh hnil;clear aw hO;have aI:Hid (SeIn wz xb R b B s.ps.length v (row s.vot) (stp (VT s) L s.ps.length k 0)):=ae.o.congr fun x _=>Um.symm;go_wp2
   go_loopw [41] (fun jx wy=>∃(j:Nat),j<=m/\jx=.int .i64 (j:Int)/\Hid (Kp [b] wz wy)/\Hid (Below w0.heap.size w0 wy)/\Hid (SeIn wy xb R b B s.ps.length v (row s.vot) (stp (VT s) L s.ps.length k j))) (fun jx _=>m-(intOf jx).toNat)
   case atStart=>exact⟨0,zS _,rfl,Kp.refl _ _,am,aI⟩
   case round=>
    obtain⟨j,hj,rfl,an,aE,aa⟩:=hrel;obtain⟨wy,rfl⟩:∃z,z=wr:=⟨_,rfl⟩;clear aI
    by_cases hjl:j<m
    .have av:j<(nx (VT s) L k s.ps.length).length:=by rw[<-hm.o];exact hjl
     have hq:=IQ.1 (zO av);have e1:wy.cell? ⟨g,j,none⟩=some (.int .i64 ((nx (VT s) L k s.ps.length)[j]:Int)):=(zU (a:=⟨g,j,none⟩) (an.o.block g aO (by simpa using aN.o))).trans (ar.o j av);have a5:g<wy.heap.size:=zJ aO an.o.size;have az:Hid (∀x,Er (stp (VT s) L s.ps.length k j) (nx (VT s) L k s.ps.length)[j] ((k+1:Nat):Int) x=stp (VT s) L s.ps.length k (j+1) x):=fun x=>Un (ze av) x;obtain⟨q,ax⟩:∃q,q=(nx (VT s) L k s.ps.length)[j]:=⟨_,rfl⟩;rw[<-ax]at hq e1 az;replace ax:=zh ax;have aP:=hq.1;have j0:(0:Int)<=(j:Int):=by omega
     have j1:(j:Int)<(m:Int):=by omega
     have q0:(0:Int)<=(q:Int):=by omega
     have q1:(q:Int)<(s.ps.length:Int):=by omega
     have x0:=aa.o.x.c1;have x9:=aa.o.x.lt;have r0:=aa.o.r.cell q aP;have r1:=aa.o.r.fr q;have r9:=aa.o.r.lt;have af:Hid (SeIn (wy.setCell ⟨b,q,none⟩ (.int .i64 ((k:Int)+1))) xb R b B s.ps.length v (row s.vot) (stp (VT s) L s.ps.length k (j+1))):=(aa.o.set aP ((k:Int)+1)).congr fun x _=>az.o x;have aT:Hid (Below w0.heap.size w0 (wy.setCell ⟨b,q,none⟩ (.int .i64 ((k:Int)+1)))):=aE.o.setCell (p:=⟨b,q,none⟩) a0.o _;have aW:Hid (Kp [b] wz (wy.setCell ⟨b,q,none⟩ (.int .i64 ((k:Int)+1)))):=an.o.set _ (.inl (by simp));clear az hq;go_wp2;exact⟨⟨j+1,by omega,by go_num,aW,aT,af⟩,by simp only[intOf];omega⟩
    obtain rfl:j=m:=by omega
    have af:Hid (SeIn wy xb R b B s.ps.length v (row s.vot) (cut (VT s) L (k+1))):=aa.o.congr fun x hx=>by rw[hm.o];exact Wa hx
    go_wp2;exact⟨⟨k+1,a2,by go_num,aE,af⟩,by simp only[intOf];omega⟩
def Ox(s:SR)(F:List Int)(w:World)(e:Ending)(w':World):Prop :=
 (if Ak s=true/\AZ s.ps.length F=true then ∃b,e=.returned (.tuple #[.slice (some ⟨b,0,none⟩) s.ps.length s.ps.length,.int .i64 0])/\w.heap.size<=b/\RoI w' b s.ps.length (rd (VT s) (toN F))
   else e=.returned (.tuple #[.slice none 0 0,.int .i64 1]))/\Below w.heap.size w w'
theorem EY(s:SR)(Ap Ac Av Af:Option Addr)(cp cc cv cf:Nat)(F:List Int)(w:World)(hE:Env w)(hs:StIn w s Ap Ac Av)(ao:s.cap.length<=300)(ai:s.vot.length<=300)(hF:InInt w Af F)(al:F.length<=140737488355328):
 Calls prog 13 #[.agg #[.slice Ap s.ps.length cp,.slice Ac s.cap.length cc,.slice Av s.vot.length cv],.slice Af F.length cf] w (Ox s F w):=by
 have af:Hid (Bk (w.alloc (.cells #[.slice Ap s.ps.length cp,.slice Ac s.cap.length cc,.slice Av s.vot.length cv] 32)) w.heap.size 32 (SC s Ap Ac Av cp cc cv)):=Bk.new w _ _;have d:Hid (Below w.heap.size w (w.alloc (.cells #[.slice Ap s.ps.length cp,.slice Ac s.cap.length cc,.slice Av s.vot.length cv] 32))):=(zI _ w).alloc (zB _) _;have u0:=af.o.c0;have u1:=af.o.c1;have u2:=af.o.c2;have u9:=af.o.lt;have kb:=QY s Ap Ac Av Af cp cc cv cf F _ (hE.below d.o) (hs.below d.o) ao ai (hF.below d.o) al
 by_cases hgd:Ak s=true/\AZ s.ps.length F=true
 .have aa:Calls prog 40 #[.agg #[.slice Ap s.ps.length cp,.slice Ac s.cap.length cc,.slice Av s.vot.length cv],.slice Af F.length cf] (w.alloc (.cells #[.slice Ap s.ps.length cp,.slice Ac s.cap.length cc,.slice Av s.vot.length cv] 32)) fun e w'=>(∃xb b,e=.returned (.tuple #[.pointer (some ⟨xb,0,none⟩),.int .i64 0])/\Se s (w.alloc (.cells #[.slice Ap s.ps.length cp,.slice Ac s.cap.length cc,.slice Av s.vot.length cv] 32)).heap.size w' xb b (fun x=>if x∈toN F then 0 else -1))/\Below (w.alloc (.cells #[.slice Ap s.ps.length cp,.slice Ac s.cap.length cc,.slice Av s.vot.length cv] 32)).heap.size (w.alloc (.cells #[.slice Ap s.ps.length cp,.slice Ac s.cap.length cc,.slice Av s.vot.length cv] 32)) w':=kb.mono fun e w' h=>⟨by have h1:=h.1;rw[zF hgd]at h1;exact h1,h.2⟩;clear kb;have hP:Hid (∀e W,(∃b,e=.returned (.tuple #[.slice (some ⟨b,0,none⟩) s.ps.length s.ps.length,.int .i64 0])/\w.heap.size<=b/\RoI W b s.ps.length (rd (VT s) (toN F)))->Below w.heap.size w W->Ox s F w e W):=fun e W h1 h2=>⟨by rw[zF hgd];exact h1,h2⟩;obtain⟨W1,ad⟩:∃W,W=w.alloc (.cells #[.slice Ap s.ps.length cp,.slice Ac s.cap.length cc,.slice Av s.vot.length cv] 32):=⟨_,rfl⟩;have kr:=zh (fun xb b W h1 h2=>Wb s xb b (toN F) W1 W (by rw[ad];exact hE.below d.o) h1 hgd.1 ai h2);rw[<-ad]at aa;replace aa:=zh aa;replace hgd:=zh hgd;go_enter func13,ntmps13
  go_wp2_with fail
  rw[<-ad];rw[<-ad]at d;replace ad:=zh ad;refine aa.o.mono ?_;rintro e w2 ⟨⟨xb,b,rfl,hS⟩,hb⟩;have ag:=zh hb;replace hS:=zh hS;clear hb u0 u1 u2 u9 aa
  go_wp2_with fail
  refine(kr.o xb b w2 ag.o hS.o).mono ?_;rintro e w3 ⟨rfl,⟨R,B,v,h1,h2,ae⟩,ah⟩;have ak:Hid (Below w.heap.size w w3):=d.o.trans (ah.mono d.o.size);have x0:=ae.x.c1;have x9:=ae.x.lt;have am:=zh ae.r;have an:Hid (w.heap.size<=b):=zQ d.o.size (zQ h1 ae.lb);clear hS ag ah ae h1 h2;go_wp2;go_ret2;exact hP.o _ _ ⟨b,rfl,an.o,am.o⟩ ak.o
 have aa:Calls prog 40 #[.agg #[.slice Ap s.ps.length cp,.slice Ac s.cap.length cc,.slice Av s.vot.length cv],.slice Af F.length cf] (w.alloc (.cells #[.slice Ap s.ps.length cp,.slice Ac s.cap.length cc,.slice Av s.vot.length cv] 32)) fun e w'=>e=.returned (.tuple #[.pointer none,.int .i64 1])/\Below (w.alloc (.cells #[.slice Ap s.ps.length cp,.slice Ac s.cap.length cc,.slice Av s.vot.length cv] 32)).heap.size (w.alloc (.cells #[.slice Ap s.ps.length cp,.slice Ac s.cap.length cc,.slice Av s.vot.length cv] 32)) w':=kb.mono fun e w' h=>⟨by have h1:=h.1;rw[zE hgd]at h1;exact h1,h.2⟩;clear kb;have hP:Hid (∀e W,e=.returned (.tuple #[.slice none 0 0,.int .i64 1])->Below w.heap.size w W->Ox s F w e W):=fun e W h1 h2=>⟨by rw[zE hgd];exact h1,h2⟩;replace aa:=zh aa;replace hgd:=zh hgd;go_enter func13,ntmps13
 go_wp2_with fail
 refine aa.o.q fun w2 hb=>?_;have aj:=d.t hb;clear hb u0 u1 u2 u9 aa;go_wp2;go_ret2;exact hP.o _ _ rfl aj.o
end Co
end
section
open Go.RowKit Go.Shelf
namespace Rg
open Nt Ci
theorem Jr(A:Option Addr)(ca:Nat)(l:List Int)(x:Int)(w:World)(hA:InInt w A l)(hl:l.length<=140737488355328):
 Calls prog 53 #[.slice A l.length ca,.int .i64 x] w fun e w'=>e=.returned (.bool (decide (x∈l)))/\w'=w:=by
 have k:=zh (Sh.GQ A ca l x w hA hl)
 have hm:Hid (decide (0<=Sh.Fz l x)=decide (x∈l)):=by
  unfold Sh.Fz
  by_cases h:x∈l
  .rw[zF h,zG h,zG (by omega)];exact rfl
  rw[zE h,zH h];exact rfl
 replace hA:=zh hA;go_enter func53,ntmps53
 go_wp2_with fail
 refine k.o.mono ?_;rintro e w1 ⟨rfl,rfl⟩;clear k;go_wp2;go_ret;exact⟨Ad hm.o,rfl⟩
theorem X3{pc:Int}(h:1<=pc/\pc<=100):ShortQ (ofQ pc 100):=by
 have e:ofQ pc 100=mkRat pc 100:=by
  unfold ofQ;have e:(!(decide (pc<0)==decide ((100:Int)<0)))=false:=by rw[zH (by omega:¬pc<0)];rfl
  rw[e]
  show mkRat (pc.natAbs:Int) 100=mkRat pc 100
  congr 1
  omega
 rw[e];refine⟨?_,?_⟩
 .rw[Rat.num_mkRat,zE (by decide)];exact Co.G1 (zn (Int.natAbs_ediv_le_natAbs _ _) (by omega))
 rw[Rat.den_mkRat,zE (by decide)];exact Co.G1 (zn (wF _ _) (by decide))
theorem WA{c:Bool}{A B:Prop}(h:c=false)(hb:B):if c=true then A else B:=by subst h;exact hb
theorem WB{c:Bool}{A B:Prop}(h:c=true)(ha:A):if c=true then A else B:=by subst h;exact ha
section
variable (day pc p:Int) (pa:ByteArray) (Al Ap Ac Av Aw Ae:Option Addr) (nl np nc nv nw ne cl cp cc cv cw ce:Nat)
abbrev X4:List Value:=[.int .i64 day,.slice Al nl cl,.string pa,.int .i64 pc,.slice Ap np cp,.slice Ac nc cc,.slice Av nv cv,.slice Aw nw cw,.int .i64 p,.slice Ae ne ce]
end
theorem test1(day pc p:Int)(pa:ByteArray)(Al Ap Ac Av Aw Ae:Option Addr)(nl np nc nv ne cl cp cc cv cw ce:Nat)(F:List Int)(w:World)(hF:InInt w Aw F)(hl:F.length<=140737488355328):
 Calls prog 125 #[.agg #[.int .i64 day,.slice Al nl cl,.string pa,.int .i64 pc,.slice Ap np cp,.slice Ac nc cc,.slice Av nv cv,.slice Aw F.length cw,.int .i64 p,.slice Ae ne ce]] w
  fun e w'=>e=.returned (.bool (decide (p∈F)))/\Below w.heap.size w w':=by
 have hX:Hid (Bk (w.alloc (.cells #[.int .i64 day,.slice Al nl cl,.string pa,.int .i64 pc,.slice Ap np cp,.slice Ac nc cc,.slice Av nv cv,.slice Aw F.length cw,.int .i64 p,.slice Ae ne ce] 147)) w.heap.size 147 (X4 day pc p pa Al Ap Ac Av Aw Ae nl np nc nv F.length ne cl cp cc cv cw ce)):=Bk.new w _ _;have hB:Hid (Below w.heap.size w (w.alloc (.cells #[.int .i64 day,.slice Al nl cl,.string pa,.int .i64 pc,.slice Ap np cp,.slice Ac nc cc,.slice Av nv cv,.slice Aw F.length cw,.int .i64 p,.slice Ae ne ce] 147))):=(zI _ w).alloc (zB _) _;have kc:=zh (Jr Aw cw F p _ (hF.below hB.o) hl);have x7:=hX.o.c7;have x8:=hX.o.cell (j:=8) rfl;have x9:=hX.o.lt;replace hF:=zh hF;go_enter func125,ntmps125
 go_wp2_with fail
 refine kc.o.mono ?_;rintro e w1 ⟨rfl,rfl⟩;clear kc;go_wp2;go_ret;exact⟨rfl,hB.o⟩
theorem Yx(day pc:Int)(pa:ByteArray)(Al Ap Ac Av Aw:Option Addr)(nl np nc nv nw cl cp cc cv cw ce eb n k:Nat)(v:Nat->Rat)(w:World)(hE:Env w)(hk:k<n)(_hn:n<=140737488355328)(hR:RowB w eb n fun p=>rq (v p))(hs:ShortQ (v k))(ap:1<=pc/\pc<=100):
 Calls prog 126 #[.agg #[.int .i64 day,.slice Al nl cl,.string pa,.int .i64 pc,.slice Ap np cp,.slice Ac nc cc,.slice Av nv cv,.slice Aw nw cw,.int .i64 (k:Int),.slice (some ⟨eb,0,none⟩) n ce]] w
  fun e w'=>e=.returned (.bool (decide (0<=Is (v k) (ofQ pc 100))))/\Below w.heap.size w w':=by
 have hX:Hid (Bk (w.alloc (.cells #[.int .i64 day,.slice Al nl cl,.string pa,.int .i64 pc,.slice Ap np cp,.slice Ac nc cc,.slice Av nv cv,.slice Aw nw cw,.int .i64 (k:Int),.slice (some ⟨eb,0,none⟩) n ce] 147)) w.heap.size 147 (X4 day pc k pa Al Ap Ac Av Aw (some ⟨eb,0,none⟩) nl np nc nv nw n cl cp cc cv cw ce)):=Bk.new w _ _;have hB:Hid (Below w.heap.size w (w.alloc (.cells #[.int .i64 day,.slice Al nl cl,.string pa,.int .i64 pc,.slice Ap np cp,.slice Ac nc cc,.slice Av nv cv,.slice Aw nw cw,.int .i64 (k:Int),.slice (some ⟨eb,0,none⟩) n ce] 147))):=(zI _ w).alloc (zB _) _;have kr:=zh (Fm pc 100 (by omega) (by omega) (by omega) (by omega) (by omega) _ (hE.below hB.o));have hq:=X3 ap;have kc:=zh (fun W (h:Env W)=>CI (v k) (ofQ pc 100) hs hq W h);obtain⟨g2,n2,d2,ae⟩:∃g n d,qv (ofQ pc 100)=.agg #[.bool g,.string n,.string d]:=⟨_,_,_,rfl⟩;obtain⟨g1,n1,d1,ag,ah⟩:∃g n d,qv (v k)=.agg #[.bool g,.string n,.string d]/\rq (v k)=(g,n,d):=⟨_,_,_,rfl,rfl⟩;rw[ae]at kr;rw[ag,ae]at kc;replace ag:=zh ag;replace ae:=zh ae;replace ah:=zh ah;have x3:=hX.o.c3;have x9:=hX.o.lt;replace hE:=zh hE;replace hR:=zh hR;replace hs:=zh hs;replace hq:=zh hq;go_enter func126,ntmps126
 go_wp2_with fail
 refine kr.o.q fun w1 hb=>?_;clear kr x3 x9;have ao:=zh (hX.o.below hb);have ai:Hid (Below w.heap.size w w1):=hB.o.trans (hb.mono hB.o.size);clear hb hX hB;have aj:Hid (Bk (w1.alloc (.cells #[.bool g2,.string n2,.string d2] 48)) w1.heap.size 48 [.bool g2,.string n2,.string d2]):=Bk.new _ _ _;have al:=zh (ao.o.alloc (.cells #[.bool g2,.string n2,.string d2] 48));have aa:Hid (Below w.heap.size w (w1.alloc (.cells #[.bool g2,.string n2,.string d2] 48))):=ai.o.alloc ai.o.size _
 have HS:Hid (∀W,Below (w1.alloc (.cells #[.bool g2,.string n2,.string d2] 48)).heap.size (w1.alloc (.cells #[.bool g2,.string n2,.string d2] 48)) W->W.cell? ⟨w.heap.size,9,none⟩=some (.slice (some ⟨eb,0,none⟩) n ce)/\W.cell? ⟨w.heap.size,8,none⟩=some (.int .i64 (k:Int))/\w.heap.size<W.heap.size /\
  W.cell? ⟨eb,k*3,none⟩=some (.bool g1)/\W.cell? ⟨eb,k*3+1,none⟩=some (.string n1)/\W.cell? ⟨eb,k*3+2,none⟩=some (.string d1)/\eb<W.heap.size/\W.cell? ⟨w1.heap.size,0,none⟩=some (.bool g2)/\W.cell? ⟨w1.heap.size,1,none⟩=some (.string n2)/\W.cell? ⟨w1.heap.size,2,none⟩=some (.string d2)/\w1.heap.size<W.heap.size/\Env W):=fun W hW=>by
  have af:=al.o.below hW;have ad:=aj.o.below hW;have ak:=(hR.o.below aa.o hR.o.lt).below hW (by have:=hR.o.lt;have:=aa.o.size;omega);obtain⟨c0,c1,c2⟩:=ak.cell hk;rw[ah.o]at c0 c1 c2;exact⟨af.cell (j:=9) rfl,af.cell (j:=8) rfl,af.lt,c0,c1,c2,ak.lt,ad.c0,ad.c1,ad.c2,ad.lt,(hE.o.below aa.o).below hW⟩
 have i0:(0:Int)<=(k:Int):=by omega
 have i1:(k:Int)<(n:Int):=by omega
 go_wp2;generalize (w1.alloc (.cells #[.bool g2,.string n2,.string d2] 48))=wq at HS aj al aa ⊢;refine Sh.AT (by kernel_rfl) (by kernel_rfl) ?_
 repeat (
  with_reducible refine wI (fun K hK=>?_)
  first
   |(refine WA (by rfl) ?_;refine hK _ ?_;clear hK K;(try simp only[Act.put,zA,zD,zC]))
   |(refine WB (by rfl) ?_
     go_simp;apply Exists.intro;refine⟨fun W hW=>?_,hK _ ?_⟩
     first
      |(with_reducible exact Sh.AA hW (kc.o W (HS.o W hW).2.2.2.2.2.2.2.2.2.2.2))
      |(obtain⟨q1,q2,q3,q4,q5,q6,q7,q8,q9,aq,ar,_⟩:=HS.o W hW;go_simp<;>with_reducible rfl)
     clear hK K))
 refine wU ?_;intro wf am;have an:Hid (Below w.heap.size w wf):=aa.o.trans (am.mono aa.o.size);clear am HS;go_wp2;go_ret;exact⟨rfl,an.o⟩
theorem Yy(day pc:Int)(pa:ByteArray)(Al Ap Ac Av Aw Ae:Option Addr)(nl ne cl cp cc cv cw ce k:Nat)(s:SR)(F:List Int)(w:World)(hE:Env w)(hk:k<s.ps.length)(hs:StIn w s Ap Ac Av)(ae:s.cap.length<=300)(ag:s.vot.length<=300)(hF:InInt w Aw F)(ad:F.length<=140737488355328)(af:Ak s=true/\AZ s.ps.length F=true):
 Calls prog 127 #[.agg #[.int .i64 day,.slice Al nl cl,.string pa,.int .i64 pc,.slice Ap s.ps.length cp,.slice Ac s.cap.length cc,.slice Av s.vot.length cv,.slice Aw F.length cw,.int .i64 (k:Int),.slice Ae ne ce]] w
  fun e w'=>e=.returned (.bool (Co.rd (Co.VT s) (toN F) k != -1))/\Below w.heap.size w w':=by
 have hX:Hid (Bk (w.alloc (.cells #[.int .i64 day,.slice Al nl cl,.string pa,.int .i64 pc,.slice Ap s.ps.length cp,.slice Ac s.cap.length cc,.slice Av s.vot.length cv,.slice Aw F.length cw,.int .i64 (k:Int),.slice Ae ne ce] 147)) w.heap.size 147 (X4 day pc k pa Al Ap Ac Av Aw Ae nl s.ps.length s.cap.length s.vot.length F.length ne cl cp cc cv cw ce)):=Bk.new w _ _;have hB:Hid (Below w.heap.size w (w.alloc (.cells #[.int .i64 day,.slice Al nl cl,.string pa,.int .i64 pc,.slice Ap s.ps.length cp,.slice Ac s.cap.length cc,.slice Av s.vot.length cv,.slice Aw F.length cw,.int .i64 (k:Int),.slice Ae ne ce] 147))):=(zI _ w).alloc (zB _) _;have kc:=zh (Co.EY s Ap Ac Av Aw cp cc cv cw F _ (hE.below hB.o) (hs.below hB.o) ae ag (hF.below hB.o) ad);have x4:=hX.o.c4;have x5:=hX.o.c5;have x6:=hX.o.c6;have x7:=hX.o.c7;have x9:=hX.o.lt;replace hE:=zh hE;replace hs:=zh hs;replace hF:=zh hF;go_enter func127,ntmps127
 go_wp2_with fail
 refine kc.o.mono ?_;rintro e w1 h;obtain⟨h1,hb⟩:=h;rw[zF af]at h1;obtain⟨b,rfl,ah,hR⟩:=h1;clear kc x4 x5 x6 x7 x9;have d:=zh (hX.o.below hb);have aa:Hid (Below w.heap.size w w1):=hB.o.trans (hb.mono hB.o.size);have x8:=d.o.cell (j:=8) rfl;have x9:=d.o.lt;have r0:=hR.cell k hk;have r9:=hR.lt;clear hb hX hB;have ai:=hs.o.np;go_wp2;go_ret;exact⟨rfl,aa.o⟩
end Rg
end
section
open Go.RowKit Go.Shelf
namespace Rg
open Nt Ci
theorem YU{u0 u1 u2 u3 u4 u5 u6 u7 u8 u9:Value}{xb:Nat}{b:Bool}{w:World}(hx:Bk w xb 147 [u0,u1,u2,u3,u4,u5,u6,u7,u8,u9])(hk:Calls prog 125 #[.agg #[u0,u1,u2,u3,u4,u5,u6,u7,u8,u9]] w fun e w'=>e=.returned (.bool b)/\Below w.heap.size w w'):
 Calls prog 96 #[.func (.func 125) #[] #[],.pointer (some ⟨xb,0,none⟩)] w fun e w'=>e=.returned (.bool b)/\Below w.heap.size w w':=by
 replace hk:=zh hk;have x0:=hx.c0;have x1:=hx.c1;have x2:=hx.c2;have x3:=hx.c3;have x4:=hx.c4;have x5:=hx.c5;have x6:=hx.c6;have x7:=hx.c7;have x8:=hx.cell (j:=8) rfl;have x9:=hx.cell (j:=9) rfl;have xl:=hx.lt;go_enter func96,ntmps96
 go_wp2_with fail
 refine hk.o.q fun w1 hb=>?_;clear hk;go_wp2;go_ret;exact⟨rfl,hb⟩
theorem YV{u0 u1 u2 u3 u4 u5 u6 u7 u8 u9:Value}{xb:Nat}{b:Bool}{w:World}(hx:Bk w xb 147 [u0,u1,u2,u3,u4,u5,u6,u7,u8,u9])(hk:Calls prog 126 #[.agg #[u0,u1,u2,u3,u4,u5,u6,u7,u8,u9]] w fun e w'=>e=.returned (.bool b)/\Below w.heap.size w w'):
 Calls prog 96 #[.func (.func 126) #[] #[],.pointer (some ⟨xb,0,none⟩)] w fun e w'=>e=.returned (.bool b)/\Below w.heap.size w w':=by
 replace hk:=zh hk;have x0:=hx.c0;have x1:=hx.c1;have x2:=hx.c2;have x3:=hx.c3;have x4:=hx.c4;have x5:=hx.c5;have x6:=hx.c6;have x7:=hx.c7;have x8:=hx.cell (j:=8) rfl;have x9:=hx.cell (j:=9) rfl;have xl:=hx.lt;go_enter func96,ntmps96
 go_wp2_with fail
 refine hk.o.q fun w1 hb=>?_;clear hk;go_wp2;go_ret;exact⟨rfl,hb⟩
theorem YW{u0 u1 u2 u3 u4 u5 u6 u7 u8 u9:Value}{xb:Nat}{b:Bool}{w:World}(hx:Bk w xb 147 [u0,u1,u2,u3,u4,u5,u6,u7,u8,u9])(hk:Calls prog 127 #[.agg #[u0,u1,u2,u3,u4,u5,u6,u7,u8,u9]] w fun e w'=>e=.returned (.bool b)/\Below w.heap.size w w'):
 Calls prog 96 #[.func (.func 127) #[] #[],.pointer (some ⟨xb,0,none⟩)] w fun e w'=>e=.returned (.bool b)/\Below w.heap.size w w':=by
 replace hk:=zh hk;have x0:=hx.c0;have x1:=hx.c1;have x2:=hx.c2;have x3:=hx.c3;have x4:=hx.c4;have x5:=hx.c5;have x6:=hx.c6;have x7:=hx.c7;have x8:=hx.cell (j:=8) rfl;have x9:=hx.cell (j:=9) rfl;have xl:=hx.lt;go_enter func96,ntmps96
 go_wp2_with fail
 refine hk.o.q fun w1 hb=>?_;clear hk;go_wp2;go_ret;exact⟨rfl,hb⟩
def ix3(b1 b2 b3:Bool):Int:=if b1 then 0 else if b2 then 1 else if b3 then 2 else -1
theorem Wc(b1 b2 b3:Bool):decide (0<=ix3 b1 b2 b3)=(b1||b2||b3):=by cases b1<;>cases b2<;>cases b3<;>rfl
theorem X5{u0 u1 u2 u3 u4 u5 u6 u7 u8 u9:Value}{xb fb:Nat}{b1 b2 b3:Bool}{w:World}(hx:Bk w xb 147 [u0,u1,u2,u3,u4,u5,u6,u7,u8,u9])(hf:Bk w fb 151 [.func (.func 125) #[] #[],.func (.func 126) #[] #[],.func (.func 127) #[] #[]])
 (k1:∀W,Below w.heap.size w W->Calls prog 125 #[.agg #[u0,u1,u2,u3,u4,u5,u6,u7,u8,u9]] W fun e w'=>e=.returned (.bool b1)/\Below W.heap.size W w')
 (k2:∀W,Below w.heap.size w W->Calls prog 126 #[.agg #[u0,u1,u2,u3,u4,u5,u6,u7,u8,u9]] W fun e w'=>e=.returned (.bool b2)/\Below W.heap.size W w')
 (k3:∀W,Below w.heap.size w W->Calls prog 127 #[.agg #[u0,u1,u2,u3,u4,u5,u6,u7,u8,u9]] W fun e w'=>e=.returned (.bool b3)/\Below W.heap.size W w'):
 Calls prog 124 #[.slice (some ⟨fb,0,none⟩) 3 3,.func (.func 96) #[] #[.pointer (some ⟨xb,0,none⟩)]] w fun e w'=>e=.returned (.int .i64 (ix3 b1 b2 b3))/\Below w.heap.size w w':=by
 have ad:Hid (Below w.heap.size w w):=zI _ _;have q1:=zh (fun W (h:Below w.heap.size w W)=>YU (hx.below h) (k1 W h));have q2:=zh (fun W (h:Below w.heap.size w W)=>YV (hx.below h) (k2 W h));have q3:=zh (fun W (h:Below w.heap.size w W)=>YW (hx.below h) (k3 W h));clear k1 k2 k3;replace hx:=zh hx;replace hf:=zh hf;go_enter func124,ntmps124;go_wp2;refine wp_loop_rounds 4 ?_;rw[rounds_succ];have f0:=hf.o.c0;have fl:=hf.o.lt
 go_wp2_with fail
 refine(q1.o _ ad.o).q fun w1 hb=>?_;have d:Hid (Below w.heap.size w w1):=ad.o.trans (hb.mono ad.o.size);clear hb f0 fl ad
 cases b1 with
 |true=>
  go_wp2;go_ret;exact⟨rfl,d.o⟩
 |false=>
 have f0:=(hf.o.below d.o).c1;have fl:=(hf.o.below d.o).lt
 go_wp2_with fail
 rw[rounds_succ]
 go_wp2_with fail
 refine(q2.o _ d.o).q fun w2 hb=>?_;have aa:Hid (Below w.heap.size w w2):=d.o.trans (hb.mono d.o.size);clear hb f0 fl d
 cases b2 with
 |true=>
  go_wp2;go_ret;exact⟨rfl,aa.o⟩
 |false=>
 have f0:=(hf.o.below aa.o).c2;have fl:=(hf.o.below aa.o).lt
 go_wp2_with fail
 rw[rounds_succ]
 go_wp2_with fail
 refine(q3.o _ aa.o).q fun w3 hb=>?_;have ae:Hid (Below w.heap.size w w3):=aa.o.trans (hb.mono aa.o.size);clear hb f0 fl aa
 cases b3 with
 |true=>
  go_wp2;go_ret;exact⟨rfl,ae.o⟩
 |false=>
 have f0:=(hf.o.below ae.o).c2;have fl:=(hf.o.below ae.o).lt
 go_wp2_with fail
 rw[rounds_succ];go_wp2;go_ret;exact⟨rfl,ae.o⟩
theorem Ra{u0 u1 u2 u3 u4 u5 u6 u7 u8 u9:Value}{xb fb:Nat}{b1 b2 b3:Bool}{w:World}(hx:Bk w xb 147 [u0,u1,u2,u3,u4,u5,u6,u7,u8,u9])(hf:Bk w fb 151 [.func (.func 125) #[] #[],.func (.func 126) #[] #[],.func (.func 127) #[] #[]])
 (k1:∀W,Below w.heap.size w W->Calls prog 125 #[.agg #[u0,u1,u2,u3,u4,u5,u6,u7,u8,u9]] W fun e w'=>e=.returned (.bool b1)/\Below W.heap.size W w')
 (k2:∀W,Below w.heap.size w W->Calls prog 126 #[.agg #[u0,u1,u2,u3,u4,u5,u6,u7,u8,u9]] W fun e w'=>e=.returned (.bool b2)/\Below W.heap.size W w')
 (k3:∀W,Below w.heap.size w W->Calls prog 127 #[.agg #[u0,u1,u2,u3,u4,u5,u6,u7,u8,u9]] W fun e w'=>e=.returned (.bool b3)/\Below W.heap.size W w'):
 Calls prog 94 #[.slice (some ⟨fb,0,none⟩) 3 3,.func (.func 96) #[] #[.pointer (some ⟨xb,0,none⟩)]] w fun e w'=>e=.returned (.bool (b1||b2||b3))/\Below w.heap.size w w':=by
 have ki:=zh (X5 hx hf k1 k2 k3);have hr:=zh (Wc b1 b2 b3);clear k1 k2 k3 hx hf;go_enter func94,ntmps94
 go_wp2_with fail
 refine ki.o.q fun w1 hb=>?_;clear ki;go_wp2;go_ret;exact⟨Ad hr.o,hb⟩
theorem Rb(w:World):Calls prog 95 #[] w fun e w'=>e=.returned (.slice (some ⟨w.heap.size,0,none⟩) 3 3)/\w'=w.alloc (.cells #[.func (.func 125) #[] #[],.func (.func 126) #[] #[],.func (.func 127) #[] #[]] 151):=by
 go_enter func95,ntmps95;go_wp2;go_ret;exact⟨rfl,rfl⟩
end Rg
end
end Go.Proofs.YtefmpngjjmddjaaGreatDoor

/- Parts of the proof. -/
import Derived.Deep.OwnRows
import Derived.Deep.RegionHeld3
import Derived.Test.YtmfjbpcecpgchaaGreatDoorShelf
import Derived.Lib.SmallJoins
import Derived.Lib.QuietBelow
import Derived.WalkSmall
import Derived.RangeFuncNested
import Derived.RangeFuncBound
import Derived.Shelf.RegionOpen
import Derived.OwnWalkIn
import Derived.LoopNIn
import Derived.LoopIn
import Derived.Maps.AppendAt
import Derived.Laws.AppendOwnNone
set_option maxHeartbeats 2000000
set_option maxRecDepth 100000
open Go.Proofs.Tryz
namespace Go.Proofs.YtmfjbpcecpgchaaGreatDoor
theorem _root_.Go.Calls.q{P f a w V}{R:World->Prop}{Q}(h:Calls P f a w fun e w=>e=V/\R w)(k:∀w,R w->Q V w):Calls P f a w Q:=h.mono fun _ _ ⟨a,b⟩=>a▸k _ b
theorem _root_.Go.CallsIn.q{F n P f a w V}{R:World->Prop}{Q}(h:CallsIn F n P f a w fun e w=>e=V/\R w)(k:∀w,R w->Q V w):CallsIn F n P f a w Q:=h.mono fun _ _ ⟨a,b⟩=>a▸k _ b
theorem _root_.Go.RowKit.Hid.t{a b c:World}(d:Go.RowKit.Hid (Go.RowKit.Below a.heap.size a b))(h:Go.RowKit.Below b.heap.size b c):Go.RowKit.Hid (Go.RowKit.Below a.heap.size a c):=d.out.trans (h.mono d.out.size)
theorem _root_.Go.RowKit.Hid.o{p:Prop}(h:Go.RowKit.Hid p):p:=h
theorem _root_.Go.Shut.o{p:Prop}(h:Go.Shut p):p:=h
abbrev zA:=@List.setIfInBounds_toArray
abbrev zB:=@Nat.le_refl
abbrev zC:=@if_neg
abbrev zD:=@decide_eq_false
abbrev zE:=@if_pos
abbrev zF:=@List.set_cons_succ
abbrev zG:=@List.set_cons_zero
abbrev zH:=@decide_eq_true
abbrev zI:=@Go.RowKit.Below.refl
abbrev zJ:=@beq_eq_false_iff_ne
abbrev zK:=@Go.AllReadyH.cons
abbrev zL:=@Nat.lt_of_lt_of_le
abbrev zM:=@decide_eq_false_iff_not
abbrev zN:=@Go.AllReadyH.nil
abbrev zO:=@Nat.zero_le
abbrev zP:=@Go.wpAnyH_ready
abbrev zQ:=@List.getElem_mem
abbrev zR:=@Go.World.cell?_of_block
abbrev zS:=@List.take_succ_eq_append_getElem
abbrev zT:=@Go.World.size_alloc
abbrev zU:=@List.length_map
abbrev zV:=@Nat.le_trans
abbrev zW:=@Nat.pow_le_pow_right
abbrev zX:=@Go.bodyPost_ret
abbrev zY:=@List.length_append
abbrev zZ:=@Go.World.cell?_setCell_other
abbrev ze:=@Go.RowKit.Below.setCell
abbrev zf:=@of_decide_eq_true
abbrev zg:=@Go.RowKit.Below.heap_setCell
abbrev zi:=@Nat.not_lt_zero
abbrev zj:=@bne_iff_ne
abbrev zk:=@Go.World.cell?_alloc_lt
abbrev zl:=@List.getElem_of_mem
abbrev zm:=@Nat.zero_add
abbrev zn:=@List.length_cons
abbrev zo:=@Go.heap_alloc_new
abbrev zq:=@Go.World.ownsRow_nil
abbrev zr:=@Go.World.cell?_setCell_same
abbrev zt:=@List.mem_cons_of_mem
abbrev zu:=@Go.World.frozen?_of_block
abbrev zw:=@Nat.mul_comm
abbrev zy:=@Nat.pow_succ
abbrev zz:=@Nat.mul_assoc
abbrev yA:=@List.getElem_map
abbrev yB:=@Nat.lt_succ_self
abbrev yC:=@Rat.mul_le_mul_of_nonneg_left
abbrev yD:=@List.length_filter_le
abbrev yE:=@Nat.add_mul
abbrev yF:=@Go.NoPanic.normal
abbrev yG:=@List.mem_cons_self
abbrev yH:=@List.mem_of_mem_take
abbrev yI:=@Bool.and_eq_true
abbrev yJ:=@List.take_length
abbrev yK:=@List.take_of_length_le
abbrev yL:=@beq_iff_eq
abbrev yM:=@Nat.lt_of_le_of_lt
abbrev yN:=@decide_eq_true_eq
abbrev yO:=@Nat.mul_le_mul_right
abbrev yP:=@Go.Lib.toList_data
abbrev yQ:=@Nat.mul_add
abbrev yR:=@List.getElem?_eq_getElem
abbrev yS:=@Go.wp_region_noPanic
abbrev yT:=@Nat.mul_le_mul_left
abbrev yU:=@Go.wp_region_held_drew
abbrev yV:=@List.length_range
abbrev yW:=@List.nil_append
abbrev yX:=@List.map_congr_left
abbrev yY:=@List.length_erase_of_mem
abbrev yZ:=@Go.RowKit.Below.heap_alloc
abbrev ya:=@Int.natCast_mul
abbrev yb:=@Nat.ne_of_lt
abbrev yc:=@List.length_nil
abbrev ye:=@Go.CallsIn.inRound
abbrev yf:=@List.map_append
abbrev yh:=@Int.natCast_add
abbrev yi:=@Go.IntWalk.i64_in
abbrev yj:=@Nat.eq_zero_or_pos
abbrev yl:=@Array.getElem?_modify
abbrev ym:=@Go.wpAnyH_done
abbrev yo:=@bne_eq_false_iff_eq
abbrev yp:=@Go.wpAnyH_take
abbrev yq:=@List.mem_append_left
abbrev yr:=@Go.World.drewN_drewN
abbrev yt:=@List.take_append_drop
abbrev yu:=@Rat.le_of_lt
abbrev yv:=@List.filter_cons
abbrev yw:=@List.length_replicate
abbrev yx:=@List.filter_append
abbrev yy:=@Rat.mul_inv_cancel
abbrev yz:=@List.mem_append
abbrev xA:=@Nat.le_of_lt
abbrev xB:=@List.cons_append
abbrev xC:=@List.map_map
abbrev xD:=@List.not_mem_nil
abbrev xE:=@List.mem_append_right
abbrev xF:=@Bool.true_and
abbrev xG:=@Go.run_make_row'
abbrev xH:=@Nat.add_zero
abbrev xI:=@Rat.natCast_mul
abbrev xJ:=@Nat.mul_ne_zero
abbrev xK:=@List.mem_singleton
abbrev xL:=@Rat.le_refl
abbrev xM:=@Go.Lib.size_eq
abbrev xN:=@Go.World.putObj_heap_other
abbrev xO:=@Nat.mul_lt_mul''
abbrev xP:=@List.mem_cons
abbrev xQ:=@Nat.lt_or_ge
abbrev xR:=@Rat.mul_nonneg
abbrev xS:=@List.append_assoc
abbrev xT:=@Go.wpList_append_own
abbrev xU:=@Nat.lt_succ_of_lt
abbrev xV:=@List.flatten_append
abbrev xW:=@Nat.mod_one
abbrev xX:=@List.range_succ
abbrev xY:=@List.length_take
abbrev xZ:=@Nat.mod_eq_of_lt
abbrev xe:=@List.all_eq_true
abbrev xf:=@Nat.pow_add
abbrev xh:=@Array.replicate_succ
abbrev xi:=@Array.replicate_zero
abbrev xj:=@List.take_zero
abbrev xk:=@Nat.mul_le_mul
abbrev xm:=@Go.World.block_lt_of_cell?
abbrev xp:=@Go.KeepsOthers.setCell
abbrev xq:=@List.append_toArray
abbrev xr:=@Nat.zero_mul
abbrev xt:=@List.length_pos_of_mem
abbrev xu:=@Rat.div_def
abbrev xv:=@Nat.mod_lt
abbrev xw:=@Bool.false_and
abbrev xx:=@Go.wpList_append_fits
abbrev xy:=@Option.isSome_some
abbrev xz:=@List.length_singleton
abbrev wA:=@List.drop_eq_getElem_cons
abbrev wC:=@Go.grownBy_putObj'
abbrev wD:=@Bool.eq_iff_iff
abbrev wE:=@Nat.le_of_eq
abbrev wF:=@List.size_toArray
abbrev wG:=@List.push_toArray
abbrev wH:=@Rat.one_mul
abbrev wJ:=@Nat.ne_of_gt
abbrev wK:=@List.all_eq_false
abbrev wL:=@List.flatten_cons
abbrev wM:=@List.mem_of_mem_drop
abbrev wN:=@Rat.intCast_natCast
abbrev wO:=@decide_eq_true_iff
abbrev wP:=@List.getElem_range
abbrev wQ:=@List.map_singleton
abbrev wR:=@Nat.add_sub_cancel
abbrev wT:=@List.append_nil
abbrev wU:=@Go.Oper.semAt_some
abbrev wV:=@List.foldl_cons
abbrev wW:=@List.map_cons
abbrev wX:=@List.set_append_right
abbrev wY:=@Iff.rfl
abbrev wZ:=@Go.Lib.decDigits_one
abbrev wc:=@Go.Result.andThen_ok
abbrev wh:=@Nat.pow_pos
abbrev wl:=@Nat.mul_pos
abbrev wm:=@List.foldl_nil
abbrev wn:=@Go.run_append_own
abbrev ws:=@Int.natAbs_neg
abbrev wv:=@Go.heap_alloc_old
abbrev ww:=@Array.size_replicate
abbrev vA:=@Go.Lib.byteCells_length
abbrev vB:=@Rat.add_zero
abbrev vC:=@Go.run_takeDeferred
abbrev vD:=@Int.natCast_emod
abbrev vE:=@Int.natCast_ediv
abbrev vF:=@List.map_toArray
abbrev vG:=@Classical.byContradiction
abbrev vH:=@Go.Exit.noGoto_ret
abbrev vI:=@if_true
abbrev vJ:=@Nat.div_le_self
abbrev vK:=@Go.info_parts
abbrev vL:=@Bool.false_eq_true
abbrev vM:=@Nat.lt_of_lt_of_eq
abbrev vN:=@Int.natAbs_natCast
abbrev vO:=@Nat.le_succ
abbrev vP:=@Rat.mul_pos
abbrev vQ:=@Nat.le_mul_of_pos_right
abbrev vR:=@List.getElem?_replicate
abbrev vS:=@or_false
abbrev vT:=@Go.Sem.run_pure
abbrev vU:=@Nat.gcd_comm
abbrev vV:=@Rat.mul_comm
abbrev vW:=@Rat.zero_mul
abbrev vX:=@List.map_nil
abbrev vY:=@List.nodup_nil
abbrev vZ:=@Int.natAbs_mul
abbrev v4:=@Nat.gcd_zero_left
abbrev v5:=@Nat.lt_trichotomy
abbrev v6:=@List.getElem_cons_succ
abbrev vd:=@List.head?_eq_getElem?
abbrev ve:=@Nat.div_eq_of_lt
abbrev vf:=@Rat.mkRat_eq_div
abbrev vi:=@Nat.lt_irrefl
abbrev vj:=@List.mem_map
abbrev vk:=@Nat.mul_zero
abbrev vl:=@Rat.pow_succ
theorem zh{p:Prop}(h:p):Go.RowKit.Hid p:=h
theorem tk{P:Program}{md:Region.Mode}{ops:Array Oper}{Q:Exit->Act->World->Prop}{S:World->Prop}{oi:Oper}{v:Value}{fuel:Nat}{listed:Array Bool}{a:Act}{w:World}(i:Nat)(hS:S w)(hy:YieldsIf P ops S oi v a)(h:wpAnyH P md ops Q S fuel (listed.setIfInBounds i true) (a.put oi.dst v) w)(hi:ops[i]?=some oi:=by exact rfl)(hs:Region.noSelect ops=true:=by kernel_rfl)(hf:Region.free md ops listed i=true:=by kernel_rfl)(hr:(Region.ready md ops listed).contains i=true:=by kernel_rfl)(hQ:∀c a w,Q (.panic c) (a.put oi.dst v) w->Q (.panic c) a w:=by exact fun _ _ _ h=>h):wpAnyH P md ops Q S (fuel+1) listed a w:=yp hi hs hf hr hQ hy hS h
section
namespace Ci
inductive Way(E:List (Nat×Nat)):Nat->Nat->Nat->Prop
 |here (p:Nat):Way E p p 0
 |step {p q r k:Nat} (h:Way E p q k) (e:(q,r)∈E):Way E p r (k+1)
def Reach(E:List (Nat×Nat))(p q:Nat):Prop:=∃k,Way E p q k
def G0(E:List (Nat×Nat))(F:List Nat)(p k:Nat):Prop:=∃f,f∈F/\Way E f p k
def InN(n:Nat)(E:List (Nat×Nat)):Prop:=∀x,x∈E->x.1<n/\x.2<n
section
variable {E:List (Nat×Nat)} {F:List Nat} {n p q r j k:Nat}
theorem Way.trans(h:Way E p q j)(h2:Way E q r k):Way E p r (j+k):=by
 induction h2 with
 |here=>exact h
 |step _ e ih=>exact ih.step e
theorem Way.one(e:(p,q)∈E):Way E p q 1:=(Way.here p).step e
theorem Way.zero(h:Way E p q 0):p=q:=by cases h;rfl
theorem Way.last(h:Way E p r (k+1)):∃q,Way E p q k/\(q,r)∈E:=by
 cases h with
 |step h e=>exact⟨_,h,e⟩
theorem Way.first(h:Way E p r (k+1)):∃q,(p,q)∈E/\Way E q r k:=by
 induction k generalizing r with
 |zero=>
  obtain⟨q,h1,e⟩:=h.last;obtain rfl:=h1.zero;exact⟨r,e,.here r⟩
 |succ k ih=>
  obtain⟨q,h1,e⟩:=h.last;obtain⟨x,e1,h2⟩:=ih h1;exact⟨x,e1,h2.step e⟩
theorem Way.lt(hE:InN n E)(h:Way E p q k)(hp:p<n):q<n:=by
 cases h with
 |here=>exact hp
 |step _ e=>exact(hE _ e).2
theorem Way.mono{E':List (Nat×Nat)}(hs:∀x,x∈E->x∈E')(h:Way E p q k):Way E' p q k:=by
 induction h with
 |here=>exact .here _
 |step _ e ih=>exact ih.step (hs _ e)
theorem Reach.refl(p:Nat):Reach E p p:=⟨0,.here p⟩
theorem Reach.trans(h:Reach E p q)(h2:Reach E q r):Reach E p r:=by
 obtain⟨j,a⟩:=h;obtain⟨k,b⟩:=h2;exact⟨_,a.trans b⟩
theorem Reach.one(e:(p,q)∈E):Reach E p q:=⟨1,.one e⟩
theorem Reach.lt(hE:InN n E)(h:Reach E p q)(hp:p<n):q<n:=by obtain⟨k,a⟩:=h;exact a.lt hE hp
theorem Reach.closed{C:Nat->Prop}(h:Reach E p q)(h0:C p)(hc:∀a b,C a->(a,b)∈E->C b):C q:=by
 obtain⟨k,a⟩:=h
 induction a with
 |here=>exact h0
 |step _ e ih=>exact hc _ _ ih e
theorem Fk:G0 E F p 0<->p∈F:=⟨fun⟨_,h,w⟩=>by rw[<-w.zero];exact h,fun h=>⟨p,h,.here p⟩⟩
theorem Fl:G0 E F p (k+1)<->∃q,G0 E F q k/\(q,p)∈E:=by
 constructor
 .rintro⟨f,h,w⟩;obtain⟨q,a,e⟩:=w.last;exact⟨q,⟨f,h,a⟩,e⟩
 rintro⟨q,⟨f,h,a⟩,e⟩;exact⟨f,h,a.step e⟩
def QS(E:List (Nat×Nat))(F:List Nat)(p:Nat)(r:Int):Prop :=
 (r=-1/\∀k,¬G0 E F p k)\/∃k:Nat,r=(k:Int)/\G0 E F p k/\∀j,j<k->¬G0 E F p j
theorem KE{P:Nat->Prop}:∀k,P k->∃j,j<=k/\P j/\∀i,i<j->¬P i:=by
 intro k
 induction k using Nat.strongRecOn with
 |ind k ih=>
  intro h
  by_cases h2:∃i,i<k/\P i
  .obtain⟨i,hi,hp⟩:=h2;obtain⟨j,h3,h4⟩:=ih i hi hp;exact⟨j,by omega,h4⟩
  exact⟨k,zB _,h,fun i hi hp=>h2 ⟨i,hi,hp⟩⟩
theorem O3(E:List (Nat×Nat))(F:List Nat)(p:Nat):∃r,QS E F p r:=by
 by_cases h:∃k,G0 E F p k
 .obtain⟨k,hk⟩:=h;obtain⟨j,_,h1,h2⟩:=KE k hk;exact⟨j,.inr ⟨j,rfl,h1,h2⟩⟩
 exact⟨-1,.inl ⟨rfl,fun k hk=>h ⟨k,hk⟩⟩⟩
theorem QT{a b:Int}(h:QS E F p a)(h2:QS E F p b):a=b:=by
 rcases h with⟨rfl,h⟩|⟨k,rfl,h,hm⟩
 .rcases h2 with⟨rfl,_⟩|⟨j,rfl,h3,_⟩
  .rfl
  exact absurd h3 (h j)
 rcases h2 with⟨rfl,h3⟩|⟨j,rfl,h3,d⟩
 .exact absurd h (h3 k)
 have h4:¬k<j:=fun c=>d k c h;have h5:¬j<k:=fun c=>hm j c h3;omega
noncomputable def rk(E:List (Nat×Nat))(F:List Nat)(p:Nat):Int:=Classical.choose (O3 E F p)
theorem O4(E:List (Nat×Nat))(F:List Nat)(p:Nat):QS E F p (rk E F p):=Classical.choose_spec (O3 E F p)
theorem We{a:Int}(h:QS E F p a):rk E F p=a:=QT (O4 E F p) h
theorem Wf:-1<=rk E F p:=by
 rcases O4 E F p with⟨h,_⟩|⟨k,h,_⟩<;>omega
theorem QU(h:G0 E F p k):0<=rk E F p/\rk E F p<=k:=by
 rcases O4 E F p with⟨_,h2⟩|⟨j,h1,_,h2⟩
 .exact absurd h (h2 k)
 have:¬k<j:=fun c=>h2 k c h;omega
theorem Ms(h:rk E F p=k):G0 E F p k:=by
 rcases O4 E F p with⟨h1,_⟩|⟨j,h1,h2,_⟩
 .omega
 obtain rfl:j=k:=by omega
 exact h2
theorem Cv:rk E F p=0<->p∈F:=by
 constructor
 .intro h;exact Fk.1 (Ms (k:=0) (by omega))
 intro h;have:=QU (Fk.2 h:G0 E F p 0);omega
theorem JP(h:0<=rk E F q)(e:(q,p)∈E):0<=rk E F p/\rk E F p<=rk E F q+1:=by
 obtain⟨k,hk⟩:∃k:Nat,rk E F q=k:=⟨(rk E F q).toNat,by omega⟩;have:=QU (Fl.2 ⟨q,Ms hk,e⟩:G0 E F p (k+1));omega
theorem FX(h:rk E F p=((k+1:Nat):Int)):∃q,rk E F q=(k:Int)/\(q,p)∈E:=by
 obtain⟨q,h1,e⟩:=Fl.1 (Ms h);have h2:=QU h1;have h3:=JP h2.1 e;exact⟨q,by omega,e⟩
theorem C6:∀(n:Nat)(l:List Nat),l.Nodup->(∀x,x∈l->x<n)->l.length<=n:=by
 intro n
 induction n with
 |zero=>
  intro l _ h
  cases l with
  |nil=>exact zB _
  |cons a l=>exact absurd (h a (yG ..)) (zi _)
 |succ n ih=>
  intro l hd h
  have h1:=ih (l.erase n) (hd.erase n) fun x hx=>by
   have h2:=(hd.mem_erase_iff).1 hx;have:=h x h2.2;omega
  by_cases hm:n∈l
  .rw[yY hm]at h1;omega
  rw[List.erase_of_not_mem hm]at h1;omega
theorem QV:∀(k:Nat)(p:Nat),rk E F p=(k:Int)->∃l:List Nat,l.length=k+1/\l.Nodup/\(∀x,x∈l->∃j:Nat,j<=k/\rk E F x=(j:Int))/\∀x,x∈l->x=p\/∃y,(x,y)∈E:=by
 intro k
 induction k with
 |zero=>exact fun p h=>⟨[p],rfl,by simp,fun x hx=>⟨0,zB _,by rw[List.mem_singleton.1 hx];exact h⟩,fun x hx=>.inl (List.mem_singleton.1 hx)⟩
 |succ k ih=>
  intro p h;obtain⟨q,h1,e⟩:=FX h;obtain⟨l,h2,h3,h4,h5⟩:=ih q h1;refine⟨p::l,by simp[h2],List.nodup_cons.2 ⟨fun hm=>?_,h3⟩,fun x hx=>?_,fun x hx=>?_⟩
  .obtain⟨j,hj,e2⟩:=h4 p hm;omega
  .rcases List.mem_cons.1 hx with rfl|hx
   .exact⟨k+1,zB _,h⟩
   obtain⟨j,hj,e2⟩:=h4 x hx;exact⟨j,by omega,e2⟩
  rcases List.mem_cons.1 hx with rfl|hx
  .exact .inl rfl
  rcases h5 x hx with rfl|h6
  .exact .inr ⟨p,e⟩
  exact .inr h6
theorem Wg(hE:InN n E)(hp:p<n):rk E F p<n:=by
 by_cases h:0<=rk E F p
 .obtain ⟨k,hk⟩:∃k:Nat,rk E F p=k:=⟨(rk E F p).toNat,by omega⟩;obtain⟨l,h1,h2,_,h4⟩:=QV k p hk
  have:=C6 n l h2 fun x hx=>by
   rcases h4 x hx with rfl|⟨y,e⟩
   .exact hp
   exact(hE _ e).1
  omega
 omega
end
end Ci
end
section
namespace Ci
open Classical
def Mut(E:List (Nat×Nat))(p q:Nat):Prop:=Reach E p q/\Reach E q p
section
variable {E:List (Nat×Nat)} {n p q r:Nat} {left:List Nat}
theorem Mut.refl(p:Nat):Mut E p p:=⟨.refl p,.refl p⟩
theorem Mut.symm(h:Mut E p q):Mut E q p:=⟨h.2,h.1⟩
theorem Mut.trans(h:Mut E p q)(h2:Mut E q r):Mut E p r:=⟨h.1.trans h2.1,h2.2.trans h.2⟩
theorem Mt(E:List (Nat×Nat))(p:Nat):∃q,Mut E p q/\∀r,Mut E p r->q<=r:=by
 obtain⟨q,_,h1,h2⟩:=KE (P:=Mut E p) p (.refl p);exact⟨q,h1,fun r hr=>Nat.le_of_not_lt fun c=>h2 r c hr⟩
noncomputable def fst(E:List (Nat×Nat))(p:Nat):Nat:=Classical.choose (Mt E p)
theorem CX:Mut E p (fst E p):=(Classical.choose_spec (Mt E p)).1
theorem H8(h:Mut E p q):fst E p<=q:=(Classical.choose_spec (Mt E p)).2 q h
theorem Ey(h:Mut E p q):fst E p=fst E q:=Nat.le_antisymm (H8 (h.trans CX)) (H8 (h.symm.trans CX))
theorem Fm:fst E p=fst E q<->Mut E p q:=⟨fun h=>(h▸CX (p:=p)).trans CX.symm,Ey⟩
theorem Fn:fst E (fst E p)=fst E p:=(Ey CX).symm
theorem FF(h:p<n):fst E p<n:=yM (H8 (.refl p)) h
noncomputable def CD(n:Nat)(E:List (Nat×Nat))(p:Nat):List Nat:=(List.range n).filter fun q=>decide (Mut E p q)
theorem Db:q∈CD n E p<->q<n/\Mut E p q:=by simp[CD]
theorem Mu:(CD n E p).Nodup:=List.nodup_range.filter _
noncomputable def leasts(n:Nat)(E:List (Nat×Nat)):List Nat:=(List.range n).filter fun p=>decide (fst E p=p)
theorem B8:p∈leasts n E<->p<n/\fst E p=p:=by simp[leasts]
def EL(E:List (Nat×Nat))(left:List Nat)(p:Nat):Prop:=∀h q,Mut E p q->(h,q)∈E->fst E h∈left->fst E h=p
noncomputable def Ez(E:List (Nat×Nat))(left:List Nat):Option Nat:=left.find? fun p=>decide (EL E left p)
noncomputable def ord(E:List (Nat×Nat)):Nat->List Nat->List Nat
 |0,_=>[]
 |k+1,left=>match Ez E left with
  |none=>[]
  |some p=>p::ord E k (left.erase p)
structure Left(n:Nat)(E:List (Nat×Nat))(left:List Nat):Prop where
 own:∀x,x∈left->x<n/\fst E x=x
 up:∀x y,x∈left->Reach E x y->fst E y∈left
 sorted:left.Pairwise (·<·)
theorem Left.start(hE:InN n E):Left n E (leasts n E) :=
 ⟨fun _ h=>B8.1 h,fun _ _ h hr=>B8.2 ⟨FF (hr.lt hE (B8.1 h).1),Fn⟩,List.pairwise_lt_range.filter _⟩
theorem Left.nodup(h:Left n E left):left.Nodup:=h.sorted.imp fun a=>yb a
theorem UM(h:Reach E p q):¬Mut E p q->∃a b,Reach E p a/\(a,b)∈E/\Mut E q b/\¬Mut E q a:=by
 obtain⟨k,w⟩:=h;intro hn
 have key:∀x,(∃j,Way E x q j)->Reach E p x->¬Mut E q x->∃a b,Reach E p a/\(a,b)∈E/\Mut E q b/\¬Mut E q a:=by
  rintro x ⟨j,hw⟩
  induction j generalizing x with
  |zero=>exact fun _ h2=>absurd (by rw[hw.zero];exact .refl q) h2
  |succ j ih=>
   intro hx h2;obtain⟨y,e,d⟩:=hw.first
   by_cases hy:Mut E q y
   .exact⟨x,y,hx,e,hy,h2⟩
   exact ih y d (hx.trans (.one e)) hy
 exact key p ⟨k,w⟩ (.refl p) fun h=>hn h.symm
theorem Left.erase(h:Left n E left)(hp:p∈left)(hf:EL E left p):Left n E (left.erase p):=by
 have hd:=h.nodup;refine⟨fun x hx=>h.own x (List.mem_of_mem_erase hx),fun x y hx hr=>?_,h.sorted.sublist List.erase_sublist⟩;obtain⟨aa,d⟩:=hd.mem_erase_iff.1 hx;refine hd.mem_erase_iff.2 ⟨fun e=>?_,h.up x y d hr⟩;have ab:Mut E p y:=Fm.1 (by rw[(h.own p hp).2,e]);have s:Reach E x p:=hr.trans ab.2;obtain⟨a,b,h1,h2,h3,h4⟩:=UM s fun hm=>aa (by rw[<-(h.own x d).2,Ey hm,(h.own p hp).2]);have h5:=hf a b h3 h2 (h.up x a d h1);exact h4 (Fm.1 (by rw[(h.own p hp).2,h5]))
theorem Fo{f g:Nat->Bool}:∀{l:List Nat},(∀x,x∈l->f x=true->g x=true)->(∃x,x∈l/\f x=false/\g x=true)->(l.filter f).length<(l.filter g).length:=by
 intro l
 induction l with
 |nil=>rintro _ ⟨x,h,_⟩;cases h
 |cons a l ih=>
  intro hs hx
  have s:(l.filter f).length<=(l.filter g).length:=by
   have:∀m:List Nat,(∀x,x∈m->f x=true->g x=true)->(m.filter f).length<=(m.filter g).length:=by
    intro m
    induction m with
    |nil=>intro _;exact zB _
    |cons b m ihm=>
     intro hm;have h1:=ihm fun x h=>hm x (zt _ h);have h2:=hm b (yG ..)
     cases hf:f b<;>cases hg:g b<;>simp[hf,hg]<;>simp_all<;>omega
   exact this l fun x h=>hs x (zt _ h)
  by_cases ha:f a=false/\g a=true
  .simp[ha.1,ha.2];omega
  have d:∃x,x∈l/\f x=false/\g x=true:=by
   obtain⟨x,h1,h2,h3⟩:=hx
   rcases List.mem_cons.1 h1 with rfl|h1
   .exact absurd ⟨h2,h3⟩ ha
   exact⟨x,h1,h2,h3⟩
  have h1:=ih (fun x h=>hs x (zt _ h)) d;have h2:=hs a (yG ..)
  cases hf:f a<;>cases hg:g a<;>simp[hf,hg]<;>simp_all
theorem QW(f:Nat->Nat):∀l:List Nat,l≠[]->∃x,x∈l/\∀y,y∈l->f x<=f y:=by
 intro l
 induction l with
 |nil=>intro h;exact absurd rfl h
 |cons a l ih=>
  intro _
  by_cases h:l=[]
  .exact⟨a,yG ..,fun y hy=>by rw[h]at hy;rw[List.mem_singleton.1 hy];exact zB _⟩
  obtain⟨x,h1,h2⟩:=ih h
  by_cases hc:f a<=f x
  .exact ⟨a,yG ..,fun y hy=>by
    rcases List.mem_cons.1 hy with rfl|hy
    .exact zB _
    exact zV hc (h2 y hy)⟩
  exact ⟨x,zt _ h1,fun y hy=>by
   rcases List.mem_cons.1 hy with rfl|hy
   .omega
   exact h2 y hy⟩
theorem Left.free(h:Left n E left)(d:left≠[]):∃p,p∈left/\EL E left p:=by
 obtain⟨p,hp,hm⟩:=QW (fun p=>((List.range n).filter fun q=>decide (Reach E q p)).length) left d;refine⟨p,hp,fun a b h1 h2 h3=>vG fun hc=>?_⟩;have h4:=hm _ h3;have h5:Reach E (fst E a) p:=(CX.2.trans (.one h2)).trans h1.2
 have h6:((List.range n).filter fun q=>decide (Reach E q (fst E a))).length<((List.range n).filter fun q=>decide (Reach E q p)).length :=
  Fo (fun x _ hx=>zH ((zf hx).trans h5)) ⟨p,List.mem_range.2 (h.own p hp).1,zD fun hr=>hc (by
   have:=Ey (E:=E) (p:=fst E a) (q:=p) ⟨h5,hr⟩
   rwa [Fn,(h.own p hp).2]at this),zH (.refl p)⟩
 omega
theorem Hu(h:Left n E left)(a:left≠[]):∃p,Ez E left=some p:=by
 obtain⟨p,h1,h2⟩:=h.free a
 cases hp:Ez E left with
 |some q=>exact⟨q,rfl⟩
 |none=>
  unfold Ez at hp;rw[List.find?_eq_none]at hp;exact absurd (zH h2) (hp p h1)
theorem Cl(h:Left n E left)(hp:Ez E left=some p):p∈left/\EL E left p/\∀q,q∈left->EL E left q->p<=q:=by
 unfold Ez at hp;obtain⟨h1,us,bs,h2,h3⟩:=List.find?_eq_some_iff_append.1 hp;refine⟨by rw[h2];simp,zf h1,fun q hq hf=>?_⟩;have hs:=h.sorted;rw[h2]at hq hs
 rcases List.mem_append.1 hq with hq|hq
 .have:=h3 q hq;rw[zH hf]at this
  cases this
 rcases List.mem_cons.1 hq with rfl|hq
 .exact zB _
 exact xA ((List.pairwise_cons.1 (List.pairwise_append.1 hs).2.1).1 q hq)
theorem O5(h:Left n E left)(h1:p∈left)(h2:EL E left p)(h3:∀q,q∈left->EL E left q->p<=q):Ez E left=some p:=by
 cases hp:Ez E left with
 |none=>
  unfold Ez at hp;rw[List.find?_eq_none]at hp;exact absurd (zH h2) (hp p h1)
 |some q=>
  obtain⟨a,b,c⟩:=Cl h hp;have:=h3 q a b;have:=c p h1 h2;rw[show q=p by omega]
theorem JQ:∀(k:Nat)(left:List Nat),Left n E left->left.length<=k->∀p,p∈ord E k left<->p∈left:=by
 intro k
 induction k with
 |zero=>
  intro left _ hk p;rw[List.length_eq_zero_iff.1 (Nat.le_zero.1 hk)];exact wY
 |succ k ih=>
  intro left h hk p
  by_cases hne:left=[]
  .subst hne;simp[ord,Ez]
  obtain⟨q,hq⟩:=Hu h hne;obtain⟨h1,h2,_⟩:=Cl h hq;have h3:=ih _ (h.erase h1 h2) (by rw[yY h1];omega) p;unfold ord;rw[hq];dsimp only;rw[xP,h3,h.nodup.mem_erase_iff];constructor
  .rintro(rfl|h4)
   .exact h1
   exact h4.2
  intro h4
  by_cases e:p=q
  .exact .inl e
  exact .inr ⟨e,h4⟩
theorem IX:∀(k:Nat)(left:List Nat),Left n E left->left.length<=k->(ord E k left).Nodup/\(ord E k left).length=left.length:=by
 intro k
 induction k with
 |zero=>
  intro left _ hk;rw[List.length_eq_zero_iff.1 (Nat.le_zero.1 hk)];exact⟨vY,rfl⟩
 |succ k ih=>
  intro left h hk
  by_cases hne:left=[]
  .subst hne;simp[ord,Ez]
  obtain⟨q,hq⟩:=Hu h hne;obtain⟨h1,h2,_⟩:=Cl h hq;have a:(left.erase q).length<=k:=by rw[yY h1];omega
  have h3:=ih _ (h.erase h1 h2) a;have h4:=JQ k _ (h.erase h1 h2) a q;have h5:=xt h1;unfold ord;rw[hq];dsimp only;refine⟨List.nodup_cons.2 ⟨fun hm=>?_,h3.1⟩,?_⟩
  .exact(h.nodup.mem_erase_iff.1 (h4.1 hm)).1 rfl
  rw[zn,h3.2,yY h1];omega
theorem Pn:∀(k:Nat)(left:List Nat),Left n E left->left.length<=k->∀(i j:Nat)(hi:i<(ord E k left).length)(hj:j<(ord E k left).length)(a b:Nat),
 (a,b)∈E->fst E a=(ord E k left)[i]->fst E b=(ord E k left)[j]->i<=j:=by
 intro k
 induction k with
 |zero=>intro left _ _ i j hi;simp[ord]at hi
 |succ k ih=>
  intro left h hk i j hi hj a b e ha hb
  by_cases hne:left=[]
  .subst hne;simp[ord,Ez]at hi
  obtain⟨q,hq⟩:=Hu h hne;obtain⟨h1,h2,_⟩:=Cl h hq;have d:(left.erase q).length<=k:=by rw[yY h1];omega
  have hu:ord E (k+1) left=q::ord E k (left.erase q):=by conv=>lhs;unfold ord;rw[hq]
  simp only[hu]at hi hj ha hb
  cases i with
  |zero=>exact zO _
  |succ i=>
   cases j with
   |zero=>
    simp only[v6,List.getElem_cons_zero]at ha hb;have hm:=(JQ k _ (h.erase h1 h2) d _).1 (zQ (by simpa using hi:i<(ord E k (left.erase q)).length));rw[<-ha]at hm;obtain⟨h3,h4⟩:=h.nodup.mem_erase_iff.1 hm;exact absurd (h2 a b (Fm.1 (by rw[hb,(h.own q h1).2])) e h4) h3
   |succ j=>
    simp only[v6]at ha hb;have:=ih _ (h.erase h1 h2) d i j (by simpa using hi) (by simpa using hj) a b e ha hb;omega
end
noncomputable def ords(n:Nat)(E:List (Nat×Nat)):List Nat:=ord E n (leasts n E)
noncomputable def Aj(n:Nat)(E:List (Nat×Nat)):List (List Nat):=(ords n E).map (CD n E)
end Ci
end
section
namespace Ci
def E0(o:Nat->Int)(q:Nat)(v:Int):Nat->Int:=fun x=>if x=q then v else o x
section
variable {E:List (Nat×Nat)} {F:List Nat} {n p q r i:Nat} {out:Nat->Int}
theorem Bg(o:Nat->Int)(q:Nat)(v:Int):E0 o q v q=v:=zE rfl
theorem AS{o:Nat->Int}{q x:Nat}{v:Int}(h:x≠q):E0 o q v x=o x:=zC h
structure Lv(n:Nat)(E:List (Nat×Nat))(F:List Nat)(r i:Nat)(out:Nat->Int):Prop where
 low:∀x,x<n->rk E F x<=r->out x=rk E F x
 mid:∀x,x<n->rk E F x=(r:Int)+1->out x=(r:Int)+1\/(out x=-1/\∀h,(h,x)∈E.take i->rk E F h≠r)
 high:∀x,x<n->(r:Int)+1<rk E F x->out x=-1
theorem Lv.start(h0:∀x,x<n->out x=if x∈F then 0 else -1):Lv n E F 0 0 out:=by
 refine⟨fun x hx h=>?_,fun x hx h=>.inr ⟨?_,fun _ hm=>by simp at hm⟩,fun x hx h=>?_⟩
 .rw [h0 x hx]
  split
  .rename_i hf;exact(Cv.2 hf).symm
  rename_i hf;have h1:rk E F x≠0:=fun e=>hf (Cv.1 e);have h2:=Wf (E:=E) (F:=F) (p:=x);omega
 .rw[h0 x hx,zC fun hf=>by have:=Cv (E:=E) |>.2 hf;omega]
 rw[h0 x hx,zC fun hf=>by have:=Cv (E:=E) |>.2 hf;omega]
theorem Lv.right(h:Lv n E F r i out){x:Nat}(hx:x<n)(h0:0<=out x):out x=rk E F x:=by
 by_cases h1:rk E F x<=r
 .exact h.low x hx h1
 by_cases h2:rk E F x=(r:Int)+1
 .rcases h.mid x hx h2 with h3|h3
  .rw[h3,h2]
  omega
 have:=h.high x hx (by omega);omega
theorem IY{α:Type}{l:List α}{i:Nat}(h:i<l.length):l.take (i+1)=l.take i++[l[i]]:=by
 rw[zS h]
theorem Lv.set(h:Lv n E F r i out)(hi:i<E.length)(hE:InN n E)(h1:out E[i].1=r)(h2:out E[i].2<0):Lv n E F r (i+1) (E0 out E[i].2 ((r:Int)+1)):=by
 obtain⟨a1,a2⟩:=hE _ (zQ hi);have b1:rk E F E[i].1=r:=by rw[<-h.right a1 (by omega),h1]
 have b2:=JP (E:=E) (F:=F) (q:=E[i].1) (p:=E[i].2) (by omega) (zQ hi)
 have b3:rk E F E[i].2=(r:Int)+1:=by
  by_cases c:rk E F E[i].2<=r
  .have:=h.low _ a2 c;omega
  omega
 refine⟨fun x hx hl=>?_,fun x hx hl=>?_,fun x hx hl=>?_⟩
 .rw[AS fun e=>by rw[e]at hl;omega];exact h.low x hx hl
 .by_cases e:x=E[i].2
  .exact .inl (by rw[e,Bg])
  rw[AS e]
  rcases h.mid x hx hl with h3|⟨h3,h4⟩
  .exact .inl h3
  refine .inr ⟨h3,fun y hy=>?_⟩;rw[IY hi]at hy
  rcases List.mem_append.1 hy with hy|hy
  .exact h4 y hy
  exact absurd (by rw[<-List.mem_singleton.1 hy]) e
 rw[AS fun e=>by rw[e]at hl;omega];exact h.high x hx hl
theorem Lv.skip(h:Lv n E F r i out)(hi:i<E.length)(hE:InN n E)(h1:¬(out E[i].1=r/\out E[i].2<0)):Lv n E F r (i+1) out:=by
 obtain⟨a1,a2⟩:=hE _ (zQ hi);refine⟨h.low,fun x hx hl=>?_,h.high⟩
 rcases h.mid x hx hl with h3|⟨h3,h4⟩
 .exact .inl h3
 refine .inr ⟨h3,fun y hy hr=>?_⟩;rw[IY hi]at hy
 rcases List.mem_append.1 hy with hy|hy
 .exact h4 y hy hr
 have e:=List.mem_singleton.1 hy;have e1:E[i].1=y:=by rw[<-e]
 have e2:E[i].2=x:=by rw[<-e]
 refine h1 ⟨?_,by rw[e2,h3];omega⟩;rw[e1,h.low y (by rw[<-e1];exact a1) (by omega),hr]
theorem Lv.next(h:Lv n E F r E.length out):Lv n E F (r+1) 0 out:=by
 have hm:∀x,x<n->rk E F x=(r:Int)+1->out x=(r:Int)+1:=fun x hx hl=>by
  rcases h.mid x hx hl with h3|⟨_,h4⟩
  .exact h3
  obtain⟨q,h5,h6⟩:=FX (k:=r) (p:=x) (E:=E) (F:=F) (by omega);exact absurd h5 (h4 q (by rw[yJ];exact h6))
 refine⟨fun x hx hl=>?_,fun x hx hl=>.inr ⟨h.high x hx (by omega),fun y hy=>by simp at hy⟩,fun x hx hl=>h.high x hx (by omega)⟩
 by_cases c:rk E F x<=r
 .exact h.low x hx c
 rw[hm x hx (by omega)];omega
theorem Lv.whole(h:Lv n E F r i out)(hr:n<=r)(hE:InN n E){x:Nat}(hx:x<n):out x=rk E F x:=by
 have:=Wg (F:=F) hE hx;exact h.low x hx (by omega)
theorem Lv.at(h:Lv n E F r i out)(hE:InN n E){x:Nat}(hx:x<n)(hr:n<=r\/0<=out x):out x=rk E F x:=by
 rcases hr with hr|hr
 .exact h.whole hr hE hx
 exact h.right hx hr
structure Bf(n:Nat)(E:List (Nat×Nat))(F:List Nat)(ex:Nat->Prop)(out:Nat->Int)(queue:List Nat):Prop where
 way:∀x,x<n->0<=out x->G0 E F x (out x).toNat
 neg:∀x,x<n->-1<=out x
 src:∀f,f∈F->out f=0
 edge:∀x y,x<n->(x,y)∈E->0<=out x->x∉queue->¬ex x->0<=out y/\out y<=out x+1
 pos:∀x,x∈queue->x<n/\0<=out x
 sorted:queue.Pairwise fun a b=>out a<=out b/\out b<=out a+1
 done:∀x,x<n->0<=out x->x∉queue->∀y,y∈queue->out x<=out y
 nodup:queue.Nodup
theorem Bf.start(hF:F.Nodup)(hn:∀f,f∈F->f<n)(h0:∀x,x<n->out x=if x∈F then 0 else -1):Bf n E F (fun _=>False) out F:=by
 have hs:∀f,f∈F->out f=0:=fun f hf=>by rw[h0 f (hn f hf),zE hf]
 have hr:∀x,x<n->0<=out x->x∈F:=fun x hx h=>by
  rw[h0 x hx]at h
  split at h
  .assumption
  omega
 refine⟨fun x hx h=>?_,fun x hx=>?_,hs,fun x y hx _ h hq=>absurd (hr x hx h) hq,fun x hx=>⟨hn x hx,by rw[hs x hx];omega⟩,?_,fun x hx h hq=>absurd (hr x hx h) hq,hF⟩
 .rw[hs x (hr x hx h)];exact Fk.2 (hr x hx h)
 .rw[h0 x hx];split<;>omega
 exact List.Pairwise.imp_of_mem (R:=fun _ _=>True) (fun ha hb _=>by rw[hs _ ha,hs _ hb];omega) (List.pairwise_of_forall fun _ _=>trivial)
theorem Bf.end(h:Bf n E F (fun _=>False) out [])(hn:∀f,f∈F->f<n)(hE:InN n E){x:Nat}(hx:x<n):out x=rk E F x:=by
 have key:∀k y,G0 E F y k->y<n/\0<=out y/\out y<=k:=by
  intro k
  induction k with
  |zero=>
   intro y hy;have hm:=Fk.1 hy;have:=h.src y hm;exact⟨hn y hm,by omega,by omega⟩
  |succ k ih=>
   intro y hy;obtain⟨z,hz,e⟩:=Fl.1 hy;obtain⟨a,b,c⟩:=ih z hz;have:=h.edge z y a e b (by simp) (fun h=>h);exact⟨(hE _ e).2,by omega,by omega⟩
 have h1:=h.neg x hx;refine(We ?_).symm
 by_cases h0:0<=out x
 .refine .inr ⟨(out x).toNat,by omega,h.way x hx h0,fun j hj hw=>?_⟩;have:=key j x hw;omega
 refine .inl ⟨by omega,fun k hk=>?_⟩;have:=key k x hk;omega
theorem Bf.pop{queue:List Nat}(h:Bf n E F (fun _=>False) out (p::queue)):Bf n E F (·=p) out queue/\p<n/\0<=out p/\(∀y,y∈queue->out p<=out y/\out y<=out p+1)/\∀x,x<n->out x<=out p+1:=by
 have hp:=h.pos p (yG ..);have hs:=List.pairwise_cons.1 h.sorted;have hd:=List.nodup_cons.1 h.nodup;refine⟨⟨h.way,h.neg,h.src,fun x y hx e h0 hq a=>h.edge x y hx e h0 (fun hm=>(List.mem_cons.1 hm).elim a hq) (fun h=>h),fun x hx=>h.pos x (zt _ hx),hs.2,fun x hx h0 hq y hy=>?_,hd.2⟩,hp.1,hp.2,fun y hy=>hs.1 y hy,fun x hx=>?_⟩
 .by_cases e:x=p
  .rw[e];exact(hs.1 y hy).1
  exact h.done x hx h0 (fun hm=>(List.mem_cons.1 hm).elim e hq) y (zt _ hy)
 by_cases h0:0<=out x
 .by_cases hm:x∈p::queue
  .rcases List.mem_cons.1 hm with rfl|hm
   .omega
   exact(hs.1 x hm).2
  have:=h.done x hx h0 hm p (yG ..);omega
 omega
structure Bq(n:Nat)(E:List (Nat×Nat))(F:List Nat)(p:Nat)(v:Int)(ns:List Nat)(out:Nat->Int)(queue:List Nat):Prop where
 inv:Bf n E F (·=p) out queue
 cur:out p=v
 here:p<n
 v0:0<=v
 seen:∀y,y∈ns->0<=out y/\out y<=v+1
 rest:∀y,y∈queue->v<=out y/\out y<=v+1
 all:∀x,x<n->out x<=v+1
 off:p∉queue
theorem Bq.start{queue:List Nat}(h:Bf n E F (fun _=>False) out (p::queue)):Bq n E F p (out p) [] out queue:=by
 obtain⟨a,b,c,d,e⟩:=h.pop;exact⟨a,rfl,b,c,fun y hy=>by simp at hy,d,e,(List.nodup_cons.1 h.nodup).1⟩
theorem Bq.skip{v:Int}{ns queue:List Nat}(h:Bq n E F p v ns out queue)(hq:q<n)(h0:0<=out q):Bq n E F p v (ns++[q]) out queue :=
 ⟨h.inv,h.cur,h.here,h.v0,fun y hy=>by
   rcases List.mem_append.1 hy with hy|hy
   .exact h.seen y hy
   rw[List.mem_singleton.1 hy];exact⟨h0,h.all q hq⟩,h.rest,h.all,h.off⟩
theorem Bq.set{v:Int}{ns queue:List Nat}(h:Bq n E F p v ns out queue)(hq:q<n)(e:(p,q)∈E)(h0:out q<0):Bq n E F p v (ns++[q]) (E0 out q (v+1)) (queue++[q]):=by
 have aa:p≠q:=fun c=>by have:=h.cur;have:=h.v0;rw[c]at *;omega
 have ad:q∉queue:=fun c=>by have:=(h.inv.pos q c).2;omega
 have ho:∀x,0<=out x->E0 out q (v+1) x=out x:=fun x hx=>AS fun c=>by rw[c]at hx;omega
 have hv:=h.v0;refine⟨⟨fun x hx d=>?_,fun x hx=>?_,fun f hf=>?_,fun x y hx e2 d s ae=>?_,fun x hx=>?_,?_,fun x hx d s y hy=>?_,?_⟩,?_,h.here,h.v0,fun y hy=>?_,fun y hy=>?_,fun x hx=>?_,fun c=>?_⟩
 .by_cases c:x=q
  .rw[c,Bg];have h1:=h.inv.way p h.here (by rw[h.cur];exact hv);rw[h.cur]at h1;have h2:=Fl.2 ⟨p,h1,e⟩
   rwa [show v.toNat+1=(v+1).toNat by omega]at h2
  rw[AS c]at d ⊢;exact h.inv.way x hx d
 .by_cases c:x=q
  .rw[c,Bg];omega
  rw[AS c];exact h.inv.neg x hx
 .have:=h.inv.src f hf;rw[ho f (by omega)];exact this
 .have c:x≠q:=fun c=>s (by rw[c];simp);rw[AS c]at d ⊢;have h1:=h.inv.edge x y hx e2 d (fun c2=>s (yq _ c2)) ae;rw[ho y h1.1];exact h1
 .rcases List.mem_append.1 hx with hx|hx
  .have:=h.inv.pos x hx;rw[ho x this.2];exact this
  rw[List.mem_singleton.1 hx,Bg];exact⟨hq,by omega⟩
 .refine List.pairwise_append.2 ⟨?_,List.pairwise_singleton ..,fun a ha b hb=>?_⟩
  .refine List.Pairwise.imp_of_mem (fun ha hb ab=>?_) h.inv.sorted;rw[ho _ (h.inv.pos _ ha).2,ho _ (h.inv.pos _ hb).2];exact ab
  rw[List.mem_singleton.1 hb,Bg,ho a (h.inv.pos a ha).2];have:=h.rest a ha;omega
 .have c:x≠q:=fun c=>s (by rw[c];simp);rw[AS c]at d ⊢
  rcases List.mem_append.1 hy with hy|hy
  .rw[ho y (h.inv.pos y hy).2];exact h.inv.done x hx d (fun c2=>s (yq _ c2)) y hy
  rw[List.mem_singleton.1 hy,Bg];exact h.all x hx
 .exact List.nodup_append.2 ⟨h.inv.nodup,by simp,fun a ha b hb c=>ad (by rw[<-List.mem_singleton.1 hb,<-c];exact ha)⟩
 .rw[AS aa];exact h.cur
 .rcases List.mem_append.1 hy with hy|hy
  .have:=h.seen y hy;rw[ho y this.1];exact this
  rw[List.mem_singleton.1 hy,Bg];omega
 .rcases List.mem_append.1 hy with hy|hy
  .have:=h.rest y hy;rw[ho y (h.inv.pos y hy).2];exact this
  rw[List.mem_singleton.1 hy,Bg];omega
 .by_cases c:x=q
  .rw[c,Bg];omega
  rw[AS c];exact h.all x hx
 rcases List.mem_append.1 c with c|c
 .exact h.off c
 exact aa (List.mem_singleton.1 c)
theorem Bq.end{v:Int}{ns queue:List Nat}(h:Bq n E F p v ns out queue)(a:∀q,(p,q)∈E->q∈ns):Bf n E F (fun _=>False) out queue :=
 ⟨h.inv.way,h.inv.neg,h.inv.src,fun x y hx e d s _=>by
   by_cases c:x=p
   .rw[c]at e ⊢;rw[h.cur];exact h.seen y (a y e)
   exact h.inv.edge x y hx e d s c,h.inv.pos,h.inv.sorted,h.inv.done,h.inv.nodup⟩
def FG(n:Nat)(out:Nat->Int):Nat:=((List.range n).filter fun x=>decide (out x<0)).length
theorem KF(hq:q<n)(h0:out q<0){v:Int}(hv:0<=v):FG n (E0 out q v)+1<=FG n out:=by
 refine Fo (fun x _ hx=>?_) ⟨q,List.mem_range.2 hq,?_,zH h0⟩
 .have h1:=zf hx;refine zH ?_
  by_cases c:x=q
  .rw[c];exact h0
  rwa [AS c]at h1
 rw[Bg];exact zD (by omega)
end
end Ci
end
section
namespace Ci
section
variable {E:List (Nat×Nat)} {n p q r:Nat} {V V1 V2:Nat->Prop}
def Vis(E:List (Nat×Nat))(p:Nat)(V V':Nat->Prop):Prop :=
 (∀x,V x->V' x)/\V' p/\(∀x,V' x->¬V x->Reach E p x)/\∀x y,V' x->¬V x->(x,y)∈E->V' y
def VisL(E:List (Nat×Nat))(p:Nat)(ns:List Nat)(V V':Nat->Prop):Prop :=
 (∀x,V x->V' x)/\V' p/\(∀x,V' x->¬V x->Reach E p x)/\(∀x y,V' x->¬V x->x≠p->(x,y)∈E->V' y)/\∀y,y∈ns->V' y
theorem Vis.had(h:V p):Vis E p V V:=⟨fun _ h=>h,h,fun _ a b=>absurd a b,fun _ _ a b=>absurd a b⟩
theorem VisL.start(E : List (Nat × Nat))(p : Nat)(V : Nat -> Prop): VisL E p [] V fun x=>V x\/x=p :=
 ⟨fun _ h => .inl h, .inr rfl, fun x a b => by rcases a with a|rfl
                                               .exact absurd a b
                                               exact .refl _, fun x y a b c => by rcases a with a|a
                                                                                  .exact absurd a b
                                                                                  exact absurd a c,fun y hy=>by simp at hy⟩
theorem VisL.step{ns:List Nat}(h:VisL E p ns V V1)(e:(p,q)∈E)(h2:Vis E q V1 V2):VisL E p (ns++[q]) V V2:=by
 obtain⟨a1,a2,a3,a4,a5⟩:=h;obtain⟨b1,b2,b3,b4⟩:=h2;refine⟨fun x hx=>b1 x (a1 x hx),b1 p a2,fun x hx hv=>?_,fun x y hx hv hp he=>?_,fun y hy=>?_⟩
 .by_cases c:V1 x
  .exact a3 x c hv
  exact(Reach.one e).trans (b3 x hx c)
 .by_cases c:V1 x
  .exact b1 y (a4 x y c hv hp he)
  exact b4 x y hx c he
 rcases List.mem_append.1 hy with hy|hy
 .exact b1 y (a5 y hy)
 rw[List.mem_singleton.1 hy];exact b2
theorem VisL.end{ns:List Nat}(h:VisL E p ns V V1)(a:∀q,(p,q)∈E->q∈ns):Vis E p V V1:=by
 obtain⟨a1,a2,a3,a4,a5⟩:=h;refine⟨a1,a2,a3,fun x y hx hv he=>?_⟩
 by_cases c:x=p
 .rw[c]at he;exact a5 y (a y he)
 exact a4 x y hx hv c he
theorem Vis.reach(h:Vis E p (fun _=>False) V1)(x:Nat):V1 x<->Reach E p x:=by
 obtain⟨_,a2,a3,a4⟩:=h;exact⟨fun hx=>a3 x hx fun h=>h,fun hr=>hr.closed a2 fun a b ha he=>a4 a b ha (fun h=>h) he⟩
open Classical
theorem FY(k:Nat):ord E k []=[]:=by cases k<;>simp[ord,Ez]
theorem KG:∀(k j:Nat)(left:List Nat),Left n E left->left.length<=k->left.length<=j->ord E k left=ord E j left:=by
 intro k
 induction k with
 |zero=>
  intro j left _ hk _;rw[List.length_eq_zero_iff.1 (Nat.le_zero.1 hk),FY,FY]
 |succ k ih=>
  intro j left h hk hj
  by_cases hne:left=[]
  .rw[hne,FY,FY]
  obtain⟨p,hp⟩:=Hu h hne;obtain⟨h1,h2,_⟩:=Cl h hp;have h3:=xt h1;obtain⟨j,rfl⟩:∃i,j=i+1:=⟨j-1,by omega⟩;have h4:=yY h1
  conv=>lhs;unfold ord;rw[hp]
  conv=>rhs;unfold ord;rw[hp]
  dsimp only;rw[ih j _ (h.erase h1 h2) (by omega) (by omega)]
structure Stage(n:Nat)(E:List (Nat×Nat))(pre left:List Nat):Prop where
 ok:Left n E left
 all:∀x,x<n->(fst E x∈pre<->fst E x∉left)
 had:∀x,x∈pre->x<n/\fst E x=x/\x∉left
 eq:ords n E=pre++ord E left.length left
theorem CN:(leasts n E).length<=n:=by
 have:=yD (fun p=>decide (fst E p=p)) (List.range n);rw[yV]at this;exact this
theorem Stage.start(hE:InN n E):Stage n E [] (leasts n E) :=
 ⟨Left.start hE,fun x hx=>⟨fun h=>by simp at h,fun h=>absurd (B8.2 ⟨FF hx,Fn⟩) h⟩,fun x hx=>by simp at hx,by
   rw[yW];exact KG _ _ _ (Left.start hE) CN (zB _)⟩
theorem Stage.step{pre left:List Nat}(h:Stage n E pre left)(hp:Ez E left=some p):Stage n E (pre++[p]) (left.erase p):=by
 obtain⟨h1,h2,_⟩:=Cl h.ok hp;have hd:=h.ok.nodup;refine⟨h.ok.erase h1 h2,fun x hx=>?_,fun x hx=>?_,?_⟩
 .rw [hd.mem_erase_iff,yz,h.all x hx,xK];constructor
  .rintro(c|c)
   .exact fun c2=>c c2.2
   exact fun c2=>c2.1 c
  intro c
  by_cases c2:fst E x=p
  .exact .inr c2
  exact .inl fun c3=>c ⟨c2,c3⟩
 .rcases List.mem_append.1 hx with hx|hx
  .obtain⟨a,b,c⟩:=h.had x hx;exact⟨a,b,fun d=>c (List.mem_of_mem_erase d)⟩
  rw[List.mem_singleton.1 hx];exact⟨(h.ok.own p h1).1,(h.ok.own p h1).2,fun d=>(hd.mem_erase_iff.1 d).1 rfl⟩
 have h3:=xt h1;have h4:=yY h1;rw[h.eq,xS]
 congr 1
 obtain⟨k,hk⟩:∃k,left.length=k+1:=⟨left.length-1,by omega⟩;rw[hk]
 conv=>lhs;unfold ord;rw[hp]
 dsimp only;rw[KG k _ _ (h.ok.erase h1 h2) (by omega) (zB _)];rfl
theorem Stage.end{pre:List Nat}(h:Stage n E pre []):ords n E=pre:=by
 have:=h.eq
 rwa [FY,wT]at this
theorem KH{left:List Nat}(hE:InN n E):EL E left p<->∀q,q∈CD n E p->∀h,(h,q)∈E->fst E h∈left->fst E h=p:=by
 constructor
 .exact fun h q hq x e hl=>h x q (Db.1 hq).2 e hl
 exact fun h x q hm e hl=>h q (Db.2 ⟨(hE _ e).2,hm⟩) x e hl
def FZ(n:Nat)(E:List (Nat×Nat))(left:List Nat)(p:Nat):Prop:=fst E p∈left/\∀q,q<n->Reach E q p->¬Reach E p q->fst E q∉left
theorem IZ{left:List Nat}(hE:InN n E)(h:Left n E left):FZ n E left p<->fst E p∈left/\EL E left (fst E p):=by
 constructor
 .rintro⟨h1,h2⟩;refine⟨h1,fun a b hm e hl=>?_⟩;have h3:Reach E a p:=(Reach.one e).trans (CX.trans hm).2
  by_cases c:Reach E p a
  .exact Ey ⟨h3,c⟩
  exact absurd hl (h2 a (hE _ e).1 h3 c)
 rintro⟨h1,h2⟩;refine⟨h1,fun q hq hr hn hl=>?_⟩;obtain⟨a,b,h3,h4,h5,h6⟩:=UM hr fun hm=>hn hm.2;have h7:=h2 a b (CX.symm.trans h5) h4 (by have:=h.up _ a hl (CX.2.trans h3);exact this);exact h6 (Fm.1 (by rw[h7]))
theorem G1{left:List Nat}(hE:InN n E)(h:Left n E left)(hp:p∈left):FZ n E left p<->EL E left p:=by
 obtain⟨_,h2⟩:=h.own p hp;rw[IZ hE h,h2];exact⟨fun h=>h.2,fun h=>⟨hp,h⟩⟩
theorem Mv{left:List Nat}(hE:InN n E)(h:Left n E left)(h1:FZ n E left p)(h2:∀q,q<p->¬FZ n E left q):Ez E left=some p:=by
 obtain⟨h3,h4⟩:=(IZ hE h).1 h1
 have h5:fst E p=p:=by
  have h6:=H8 (E:=E) (.refl p)
  by_cases c:fst E p=p
  .exact c
  exact absurd ((G1 hE h h3).2 h4) (h2 _ (by omega))
 rw[h5]at h3 h4;refine O5 h h3 h4 fun q hq hf=>?_
 by_cases c:p<=q
 .exact c
 exact absurd ((G1 hE h hq).2 hf) (h2 q (by omega))
theorem Mw{left:List Nat}(hE:InN n E)(h:Left n E left)(h2:∀q,q<n->¬FZ n E left q):left=[]:=by
 apply vG;intro c;obtain⟨p,h3,h4⟩:=h.free c;exact h2 p (h.own p h3).1 ((G1 hE h h3).2 h4)
end
end Ci
end
section
open Go.RowKit
namespace Nt
theorem GO(w:World)(k:Nat):Below w.heap.size w (w.drewN k):=⟨rfl,rfl,rfl,zB _,fun _ _=>rfl⟩
theorem H9(w:World)(os:Array Obj):Below w.heap.size w (Sort.grow w os) :=
 ⟨rfl,rfl,rfl,by simp[Sort.grow],fun k hk=>by simp[Sort.grow,Array.getElem?_append,hk]⟩
structure Env(w:World):Prop where
 tab:Lib.TabIs prog w "internal/strconv.uint64pow10" .u64 Lib.pow10Tab
 syn:∃tp p, w.var? prog "strconv.ErrSyntax"=some #[.iface tp p]
 rng:∃tp p, w.var? prog "strconv.ErrRange"=some #[.iface tp p]
theorem O6:prog.globalNamed "internal/strconv.uint64pow10"=some 2 := by kernel_rfl
theorem QX:prog.globalNamed "strconv.ErrSyntax"=some 0 := by kernel_rfl
theorem QY:prog.globalNamed "strconv.ErrRange"=some 1 := by kernel_rfl
theorem JR{w:World}{n:String}{g:Nat}{cs:Array Value}(hg:prog.globalNamed n=some g)(h:w.var? prog n=some cs):g<w.heap.size:=by
 unfold World.var? at h;simp only[hg,Option.bind_some]at h
 by_cases hlt:g<w.heap.size
 .exact hlt
 rw[Array.getElem?_eq_none (by omega)]at h;simp at h
theorem Env.below{w w':World}(h:Env w)(hb:Below w.heap.size w w'):Env w':=by
 obtain⟨h1,⟨t2,p2,h2⟩,t3,p3,h3⟩:=h;exact⟨var?_below hb O6 (JR O6 h1) h1,⟨t2,p2,var?_below hb QX (JR QX h2) h2⟩,⟨t3,p3,var?_below hb QY (JR QY h3) h3⟩⟩
theorem Env.pos{w:World}(h:Env w):0<w.heap.size:=by have:=JR O6 h.tab;omega
theorem QZ(n:Int)(h0:-9223372036854775808<=n)(h1:n<=9223372036854775807)(w:World)(a:Lib.TabIs prog w "internal/strconv.uint64pow10" .u64 Lib.pow10Tab):
 Calls prog 135 #[.int .i64 n] w fun e w'=>e=.returned (.string ⟨(Lib.itoa n).toArray⟩)/\Below w.heap.size w w':=by
 refine(Tryz.strconv_Itoa n h0 h1 w a).mono ?_;rintro e w' ⟨rfl,k,os,rfl⟩;exact⟨rfl,(GO w k).trans (H9 (w.drewN k) os)⟩
theorem JS(s:ByteArray)(a:s.size<=1000000)(u:Nat)(h:Lib.parseUintB 64 s.data.toList=.ok u)(w:World):
 Calls prog 147 #[.string s,.int .i64 10,.int .i64 64] w fun e w'=>e=.returned (.tuple #[.int .u64 u,.nilIface])/\Below w.heap.size w w':=by
 refine(Tryz.strconv_ParseUint_10_at64_ok s (by omega) u h w).mono ?_;rintro e w' ⟨rfl,rfl|rfl⟩
 .exact⟨rfl,zI _ _⟩
 exact⟨rfl,Go.Joins.below_bytesWorld _ _ _ _ (zB _)⟩
theorem KI(s:ByteArray)(w:World)(hs:s.size<=9223372036854775807):
 Calls prog 146 #[.string s,.string ⟨#[48,49,50,51,52,53,54,55,56,57]⟩] w fun e w'=>e=.returned (.string ⟨(Lib.trimS s.data.toList [48,49,50,51,52,53,54,55,56,57]).toArray⟩)/\Below w.heap.size w w' :=
 Any.strings_Trim_laid Tryz.lays160 (by kernel_rfl) s ⟨#[48,49,50,51,52,53,54,55,56,57]⟩ w hs (by decide) (ascii_of_all (by decide))
theorem DX(B b:Nat)(bs:List Value)(s:ByteArray)(w:World)(h:Lib.IsBuilderF 169 5 B b bs w)(a:bs.length+s.size<=140737488355328)(d:B<=w.heap.size):
 Calls prog 155 #[.pointer (some ⟨b,0,none⟩),.string s] w fun e w'=>e=.returned (.tuple #[.int .i64 s.size,.nilIface])/\(Lib.IsBuilderF 169 5 B b (bs++Lib.strCells s) w'/\Below B w w'/\Lib.OthersKept 5 (some b) w w'):=by
 refine(Any.Builder_WriteString_k { Tryz.lays105 with } Tryz.Builder_Extra_105 B b bs s w h a d).q fun w' ⟨h1,h2⟩=>?_;exact⟨rfl,.inr h1,h2⟩
def lv:List Nat->Nat
 | []=>0
 |x::xs=>x+1000000000*lv xs
def lim(xs:List Nat)(i:Nat):Nat:=xs.getD i 0
def Wh:Value->Nat
 |.slice _ n _=>n
 |_=>0
def Canon(xs:List Nat):Prop:=(∀x∈xs,x<1000000000)/\xs.getLast?≠some 0
theorem Du(xs ys:List Nat):lv (xs++ys)=lv xs+1000000000^xs.length*lv ys:=by
 induction xs with
 |nil=>simp[lv]
 |cons x xs ih=>
  simp only[xB,lv,ih,zn,zy,yQ];rw[zw (1000000000^xs.length) 1000000000,zz];omega
def Sl(w:World)(v:Value)(xs:List Nat):Prop :=
 ∃ a cap,v=.slice a xs.length cap/\(a=none->xs=[]/\cap=0) /\
  ∀ad,a=some ad->ad.spot=none/\ad.block<w.heap.size/\xs.length<=cap/\∀i,i<xs.length->w.cell? ⟨ad.block,ad.off+i,none⟩=some (.int .u64 (lim xs i))
theorem Sl.shape{w:World}{v:Value}{xs:List Nat}(h:Sl w v xs):
 (xs=[]/\v=.slice none 0 0) \/
 ∃b off cap,v=.slice (some ⟨b,off,none⟩) xs.length cap/\b<w.heap.size/\xs.length<=cap/\∀i,i<xs.length->w.cell? ⟨b,off+i,none⟩=some (.int .u64 (lim xs i)):=by
 obtain⟨a,cap,rfl,hn,hs⟩:=h
 cases a with
 |none=>exact .inl ⟨(hn rfl).1,by rw[(hn rfl).1,(hn rfl).2];rfl⟩
 |some ad=>
  obtain⟨s,hb,d,hc⟩:=hs ad rfl;obtain⟨b,off,sp⟩:=ad
  cases s
  exact .inr ⟨b,off,cap,rfl,hb,d,hc⟩
theorem Sl.addr{w:World}{v:Value}{xs:List Nat}(h:Sl w v xs):
 ∃a cap,v=.slice a xs.length cap/\(xs≠[]->∃b off,a=some ⟨b,off,none⟩/\b<w.heap.size/\∀i,i<xs.length->w.cell? ⟨b,off+i,none⟩=some (.int .u64 (lim xs i))):=by
 obtain⟨a,cap,rfl,hn,hs⟩:=h;refine⟨a,cap,rfl,fun d=>?_⟩
 cases a with
 |none=>exact absurd (hn rfl).1 d
 |some ad=>
  obtain⟨s,hb,aa,hc⟩:=hs ad rfl;obtain⟨b,off,sp⟩:=ad
  cases s
  exact⟨b,off,rfl,hb,hc⟩
theorem Sl.mk{w:World}{b off cap:Nat}{xs:List Nat}(hb:b<w.heap.size)(a:xs.length<=cap)
 (hc:∀i,i<xs.length->w.cell? ⟨b,off+i,none⟩=some (.int .u64 (lim xs i))):Sl w (.slice (some ⟨b,off,none⟩) xs.length cap) xs :=
 ⟨some ⟨b,off,none⟩,cap,rfl,(fun h=>by cases h),(fun ad h=>by cases h;exact⟨rfl,hb,a,hc⟩)⟩
theorem Sl.nil(w:World):Sl w (.slice none 0 0) []:=⟨none,0,rfl,(fun _=>⟨rfl,rfl⟩),(fun ad h=>by cases h)⟩
theorem Sl.below{w w':World}{v:Value}{xs:List Nat}(h:Sl w v xs)(hb:Below w.heap.size w w'):Sl w' v xs:=by
 obtain⟨a,cap,rfl,hn,hs⟩:=h;refine⟨a,cap,rfl,hn,fun ad e=>?_⟩;obtain⟨h1,h2,h3,h4⟩:=hs ad e;exact⟨h1,zL h2 hb.size,h3,fun i hi=>(hb.cell (p:=⟨ad.block,ad.off+i,none⟩) h2).trans (h4 i hi)⟩
def From(B:Nat):Value->Prop
 |.slice (some ad) _ _=>B<=ad.block
 |_=>True
def Trimmed(xs:List Nat)(k:Nat):Prop:=k<=xs.length/\(∀j,k<=j->j<xs.length->lim xs j=0)/\(0<k->lim xs (k-1)≠0)
theorem HH(xs:List Nat)(h:∀j,j<xs.length->lim xs j=0):lv xs=0:=by
 induction xs with
 |nil=>rfl
 |cons x xs ih=>
  have h0:=h 0 (by simp);have:=ih (fun j hj=>by have:=h (j+1) (by simp;omega);simpa [lim] using this);simp[lim]at h0;simp[lv,h0,this]
theorem Ra(xs:List Nat)(k i:Nat)(h:i<k):lim (xs.take k) i=lim xs i:=by
 simp[lim,h]
theorem Rb(xs:List Nat)(k i:Nat):lim (xs.drop k) i=lim xs (k+i):=by
 simp[lim,List.getElem?_drop]
theorem DY(xs:List Nat)(i:Nat)(h:i<xs.length):lim xs i=xs[i]:=by
 simp[lim,h]
theorem Trimmed.lv{xs:List Nat}{k:Nat}(h:Trimmed xs k):lv (xs.take k)=lv xs:=by
 obtain⟨h1,h2,_⟩:=h;have e:xs=xs.take k++xs.drop k:=(yt k xs).symm;have:Nt.lv (xs.drop k)=0:=HH _ (fun j hj=>by rw[Rb];simp at hj;exact h2 _ (by omega) (by omega))
 conv=>rhs;rw[e]
 rw[Du,this];simp
theorem Trimmed.canon{xs:List Nat}{k:Nat}(h:Trimmed xs k)(hr:∀x∈xs,x<1000000000):Canon (xs.take k):=by
 obtain⟨h1,h2,h3⟩:=h;refine⟨fun x hx=>hr x (yH hx),?_⟩;rw[List.getLast?_eq_getElem?]
 by_cases hk:k=0
 .subst hk;simp
 have a:(xs.take k).length=k:=by simp;omega
 rw[a];have:=h3 (by omega);rw[DY _ _ (by omega)]at this;rw[List.getElem?_take,zE (by omega),yR (by omega)];intro e;exact this (Option.some.inj e)
def Row(t:TypeId)(w:World)(g:Nat)(zs:List Nat):Prop :=
 w.heap[g]? = some (.cells (zs.map fun x:Nat=>Value.int .u64 (x:Int)).toArray t (0,0))
theorem Row.lt{t:TypeId}{w:World}{g:Nat}{zs:List Nat}(h:Row t w g zs):g<w.heap.size :=
 (Array.getElem?_eq_some_iff.1 h).1
theorem Row.cell{t:TypeId}{w:World}{g:Nat}{zs:List Nat}(h:Row t w g zs){i:Nat}(hi:i<zs.length):
 w.cell? ⟨g,i,none⟩=some (.int .u64 (lim zs i)):=by
 unfold Row at h;simp only[World.cell?,h];simp[lim,hi]
theorem Row.frozen{t:TypeId}{w:World}{g:Nat}{zs:List Nat}(h:Row t w g zs)(i:Nat):w.frozen? ⟨g,i,none⟩=false:=by
 unfold Row at h;simp[World.frozen?,h]
theorem Row.set{t:TypeId}{w:World}{g:Nat}{zs:List Nat}(h:Row t w g zs)(i:Nat)(y:Nat):
 Row t (w.setCell ⟨g,i,none⟩ (.int .u64 (y:Int))) g (zs.set i y):=by
 unfold Row at h ⊢;simp only[World.setCell,yl,h];simp[List.map_set]
theorem KJ(n:Nat):madeCells #[.int .u64 0] n=((List.replicate n 0).map fun x:Nat=>Value.int .u64 (x:Int)).toArray:=by
 unfold madeCells;apply Array.ext
 .simp
 intro i h1 h2;have e:i%1=0:=xW i;simp[e]
theorem Row.made0(t:TypeId)(w:World)(n:Nat):Row t (w.alloc (.cells (madeCells #[.int .u64 0] n) t)) w.heap.size (List.replicate n 0):=by
 unfold Row;rw[zo,KJ]
theorem Row.sl{t:TypeId}{w:World}{g:Nat}{zs:List Nat}(h:Row t w g zs):Sl w (.slice (some ⟨g,0,none⟩) zs.length zs.length) zs :=
 Sl.mk h.lt (zB _) (fun i hi=>by rw[zm];exact h.cell hi)
def lo(xs:List Nat)(k:Nat):Nat:=lv (xs.take k)
theorem G2(xs:List Nat)(i:Nat)(h:xs.length<=i):lim xs i=0:=by
 simp[lim,h]
theorem Cw(xs:List Nat)(k:Nat):lo xs (k+1)=lo xs k+1000000000^k*lim xs k:=by
 unfold lo
 by_cases h:k<xs.length
 .rw[zS h,Du];simp only[lv,xY,Nat.min_eq_left (xA h),DY _ _ h,vk,xH]
 rw[yK (by omega),yK (by omega),G2 _ _ (by omega)];simp
theorem DP(xs:List Nat):lo xs 0=0:=by simp[lo,lv]
theorem DZ(xs:List Nat)(k:Nat)(h:xs.length<=k):lo xs k=lv xs:=by
 unfold lo;rw[yK h]
theorem Ve(xs:List Nat)(k y:Nat):lo (xs.set k y) k=lo xs k:=by
 unfold lo;rw[List.take_set_of_le (zB _)]
theorem Hv(xs:List Nat)(k y:Nat)(h:k<xs.length):lim (xs.set k y) k=y:=by
 simp[lim,h]
theorem B9(xs:List Nat)(k j y:Nat)(h:j≠k):lim (xs.set k y) j=lim xs j:=by
 simp[lim,Ne.symm h]
theorem Eb(n j:Nat):lim (List.replicate n 0) j=0:=by
 by_cases h:j<n
 .simp[lim,h]
 exact G2 _ _ (by simp;omega)
def InR(xs:List Nat):Prop:=∀x∈xs,x<1000000000
theorem InR.lim{xs:List Nat}(h:InR xs)(i:Nat):lim xs i<1000000000:=by
 by_cases hi:i<xs.length
 .rw[DY _ _ hi];exact h _ (zQ hi)
 rw[G2 _ _ (by omega)];omega
theorem InR.set{xs:List Nat}(h:InR xs)(k y:Nat)(hy:y<1000000000):InR (xs.set k y):=by
 intro x hx
 rcases List.mem_or_eq_of_mem_set hx with h' | rfl
 .exact h x h'
 exact hy
theorem InR.zeros(n:Nat):InR (List.replicate n 0):=by
 intro x hx;rw[List.eq_of_mem_replicate hx];omega
theorem KK{xs:List Nat}(h:InR xs):lv xs<1000000000^xs.length:=by
 induction xs with
 |nil=>simp[lv]
 |cons x xs ih=>
  have h1:=h x (by simp);have h2:=ih (fun y hy=>h y (by simp[hy]));simp only[lv,zn,zy];generalize 1000000000^xs.length=B at *;omega
theorem UN{xs:List Nat}(h:InR xs)(k:Nat):lo xs k<1000000000^k:=by
 have:=KK (xs:=xs.take k) (fun x hx=>h x (yH hx));unfold lo;have h2:(xs.take k).length<=k:=by simp;omega
 exact zL this (zW (by omega) h2)
theorem Canon.ge{xs:List Nat}(h:Canon xs)(h0:xs≠[]):1000000000^(xs.length-1)<=lv xs:=by
 obtain⟨ys,y,rfl⟩:∃ys y,xs=ys++[y]:=⟨xs.dropLast,xs.getLast h0,(List.dropLast_concat_getLast h0).symm⟩;have hy:y≠0:=by have:=h.2;simp at this;exact this
 rw[Du];simp only[zY,zn,yc,lv];have:1000000000^ys.length*1<=1000000000^ys.length*(y+1000000000*0):=yT _ (by omega);simp at this ⊢;omega
theorem Canon.len_le{xs:List Nat}(h:Canon xs){k:Nat}(hk:lv xs<1000000000^k):xs.length<=k:=by
 by_cases h0:xs=[]
 .simp[h0]
 have:=h.ge h0;have h1:1000000000^(xs.length-1)<1000000000^k:=by omega
 have:=(Nat.pow_lt_pow_iff_right (by omega:1<1000000000)).1 h1;omega
theorem Canon.len_mono{xs ys:List Nat}(h:Canon xs)(hy:Canon ys)(a:lv xs<=lv ys):xs.length<=ys.length :=
 h.len_le (yM a (KK hy.1))
def C7(xs:List Nat):List Value:=xs.map fun x:Nat=>Value.int .u64 (x:Int)
def Own(t:TypeId)(B:Nat)(w:World)(v:Value)(n:Nat)(xs:List Nat):Prop:=w.ownsRow B t 1 v n (C7 xs)
theorem FH(xs:List Nat)(x:Nat):C7 xs++[Value.int .u64 (x:Int)]=C7 (xs++[x]):=by simp[C7]
theorem Own.len{t:TypeId}{B:Nat}{w:World}{v:Value}{n:Nat}{xs:List Nat}(h:Own t B w v n xs):xs.length=n:=by
 have:=h.1
 simpa [C7] using this
theorem Own.sl{t:TypeId}{B:Nat}{w:World}{v:Value}{n:Nat}{xs:List Nat}(h:Own t B w v n xs):Sl w v xs:=by
 have hl:=h.len;subst hl
 rcases h.2 with⟨rfl,h0⟩|⟨g,cap,cur,rfl,hg,hh,hn,a,d,ht⟩
 .have:xs=[]:=List.length_eq_zero_iff.1 h0;subst this;exact Sl.nil _
 refine Sl.mk (Array.getElem?_eq_some_iff.1 hh).1 hn (fun i hi=>?_);have:=World.ownsRow.cellAt h i (by omega);rw[zm,this];simp[C7,lim,hi]
theorem Own.from{t:TypeId}{B:Nat}{w:World}{v:Value}{n:Nat}{xs:List Nat}(h:Own t B w v n xs):From B v:=by
 rcases h.2 with⟨rfl,h0⟩|⟨g,cap,cur,rfl,hg,_⟩
 .trivial
 exact hg
theorem Own.below{t:TypeId}{B:Nat}{w w':World}{v:Value}{n:Nat}{xs:List Nat}(h:Own t B w v n xs)(hb:Below w.heap.size w w'):Own t B w' v n xs:=by
 obtain⟨h1,h2⟩:=h;refine⟨h1,?_⟩
 rcases h2 with h2|⟨g,cap,cur,hv,hg,hh,r⟩
 .exact Or.inl h2
 exact Or.inr ⟨g,cap,cur,hv,hg,by rw[hb.block g (Array.getElem?_eq_some_iff.1 hh).1];exact hh,r⟩
theorem Cx(w:World)(v:Value)(t:TypeId):∀j u,[v][j]? = some u->(w.alloc (.cells #[v] t)).cell? (Addr.add ⟨w.heap.size,0,none⟩ j)=some u:=by
 intro j u hj
 match j,hj with
 |0,hj=>
  simp at hj;subst hj;simp[Addr.add]
theorem Cc(k:IntKind)(x:Int):∀u∈[Value.int k x],u.oneCell'=true:=by
 intro u hu;simp at hu;subst hu;rfl
def Cd(n:Nat):Prop:=n<1000000000^200
theorem My(zs:List Nat)(p y:Nat)(h:p<zs.length):lv (zs.set p y)+1000000000^p*lim zs p=lv zs+1000000000^p*y:=by
 induction zs generalizing p with
 |nil=>simp at h
 |cons z zs ih=>
  cases p with
  |zero=>simp[lv,lim];omega
  |succ p=>
   have:=ih p (by simpa using h);have e:lim (z::zs) (p+1)=lim zs p:=by simp[lim]
   rw[e];simp only[zF,lv,zy];rw[zw (1000000000^p) 1000000000,zz,zz];omega
def Num(w:World)(v:Value)(n:Nat):Prop:=∃xs,Canon xs/\lv xs=n/\Sl w v xs
theorem Num.below{w w':World}{v:Value}{n:Nat}(h:Num w v n)(hb:Below w.heap.size w w'):Num w' v n:=by
 obtain⟨xs,h1,h2,h3⟩:=h;exact⟨xs,h1,h2,h3.below hb⟩
def A0(l:List UInt8):Nat:=l.foldl (fun a c=>a*10+(c.toNat-48)) 0
def AT(c:UInt8):Prop:=48<=c.toNat/\c.toNat<=57
theorem Mz(l:List UInt8)(a:Nat):l.foldl (fun a c=>a*10+(c.toNat-48)) a=a*10^l.length+A0 l:=by
 induction l generalizing a with
 |nil=>simp[A0]
 |cons c l ih=>
  simp only[wV,zn,A0];rw[ih,ih (0*10+(c.toNat-48)),zy,xr,zm,yE,zz,zw 10];omega
theorem Bv(l m:List UInt8):A0 (l++m)=A0 l*10^m.length+A0 m:=by
 unfold A0;rw[List.foldl_append,Mz];rfl
theorem EM:A0 []=0:=rfl
theorem C8(c:UInt8)(l:List UInt8):A0 (c::l)=(c.toNat-48)*10^l.length+A0 l:=by
 rw[show c::l=[c]++l from rfl,Bv];simp[A0]
theorem Do{l:List UInt8}(h:∀c∈l,AT c):A0 l<10^l.length:=by
 induction l with
 |nil=>simp[A0]
 |cons c l ih=>
  have h1:=h c (by simp);have h2:=ih (fun d hd=>h d (by simp[hd]));rw[C8,zn,zy];have h3:(c.toNat-48)*10^l.length<=9*10^l.length:=yO _ (by have:=h1.2;omega);omega
theorem KL{l:List UInt8}(h:∀c∈l,AT c)(h0:l≠[])(hl:l.length<=9):Lib.parseUintB 64 l=.ok (A0 l):=by
 have key:∀(m:List UInt8)(a:Nat),(∀c∈m,AT c)->a*10^m.length+10^m.length<=1000000000->Lib.parseUintM (2^64-1) a m=.ok (a*10^m.length+A0 m):=by
  intro m
  induction m with
  |nil=>intro a _ _;simp[Lib.parseUintM,A0]
  |cons c m ih=>
   intro a hm hb;have h1:=hm c (by simp);rw[zn,zy]at hb;have hp:0<10^m.length:=wh (by omega)
   have ha:a*10^m.length<=100000000:=by
    rw[<-zz]at hb;omega
   have s:a<=100000000:=zV (vQ a hp) ha;have hc:=h1.2;unfold Lib.parseUintM;rw[zE (show 48<=c.toNat/\c.toNat<=57 from h1),zC (by omega),zC (by omega),ih _ (fun d hd=>hm d (by simp[hd])) ?_]
   .rw[C8,zn,zy,yE,zz,zw 10]
    congr 1;omega
   have h3:(c.toNat-48)*10^m.length<=9*10^m.length:=yO _ (by omega);have h4:a*(10^m.length*10)=a*10*10^m.length:=by rw[zw (10^m.length),zz]
   rw[yE];omega
 unfold Lib.parseUintB;rw[zC h0,key l 0 h ?_]
 .rw[xr,zm]
 rw[xr,zm];exact zV (zW (by omega) hl) (by decide)
theorem Bl(d:Nat)(h:d<10):(UInt8.ofNat (48+d)).toNat=48+d:=by
 rw[UInt8.toNat_ofNat'];omega
theorem AL(u:Nat):∀c∈Lib.decDigits u,AT c:=by
 induction u using Nat.strongRecOn with
 |_ u ih=>
  rw[Lib.decDigits]
  split
  .intro c hc;simp only[xP,xD,vS]at hc;subst hc;unfold AT;rw[Bl _ (by omega)];omega
  intro c hc
  rcases List.mem_append.1 hc with h|h
  .exact ih (u/10) (by omega) c h
  simp only[xP,xD,vS]at h;subst h;unfold AT;rw[Bl _ (by omega)];omega
theorem Aw(u:Nat):A0 (Lib.decDigits u)=u:=by
 induction u using Nat.strongRecOn with
 |_ u ih=>
  rw[Lib.decDigits]
  split
  .simp only[A0,wV,wm,Bl u (by omega)];omega
  rw[Bv,ih (u/10) (by omega)];simp only[zn,yc,A0,wV,wm,Bl _ (xv u (show 0<10 by omega))];omega
theorem AX(u:Nat):Lib.decDigits u≠[]:=by
 rw[Lib.decDigits]
 split<;>simp
theorem GP(l m:List UInt8)(h:l≠[]):(l++m).head? = l.head?:=by
 cases l with
 |nil=>exact absurd rfl h
 |cons a l=>rfl
theorem EN(u:Nat)(h:0<u):(Lib.decDigits u).head?≠some 48:=by
 induction u using Nat.strongRecOn with
 |_ u ih=>
  rw[Lib.decDigits]
  split
  .intro e;simp only[List.head?_cons,Option.some.injEq]at e;have:=congrArg UInt8.toNat e;rw[Bl _ (by omega)]at this;simp at this;omega
  rw[GP _ _ (AX _)];exact ih (u/10) (by omega) (by omega)
theorem D5:∀(n:Nat)(l:List UInt8),l.length=n->l≠[]->(∀c∈l,AT c)->(l.length=1\/l.head?≠some 48)->Lib.decDigits (A0 l)=l:=by
 intro n
 induction n with
 |zero=>intro l hl h0;exact absurd (List.length_eq_zero_iff.1 hl) h0
 |succ n ih=>
  intro l hl h0 hd hh;obtain⟨m,c,rfl⟩:∃m c,l=m++[c]:=⟨l.dropLast,l.getLast h0,(List.dropLast_concat_getLast h0).symm⟩;have hc:=hd c (by simp)
  have aa:UInt8.ofNat (48+(c.toNat-48))=c:=by
   apply UInt8.toNat_inj.1;rw[Bl _ (by have:=hc.2;omega)];have:=hc.1;omega
  have hv:A0 (m++[c])=A0 m*10+(c.toNat-48):=by rw[Bv];simp[A0]
  have ad:c.toNat-48<10:=by have:=hc.2;omega
  cases m with
  |nil=>
   rw[hv];simp only[EM,xr,zm,yW];rw[wZ ad,aa]
  |cons a m=>
   have ab:(a::m).length=n:=by simp at hl ⊢;omega
   have s:a≠48:=by
    rcases hh with h|h
    .simp at h
    simpa using h
   have ha:=hd a (by simp)
   have ae:0<A0 (a::m):=by
    rw[C8]
    have h1:1<=a.toNat-48:=by
     have:a.toNat≠48:=fun e=>s (UInt8.toNat_inj.1 e);have:=ha.1;omega
    have h2:1*10^m.length<=(a.toNat-48)*10^m.length:=yO _ h1;have h3:0<10^m.length:=wh (by omega);omega
   have hi:=ih (a::m) ab (by simp) (fun d h=>hd d (by simp at h ⊢;rcases h with h|h<;>simp[h])) (.inr (by simpa using s));rw[hv,Lib.decDigits,dif_neg (by omega),show (A0 (a::m)*10+(c.toNat-48))/10=A0 (a::m) by omega,show (A0 (a::m)*10+(c.toNat-48))%10=c.toNat-48 by omega,hi,aa]
theorem HI(n:Nat)(l:List UInt8):A0 (List.replicate n 48++l)=A0 l:=by
 induction n with
 |zero=>simp
 |succ n ih=>rw[List.replicate_succ,xB,C8,ih];simp
theorem AV{u k:Nat}(h:u<10^k)(hk:0<k):(Lib.decDigits u).length<=k:=by
 induction k generalizing u with
 |zero=>omega
 |succ k ih=>
  rw[Lib.decDigits]
  split
  .simp
  rename_i h10;have hu:u/10<10^k:=by rw[zy]at h;omega
  have a:0<k:=by
   rcases yj k with e|e
   .subst e;simp at h;omega
   exact e
  have:=ih hu a;simp;omega
theorem Bm(u k:Nat)(hk:0<k):(Lib.decDigits u).length<=k<->u<10^k:=by
 constructor
 .intro h;have h1:=Do (AL u);rw[Aw]at h1;exact zL h1 (zW (by omega) h)
 intro h;exact AV h hk
def KM(x:Nat):List UInt8:=List.replicate (9-(Lib.decDigits x).length) 48++Lib.decDigits x
theorem KN{x:Nat}(h:x<1000000000):(KM x).length=9:=by
 have:=AV (k:=9) (u:=x) (by simpa using h) (by omega);simp[KM];omega
theorem HJ(u x:Nat)(hu:0<u)(hx:x<1000000000):Lib.decDigits (u*1000000000+x)=Lib.decDigits u++KM x:=by
 have hl:=KN hx
 have hv:A0 (Lib.decDigits u++KM x)=u*1000000000+x:=by
  rw[Bv,hl,Aw,KM,HI,Aw]
 rw[<-hv];refine D5 _ _ rfl (by simp[AX]) ?_ (.inr ?_)
 .intro c hc
  rcases List.mem_append.1 hc with h|h
  .exact AL u c h
  rcases List.mem_append.1 h with h|h
  .rw[List.eq_of_mem_replicate h];exact⟨by decide,by decide⟩
  exact AL x c h
 rw[GP _ _ (AX _)];exact EN u hu
end Nt
end
section
open Go.RowKit Go.Shelf
namespace Nt
def Rc(l:List UInt8):Bool:=!l.isEmpty&&(decide (l.length<=300)&&(l.all (fun c=>decide (48<=c.toNat/\c.toNat<=57))&&(decide (l.length=1)||decide (l.head?≠some 48))))
def isN(s:ByteArray):Bool:=Rc s.data.toList
def num(n:Nat):ByteArray:=⟨(Lib.decDigits n).toArray⟩
@[irreducible] def mxd:Nat:=300
theorem Dk:mxd=300:=by unfold mxd;rfl
def Lim:Nat:=10^mxd
def G3:List UInt8:=[48,49,50,51,52,53,54,55,56,57]
theorem Ec(l:List UInt8):Rc l=true<->l≠[]/\l.length<=300/\(∀c∈l,AT c)/\(l.length=1\/l.head?≠some 48):=by
 unfold Rc AT;simp
theorem BS{n:Nat}(h:n<Lim):isN (num n)=true:=by
 unfold isN num;rw[Ec];refine⟨AX n,by rw[<-Dk];exact AV (k:=mxd) h (by rw[Dk];omega),AL n,?_⟩
 rcases yj n with e|e
 .subst e;left;rw[wZ (by omega)];rfl
 right;exact EN n e
theorem BT{s:ByteArray}(h:isN s=true):∃n,n<Lim/\s=num n:=by
 unfold isN at h;rw[Ec]at h;obtain⟨h1,h2,h3,h4⟩:=h;refine⟨A0 s.data.toList,?_,?_⟩
 .exact zL (Do h3) (zW (by omega) (by rw[Dk];exact h2))
 unfold num;rw[D5 _ _ rfl h1 h3 h4]
theorem Rd(l:List UInt8):Lib.trimS l G3=[]<->∀c∈l,AT c:=by
 have hd:∀c:UInt8,G3.contains c=true<->AT c:=by
  intro c;unfold G3 AT;simp only[List.contains_eq_mem,xP,xD,vS,yN,<-UInt8.toNat_inj];simp only[UInt8.reduceToNat];omega
 unfold Lib.trimS Lib.trimLeftS Lib.trimRightS;constructor
 .intro h
  have key:∀m:List UInt8,m.dropWhile (G3.contains ·)=[]->∀c∈m,AT c:=by
   intro m
   induction m with
   |nil=>intro _ c hc;exact absurd hc (by simp)
   |cons a m ih=>
    intro h c hc;rw[List.dropWhile_cons]at h
    split at h
    .rename_i ha
     rcases List.mem_cons.1 hc with e|e
     .rw[e];exact(hd a).1 ha
     exact ih h c e
    cases h
  by_cases hr:(l.reverse.dropWhile (G3.contains ·))=[]
  .intro c hc;exact key _ hr c (by simpa using hc)
  exfalso;have d:(l.reverse.dropWhile (G3.contains ·)).reverse≠[]:=by simpa using hr
  have h1:=key _ h
  obtain ⟨a,m,e⟩:∃a m,l.reverse.dropWhile (G3.contains ·)=a::m:=by
   cases hh:l.reverse.dropWhile (G3.contains ·) with
   |nil=>exact absurd hh hr
   |cons a m=>exact⟨a,m,rfl⟩
  have h2:=h1 a (by rw[e];simp)
  have h3:G3.contains a=false:=by
   have:=List.head?_dropWhile_not (G3.contains ·) l.reverse;rw[e]at this
   simpa using this
  rw[(hd a).2 h2]at h3
  cases h3
 intro h
 have h1:l.reverse.dropWhile (G3.contains ·)=[]:=by
  have key:∀m:List UInt8,(∀c∈m,AT c)->m.dropWhile (G3.contains ·)=[]:=by
   intro m
   induction m with
   |nil=>intro _;rfl
   |cons a m ih=>
    intro h;rw[List.dropWhile_cons,zE ((hd a).2 (h a (by simp)))];exact ih (fun c hc=>h c (by simp[hc]))
  exact key _ (fun c hc=>h c (by simpa using hc))
 rw[h1];rfl
theorem Po(s:ByteArray):isN s=true<->s.toList.isEmpty=false/\s.size<=300/\Lib.trimS s.data.toList [48,49,50,51,52,53,54,55,56,57]=[]/\(s.size=1\/∀h:0<s.size,s[0].toNat≠48):=by
 unfold isN;rw[Ec,show ([48,49,50,51,52,53,54,55,56,57]:List UInt8)=G3 from rfl,Rd,yP];have hl:s.data.toList.length=s.size:=by simp
 rw[hl];constructor
 .rintro⟨h1,h2,h3,h4⟩;refine⟨by simpa using h1,h2,h3,?_⟩
  rcases h4 with h4|h4
  .exact .inl h4
  right;intro h e;apply h4;rw[vd,yR (by omega)];refine congrArg some (UInt8.toNat_inj.1 ?_);rw[Array.getElem_toList];exact e
 rintro⟨h1,h2,h3,h4⟩;refine⟨by simpa using h1,h2,h3,?_⟩
 rcases h4 with h4|h4
 .exact .inl h4
 right;intro e
 have h0:0<s.data.toList.length:=by
  rcases yj s.data.toList.length with h|h
  .rw[List.length_eq_zero_iff.1 h]at e;simp at e
  exact h
 rw[vd,yR h0]at e;refine h4 (by omega) ?_;have:=congrArg UInt8.toNat (Option.some.inj e);rw[Array.getElem_toList]at this;exact this
theorem Ag{a b:Bool}(h:a=b):Ending.returned (.bool a)=.returned (.bool b):=by rw[h]
theorem BG(s:ByteArray)(w:World)(hs:s.size<=9223372036854775807):
 Calls prog 111 #[.string s] w fun e w'=>e=.returned (.bool (isN s))/\Below w.heap.size w w':=by
 have a:=KI s w hs;have HP:=zh (Po s)
 have d:¬(s.toList.isEmpty=false/\s.size<=300/\Lib.trimS s.data.toList [48,49,50,51,52,53,54,55,56,57]=[]/\(s.size=1\/∀h:0<s.size,s[0].toNat≠48))->isN s=false:=fun h=>by
  cases hh:isN s with
  |false=>rfl
  |true=>exact absurd (HP.o.1 hh) h
 have HF:=zh d;clear d;generalize isN s=r at HP HF ⊢
 cases h0:s.toList.isEmpty with
 |true=>
  obtain rfl:r=false:=HF.o (by rw[h0];simp);go_enter func111,ntmps111;go_wp2;go_ret;exact⟨Ag (by simp),zI _ _⟩
 |false=>
  have aa:0<s.size:=by
   rcases yj s.size with h|h
   .have:s.toList=[]:=by rw[yP];exact List.length_eq_zero_iff.1 (by simpa using h)
    rw[this]at h0;cases h0
   exact h
  by_cases h1:s.size<=300
  .by_cases ht:Lib.trimS s.data.toList [48,49,50,51,52,53,54,55,56,57]=[]
   .by_cases h2:s.size=1
    .obtain rfl:r=true:=HP.o.2 ⟨h0,h1,ht,.inl h2⟩;rw[ht]at a;have ab:((s.size:Int)==1)=true:=by rw[yL];omega
     clear ht h2;go_enter func111,ntmps111
     go_wp2_with (go_at_call 146;refine a.q fun w' hb=>?_)
     go_ret;exact⟨Ag (by simp),hb⟩
    have ab:((s.size:Int)==1)=false:=by rw[zJ];omega
    rw[ht]at a
    by_cases h3:s[0].toNat=48
    .obtain rfl:r=false:=HF.o (fun h=>by rcases h.2.2.2 with h|h;(· exact h2 h);(· exact h aa h3));have ad:((s[0].toNat:Int) != 48)=false:=by rw[h3];rfl
     clear ht h2 h3;go_enter func111,ntmps111
     go_wp2_with (go_at_call 146;refine a.q fun w' hb=>?_)
     go_ret;exact⟨Ag (by simp),hb⟩
    obtain rfl:r=true:=HP.o.2 ⟨h0,h1,ht,.inr (fun _=>h3)⟩;have ad:((s[0].toNat:Int) != 48)=true:=by rw[zj];omega
    clear ht h2 h3;go_enter func111,ntmps111
    go_wp2_with (go_at_call 146;refine a.q fun w' hb=>?_)
    go_ret;exact⟨Ag (by simp),hb⟩
   obtain rfl:r=false:=HF.o (fun h=>ht h.2.2.1);have ae:(Lib.trimS s.data.toList [48,49,50,51,52,53,54,55,56,57]).isEmpty=false:=by simpa using ht
   clear ht;generalize Lib.trimS s.data.toList [48,49,50,51,52,53,54,55,56,57]=tl at a ae;go_enter func111,ntmps111
   go_wp2_with (go_at_call 146;refine a.q fun w' hb=>?_)
   go_ret;exact⟨Ag (by simp),hb⟩
  obtain rfl:r=false:=HF.o (fun h=>h1 h.2.1);go_enter func111,ntmps111;go_wp2;go_ret;exact⟨Ag (by simp),zI _ _⟩
end Nt
end
section
open Go.RowKit
namespace Nt
def Re(b off cap:Nat)(xs:List Nat)(w:World)(e:Ending)(w':World):Prop :=
 ∃k,e=.returned (.slice (some ⟨b,off,none⟩) k cap)/\Trimmed xs k/\w=w'
theorem Pp(w:World)(b off cap:Nat)(xs:List Nat)(hl:xs.length<=1000000)(d:xs.length<=cap)
 (hc:∀i,i<xs.length->w.cell? ⟨b,off+i,none⟩=some (.int .u64 (lim xs i))):
 Calls prog 148 #[.slice (some ⟨b,off,none⟩) xs.length cap] w (Re b off cap xs w):=by
 go_enter func148,ntmps148;go_wp2
 go_loop [0] (fun v=>∃k,k<=xs.length/\v=.slice (some ⟨b,off,none⟩) k cap/\(∀j,k<=j->j<xs.length->lim xs j=0)) (fun v=>Wh v)
 case atStart=>exact⟨_,zB _,rfl,fun j h h'=>by omega⟩
 case round=>
  obtain⟨k,hk,rfl,hz⟩:=hrel;have HZ:=zh hz;clear hz
  by_cases h0:0<k
  .have a:=hc (k-1) (by omega)
   by_cases hx:lim xs (k-1)=0
   .have HX:=zh hx;rw[hx]at a;clear hx hc;go_wp2;refine⟨⟨k-1,by omega,rfl,fun j h h'=>?_⟩,by simp only[Wh];omega⟩
    by_cases e:j=k-1
    .rw[e];exact HX.o
    exact HZ.o j (by omega) h'
   have s:((lim xs (k-1):Int)==0)=false:=by simp;exact hx
   have HX:=zh hx;clear hx hc;go_wp2;go_ret;exact⟨k,rfl,⟨hk,HZ.o,fun _=>HX.o⟩,rfl⟩
  clear hc;go_wp2;go_ret;exact⟨k,rfl,⟨hk,HZ.o,fun h=>by omega⟩,rfl⟩
theorem Rf(w:World):
 Calls prog 148 #[.slice none 0 0] w fun e w'=>e=.returned (.slice none 0 0)/\w=w':=by
 go_enter func148,ntmps148;go_wp2;refine wp_loop_rounds 1 ?_;rw[rounds_succ];go_wp2;go_ret;exact⟨rfl,rfl⟩
def T9(w:World)(u:Value)(xs:List Nat)(e:Ending)(w':World):Prop :=
 ∃v k,e=.returned v/\Trimmed xs k/\Sl w v (xs.take k)/\(∀B,From B u->From B v)/\w=w'
theorem D6(w:World)(v:Value)(xs:List Nat)(hl:xs.length<=1000000)(hs:Sl w v xs):
 Calls prog 148 #[v] w (T9 w v xs):=by
 rcases hs.shape with⟨rfl,rfl⟩|⟨b,off,cap,rfl,hb,d,hc⟩
 .refine(Rf w).mono ?_;rintro e w' ⟨rfl,rfl⟩;exact⟨_,0,rfl,⟨zB _,fun j _ h=>absurd h (by simp),fun h=>by omega⟩,Sl.nil _,fun _ h=>h,rfl⟩
 refine(Pp w b off cap xs hl d hc).mono ?_;rintro e w' ⟨k,rfl,ht,rfl⟩;have a:(xs.take k).length=k:=by have:=ht.1;simp;omega
 refine⟨_,k,rfl,ht,?_,fun _ h=>h,rfl⟩;have:=Sl.mk (w:=w) (b:=b) (off:=off) (cap:=cap) (xs:=xs.take k) hb (by have:=ht.1;omega) (fun i hi=>by rw[a]at hi;rw[Ra _ _ _ hi];exact hc i (by have:=ht.1;omega));rw[a]at this;exact this
end Nt
end
section
open Go.RowKit Go.Shelf
attribute [local go_sem] wU
namespace Nt
abbrev BJ(n:Nat):={ i:Nat // i<n }
def CO(n k:Nat):List (BJ n):=((List.range k).filterMap fun j=>if h:n-1-j<n then some ⟨n-1-j,h⟩ else none)
theorem Dv(n:Nat):CO n 0=[]:=rfl
theorem CP(n k:Nat)(h:k<n):CO n (k+1)=CO n k++[⟨n-1-k,by omega⟩]:=by
 simp only[CO,xX,List.filterMap_append,List.filterMap_cons,List.filterMap_nil];rw[dif_pos (by omega)]
theorem GQ(n k:Nat)(h:k<=n):(CO n k).length=k:=by
 induction k with
 |zero=>rfl
 |succ k ih=>rw[CP n k (by omega),zY,ih (by omega)];rfl
def Keep2(b c:Nat)(W W':World):Prop:=W'.heap[b]? = W.heap[b]?/\W'.heap[c]? = W.heap[c]?
theorem Keep2.refl(b c:Nat)(W:World):Keep2 b c W W:=⟨rfl,rfl⟩
theorem Keep2.trans{b c:Nat}{A B C:World}(h:Keep2 b c A B)(k:Keep2 b c B C):Keep2 b c A C:=⟨k.1.trans h.1,k.2.trans h.2⟩
theorem Keep2.of_below{b c n:Nat}{A B:World}(h:Below n A B)(hb:b<n)(hc:c<n):Keep2 b c A B:=⟨h.block b hb,h.block c hc⟩
theorem Keep2.setCell{b c:Nat}(W:World)(p:Addr)(v:Value)(hb:b≠p.block)(hc:c≠p.block):Keep2 b c W (W.setCell p v) :=
 ⟨zg _ _ _ _ hb,zg _ _ _ _ hc⟩
def SlAt(W:World)(b:Nat)(sv:Value)(xs:List Nat):Prop :=
 (xs=[]/\∃cap,sv=.slice none 0 cap)\/∃off cap,sv=.slice (some ⟨b,off,none⟩) xs.length cap/\∀j,j<xs.length->W.cell? ⟨b,off+j,none⟩=some (.int .u64 (lim xs j))
theorem SlAt.keep{W W':World}{b c:Nat}{sv:Value}{xs:List Nat}(h:SlAt W b sv xs)(hk:Keep2 b c W W'):SlAt W' b sv xs:=by
 rcases h with h|⟨off,cap,h,hc⟩
 .exact .inl h
 exact .inr ⟨off,cap,h,fun j hj=>(zR (w:=W) hk.1).trans (hc j hj)⟩
theorem Pq(F:Fence)(n:Nat)(hf:F.fn 178)(ag:F.round=none)(hn:1<=n)(l Bs b off cap:Nat)(xs:List Nat)(hl:xs.length<=1000000)(J Jx:List (BJ xs.length)->World->Prop)
 (hY:∀pre (x:BJ xs.length) W,J pre W->pre.length<xs.length->YieldAt F (n-1) prog l #[.int .i64 (x.1:Int),.int .u64 (lim xs x.1)] W fun e W' =>
   (e=.returned (.bool true)/\J (pre++[x]) W'/\Keep2 b Bs W W')\/(e=.returned (.bool false)/\Jx (pre++[x]) W'))
 (W:World)(ab:W.cell? ⟨Bs,0,none⟩=some (.slice (some ⟨b,off,none⟩) xs.length cap))(hc:∀j,j<xs.length->W.cell? ⟨b,off+j,none⟩=some (.int .u64 (lim xs j)))(h0:J [] W):
 CallsIn F n prog 178 #[.func (.yield l) #[] #[],.pointer (some ⟨Bs,0,none⟩)] W fun e W'=>(∃v,e=.returned v) /\
  ((∃ys,ys=CO xs.length xs.length/\J ys W')\/(∃pre,(∃k,k<=xs.length/\pre=CO xs.length k)/\Jx pre W')):=by
 refine callsIn_of_wp func178 rfl hf ?_ ag;simp only[ntmps178,wF,zn,yc,Nat.reduceAdd,Nat.reduceSub,xh,xi,wG,xq,yW,xB]
 gi_wp2
 gi_loopw [3] (fun i wr=>∃k:Nat,k<=xs.length/\i=.int .i64 ((xs.length:Int)-1-k)/\J (CO xs.length k) wr/\Keep2 b Bs W wr)
  (fun i _=>((intOf i)+1).toNat)
 case atStart=>exact⟨0,zO _,by simp,h0,Keep2.refl _ _ _⟩
 case round=>
  obtain⟨k,hk,rfl,s,h⟩:=hrel
  by_cases hlt:k<xs.length
  .have ae:=(zR (w:=W) (a:=⟨b,off+(xs.length-1-k),none⟩) h.1).trans (hc (xs.length-1-k) (by omega));have ah:=(zR (w:=W) (a:=⟨Bs,0,none⟩) h.2).trans ab;obtain⟨fn,tmps,assign,body,hy,hR⟩:=hY _ ⟨xs.length-1-k,by omega⟩ wr s (by rw[GQ _ _ hk];exact hlt);dsimp only at hy;have ei:(xs.length:Int)-1-k=((xs.length-1-k:Nat):Int):=by omega
   rw[ei];obtain⟨q,d⟩:∃q,q=xs.length-1-k:=⟨_,rfl⟩;have hq:q<xs.length:=by omega
   have HB:(CO xs.length (k+1)=CO xs.length k++[⟨q,hq⟩]):=by rw[CP _ _ hlt];subst d;rfl
   replace HB:=zh HB;have HQ:Hid (q+k+1=xs.length):=by unfold Hid;omega
   have hx:(⟨xs.length-1-k,by omega⟩:BJ xs.length)=⟨q,hq⟩:=by subst d;rfl
   rw[<-d]at ae hy ⊢;rw[hx]at hR;clear d hx ei
   gi_wp2
   refine hR.mono ?_;rintro e W3 (⟨rfl,ad,af⟩|⟨rfl,aa⟩)
   .gi_wp2
    have ai:=HQ.o
    go_roundw
    case rel=>exact⟨k+1,by omega,congrArg (Value.int .i64) (by omega),by rw[HB.o];exact ad,h.trans af⟩
    case measure=>simp only[intOf];omega
   gi_wp2
   refine zX (results_none rfl _ _ _) rfl ?_;exact⟨⟨_,rfl⟩,.inr ⟨_,⟨k+1,by omega,HB.o.symm⟩,aa⟩⟩
  obtain rfl:k=xs.length:=by omega
  have ei:(xs.length:Int)-1-xs.length=-1:=by omega
  rw[ei]
  gi_wp2
  go_end0;exact⟨⟨_,rfl⟩,.inl ⟨_,rfl,s⟩⟩
theorem II(F:Fence)(n:Nat)(hf:F.fn 178)(d:F.round=none)(l Bs cap:Nat)(J:List (BJ 0)->World->Prop)(W:World)(h:W.cell? ⟨Bs,0,none⟩=some (.slice none 0 cap))(h0:J [] W):
 CallsIn F n prog 178 #[.func (.yield l) #[] #[],.pointer (some ⟨Bs,0,none⟩)] W fun e W'=>(∃v,e=.returned v)/\J [] W':=by
 refine callsIn_of_wp func178 rfl hf ?_ d;simp only[ntmps178,wF,zn,yc,Nat.reduceAdd,Nat.reduceSub,xh,xi,wG,xq,yW,xB]
 gi_wp2
 gi_loopw [3] (fun i wr=>i=.int .i64 (-1)/\J [] wr) (fun _ _=>0)
 case atStart=>exact⟨rfl,h0⟩
 case round=>
  obtain⟨rfl,a⟩:=hrel
  gi_wp2
  go_end0;exact⟨⟨_,rfl⟩,a⟩
theorem Dw(F:Fence)(n:Nat)(hf:F.fn 149)(d:F.round=none)(a:Option Addr)(len cap:Nat)(w:World):
 CallsIn F n prog 149 #[.slice a len cap] w fun e w'=>e=.returned (.func (.func 178) #[] #[.pointer (some ⟨w.heap.size,0,none⟩)])/\w'=w.alloc (.cells #[.slice a len cap] 135):=by
 refine callsIn_of_wp func149 rfl hf ?_ d;simp only[ntmps149,wF,zn,yc,Nat.reduceAdd,Nat.reduceSub,xh,xi,wG,xq,yW,xB]
 gi_wp2
 go_ret;exact⟨rfl,rfl⟩
theorem FI(F:Fence)(n:Nat)(hf:F.fn 178)(s:F.round=none)(hn:1<=n)(Bs b:Nat)(sv:Value)(xs:List Nat)(hl:xs.length<=1000000)(w:World)(a:Bs<w.heap.size)(hb:b<w.heap.size)
 (hc:w.cell? ⟨Bs,0,none⟩=some sv)(hI:SlAt w b sv xs):
 SeqStopsK F n prog 178 #[.pointer (some ⟨Bs,0,none⟩)] (fun x:BJ xs.length=>#[Value.int .i64 (x.1:Int),.int .u64 (lim xs x.1)]) (Keep2 b Bs)
  (fun ys=>ys=CO xs.length xs.length) (fun pre=>∃k,k<=xs.length/\pre=CO xs.length k) xs.length w:=fun l J Jx W hW _ _ hY h0=>by
 have d:=(hW.cell (p:=⟨Bs,0,none⟩) a).trans hc
 rcases hI.keep (Keep2.of_below hW hb a) with⟨rfl,cap,rfl⟩|⟨off,cap,rfl,aa⟩
 .exact(II F n hf s l Bs cap J W d h0).mono fun e W' ⟨he,hj⟩=>⟨he,.inl ⟨_,rfl,hj⟩⟩
 exact(Pq F n hf s hn l Bs b off cap xs hl J Jx hY W d aa h0).mono fun e W' h=>h
end Nt
end
section
open Go.RowKit Go.Sort Go.Lib Go.Shelf
namespace Nt
theorem KO(w:World)(T:TypeId)(nd:Nat)(hs:nd<=24):Holds (fun(b:UInt8)=>Value.int .u8 (b.toNat:Int)) (w.alloc (.cells zeros24 T)) w.heap.size 0 (Array.replicate nd (0:UInt8)):=fun j hj=>by
 have a:j<nd:=by simpa using hj
 refine⟨?_,World.frozen?_alloc_new _ _ _ _⟩;rw[World.cell?_alloc_new,zm,zeros24_at _ (by omega),getElem!_pos _ j hj];simp
theorem JT(w:World)(o:Obj)(dk:Array UInt8)(k:Nat):Below w.heap.size w ((putRow (fun(b:UInt8)=>Value.int .u8 (b.toNat:Int)) (w.alloc o) w.heap.size 0 dk).drewN k):=by
 rw[alloc_eq_grow];obtain⟨os',_,e⟩:=putRow_grow_new (fun(b:UInt8)=>Value.int .u8 (b.toNat:Int)) w #[o] w.heap.size 0 dk (zB _);rw[e];exact(H9 w os').trans (by have:=GO (grow w os') k;exact this.mono (by simp[grow]))
theorem G4(u:Nat)(a:u<18446744073709551616)(w:World)(ab:Lib.TabIs prog w "internal/strconv.uint64pow10" .u64 Lib.pow10Tab):
 Calls prog 181 #[.int .u64 u,.int .i64 10] w fun e w'=>e=.returned (.string ⟨(Lib.decDigits u).toArray⟩)/\Below w.heap.size w w':=by
 by_cases hs:u<100
 .go_enter func181,ntmps181
  go_wp2_with (go_at_call 197;refine(Tryz.internal_strconv_small u hs _).mono ?_;rintro e w' ⟨rfl,rfl⟩)
  go_ret;exact⟨rfl,zI _ _⟩
 have ad:1<=u:=by omega
 have ae:Lib.nDigits u<=20:=by have:=Lib.numDigits_eq u ad a;split at this<;>omega
 have aa:prog.arrayLen 205=24:=by kernel_rfl
 have ag:∀W,(Instr.sliceAt 205 (.pointer (some ⟨w.heap.size,0,none⟩)) none (some (.int .i64 (Lib.nDigits u:Int))) none).run prog W=.ok (.slice (some ⟨w.heap.size,0,none⟩) (Lib.nDigits u) 24) W:=fun W=>by
  rw[run_sliceAt_array_h W 205 ⟨w.heap.size,0,none⟩ (by kernel_rfl) .i64 (Lib.nDigits u:Int) (by omega) (by rw[aa];omega)];go_simp
 have s:=KO w 205 (Lib.nDigits u) (by omega);have d:=Tryz.internal_strconv_formatBase10 w.heap.size 0 24 u (Array.replicate (Lib.nDigits u) 0) (w.alloc (.cells zeros24 205)) s (by rw[ww];exact Lib.lt_pow_nDigits u) a (by rw[ww];omega);rw[ww]at d;have HH0:=zh s;clear s aa;go_enter func181,ntmps181
 go_wp2_with (first
  |(go_at_call 198;refine(Tryz.internal_strconv_numDigits u ad a _ (Lib.tabIs_alloc ab _)).mono ?_;rintro e w' ⟨rfl,rfl⟩))
 go_at_call 199;refine d.mono ?_;rintro e w' ⟨rfl,k,v',dk,rfl,hF⟩
 have af:(convert 145 9 (.slice (some ⟨w.heap.size,0,none⟩) (Lib.nDigits u) 24)).run prog ((putRow (fun(b:UInt8)=>Value.int .u8 (b.toNat:Int)) (w.alloc (.cells zeros24 205)) w.heap.size 0 dk).drewN k)=.ok (.string ⟨(Lib.decDigits u).toArray⟩) ((putRow (fun(b:UInt8)=>Value.int .u8 (b.toNat:Int)) (w.alloc (.cells zeros24 205)) w.heap.size 0 dk).drewN k):=by
  have h:=run_convert_bytes_back (P:=prog) ((putRow (fun(b:UInt8)=>Value.int .u8 (b.toNat:Int)) (w.alloc (.cells zeros24 205)) w.heap.size 0 dk).drewN k) 145 9 5 ⟨w.heap.size,0,none⟩ 24 (Lib.decDigits u) underlying145 underlying5 underlying9 (fun j hj=>by
   rw[Lib.row_is_numeral hF j hj,Lib.add_plain,World.cell?_drewN];exact cell?_putRow (fun(b:UInt8)=>Value.int .u8 (b.toNat:Int)) _ w.heap.size 0 _ dk HH0.o (by rw[hF.size,ww]) j (by rw[hF.size];rw[Lib.decDigits_length]at hj;exact hj))
  rw[Lib.decDigits_length]at h;exact h
 go_wp2;go_ret;exact⟨rfl,JT _ _ _ _⟩
theorem M7(u:Nat)(d:u<18446744073709551616)(w:World)(a:Lib.TabIs prog w "internal/strconv.uint64pow10" .u64 Lib.pow10Tab):
 Calls prog 154 #[.int .u64 u,.int .i64 10] w fun e w'=>e=.returned (.string ⟨(Lib.decDigits u).toArray⟩)/\Below w.heap.size w w':=by
 go_enter func154,ntmps154
 go_wp2_with (go_at_call 181;refine(G4 u d _ a).q fun w' hb=>?_)
 go_ret;exact⟨rfl,hb⟩
end Nt
end
section
open Go.RowKit Go.Shelf
attribute [local go_sem] wU
namespace Nt
def F8(xs:List Nat)(x:BJ xs.length):List UInt8:=if x.1<xs.length-1 then KM (lim xs x.1) else Lib.decDigits (lim xs x.1)
def txt(xs:List Nat)(pre:List (BJ xs.length)):List UInt8:=pre.foldl (fun a x=>a++F8 xs x) []
theorem HU(xs:List Nat)(pre:List (BJ xs.length))(x:BJ xs.length):txt xs (pre++[x])=txt xs pre++F8 xs x:=by
 simp[txt,List.foldl_append]
theorem Wi{x:Nat}(h:x<1000000000):(Lib.decDigits x).length<=9:=AV (by simpa using h) (by omega)
theorem Pr{xs:List Nat}(hx:InR xs)(x:BJ xs.length):(F8 xs x).length<=9:=by
 unfold F8
 split
 .rw[KN (hx.lim _)];omega
 exact Wi (hx.lim _)
theorem O7{xs:List Nat}(hx:InR xs)(pre:List (BJ xs.length)):(txt xs pre).length<=9*pre.length:=by
 have key:∀(pre:List (BJ xs.length)) (a:List UInt8),(pre.foldl (fun a x=>a++F8 xs x) a).length<=a.length+9*pre.length:=by
  intro pre
  induction pre with
  |nil=>intro a;simp
  |cons x pre ih=>
   intro a;have h1:=ih (a++F8 xs x);have h2:=Pr hx x;simp only[wV,zn,zY]at h1 ⊢;omega
 have:=key pre []
 simpa [txt] using this
theorem Rg{xs:List Nat}(hx:Canon xs)(_h0:xs≠[])(k:Nat)(hk:k<xs.length):
 txt xs (CO xs.length (k+1))=Lib.decDigits ((lv (xs.drop (xs.length-1-k))))/\0<lv (xs.drop (xs.length-1-k)):=by
 have a:0<xs.length:=by omega
 induction k with
 |zero=>
  have hd:xs.drop (xs.length-1-0)=[lim xs (xs.length-1)]:=by
   rw[Nat.sub_zero,wA (by omega),DY _ _ (by omega),List.drop_of_length_le (by omega)]
  have d:lim xs (xs.length-1)≠0:=by
   have:=hx.2;rw[List.getLast?_eq_getElem?,yR (by omega)]at this;rw[DY _ _ (by omega)];intro e;exact this (congrArg some e)
  rw[hd];simp only[lv,vk,xH];refine⟨?_,by omega⟩;rw[CP _ _ a,Dv,HU];simp[txt,F8]
 |succ k ih=>
  obtain⟨h1,h2⟩:=ih (by omega)
  have hd:xs.drop (xs.length-1-(k+1))=lim xs (xs.length-1-(k+1))::xs.drop (xs.length-1-k):=by
   rw[wA (by omega),DY _ _ (by omega),show xs.length-1-(k+1)+1=xs.length-1-k by omega]
  rw[hd];simp only[lv];refine⟨?_,by omega⟩;rw[CP _ _ hk,HU,h1,F8,zE (by dsimp only;omega)];dsimp only;rw[Nat.add_comm (lim xs (xs.length-1-(k+1))),zw 1000000000];exact(HJ _ _ h2 (InR.lim hx.1 _)).symm
theorem TA{xs:List Nat}(hx:Canon xs)(h0:xs≠[]):txt xs (CO xs.length xs.length)=Lib.decDigits (lv xs):=by
 have a:0<xs.length:=List.length_pos_iff.2 h0;have:=(Rg hx h0 (xs.length-1) (by omega)).1;rw[Nat.sub_self,List.drop_zero,Nat.sub_add_cancel a]at this;exact this
theorem Ps(w:World)(a:Option Addr)(cap:Nat):
 Calls prog 116 #[.slice a 0 cap] w fun e w'=>e=.returned (.tuple #[.string ⟨#[48]⟩,.int .i64 0])/\Below w.heap.size w w':=by
 go_enter func116,ntmps116;go_wp2;go_ret2;exact⟨rfl,(zI _ w).alloc (zB _) _⟩
def UO(w W1:World)(sv:Value)(xs:List Nat)(pre:List (BJ xs.length))(W:World):Prop :=
 Lib.IsBuilderF 169 5 (w.heap.size+1) (w.heap.size+1) (Lib.byteCells (txt xs pre)) W/\Below (w.heap.size+1) W1 W/\W.heap[w.heap.size+1+1]? = some (.cells #[sv] 135 (0,0))
theorem D7{A B:World}{row:Option Nat}{b:Nat}{c:Array Value}{t:TypeId}{f:Nat×Nat}(h:A.heap[b]? = some (.cells c t f))(hg:A.grownBy B row)(hr:∀r,row=some r->∃o:Obj,A.heap[r]? = some o/\o.isCells=false):
 B.heap[b]? = some (.cells c t f):=by
 rw[hg.block b (Array.getElem?_eq_some_iff.1 h).1 (fun e=>?_)]
 .exact h
 obtain⟨o,ho,hc⟩:=hr b e.symm;rw[h]at ho
 cases ho
 cases hc
theorem EO{A B:World}{row:Option Nat}{T e:TypeId}{n b:Nat}{p:Value}{bs:List Value}(h:Lib.BuilderAtF T e n b p bs A)(hg:A.grownBy B row)(hr:∀r,row=some r->∃o:Obj,A.heap[r]? = some o/\o.isCells=false):
 Lib.BuilderAtF T e n b p bs B:=by
 obtain⟨h1,v,h2,h3,h4⟩:=h;refine⟨h1,v,D7 h2 hg hr,?_,h4⟩;obtain⟨h5,h6⟩:=h3;refine⟨h5,?_⟩
 rcases h6 with h6|⟨g,cap,cur,fz,k1,k2,k3,k4⟩
 .exact .inl h6
 exact .inr ⟨g,cap,cur,fz,k1,k2,D7 k3 hg hr,k4⟩
theorem JU{A B:World}{row:Option Nat}{T e:TypeId}{n b:Nat}{bs:List Value}(h:Lib.IsBuilderF T e n b bs A)(hg:A.grownBy B row)(hr:∀r,row=some r->∃o:Obj,A.heap[r]? = some o/\o.isCells=false):
 Lib.IsBuilderF T e n b bs B:=h.elim (fun k=>.inl (EO k hg hr)) (fun k=>.inr (EO k hg hr))
theorem EG{A B:World}{T e:TypeId}{n b:Nat}{p:Value}{bs:List Value}(h:Lib.BuilderAtF T e n b p bs A)(hb:Below A.heap.size A B):Lib.BuilderAtF T e n b p bs B:=by
 obtain⟨h1,v,h2,h3,h4⟩:=h;have key:∀{g:Nat} {o:Obj},A.heap[g]? = some o->B.heap[g]? = some o:=fun h=>(hb.block _ (Array.getElem?_eq_some_iff.1 h).1).trans h;refine⟨h1,v,key h2,?_,h4⟩;obtain⟨h5,h6⟩:=h3;refine⟨h5,?_⟩
 rcases h6 with h6|⟨g,cap,cur,fz,k1,k2,k3,k4⟩
 .exact .inl h6
 exact .inr ⟨g,cap,cur,fz,k1,k2,key k3,k4⟩
theorem F9{A B:World}{T e:TypeId}{n b:Nat}{bs:List Value}(h:Lib.IsBuilderF T e n b bs A)(hb:Below A.heap.size A B):Lib.IsBuilderF T e n b bs B :=
 h.elim (fun k=>.inl (EG k hb)) (fun k=>.inr (EG k hb))
theorem KeepsOthers.of_others{W W':World}{t:TypeId}{b:Nat}{cs:Array Value}{T:TypeId}{fz:Nat×Nat}(h:Lib.OthersKept t (some b) W W')(hs:W.heap.size<=W'.heap.size)(hb:W.heap[b]? = some (.cells cs T fz)):KeepsOthers W W' :=
 ⟨hs,fun k o hk ho=>h k o hk (fun e=>by cases e;rw[hb]at hk;cases hk;cases ho) (fun c f e=>by subst e;cases ho)⟩
theorem Rh(c:Nat):Lib.repeatL (⟨#[48]⟩:ByteArray).data.toList c=List.replicate c 48:=by
 induction c with
 |zero=>rfl
 |succ c ih=>rw[Lib.repeatL,ih];rfl
theorem E3(l:List UInt8):Lib.strCells ⟨l.toArray⟩=Lib.byteCells l:=rfl
theorem Wj(w:World)(o1 o2 o3:Obj):
 (((w.alloc o1).alloc o2).alloc o3).heap[w.heap.size]? = some o1/\(((w.alloc o1).alloc o2).alloc o3).heap[w.heap.size+1]? = some o2 /\
 (((w.alloc o1).alloc o2).alloc o3).heap[w.heap.size+1+1]? = some o3/\(((w.alloc o1).alloc o2).alloc o3).heap.size=w.heap.size+3/\Below w.heap.size w (((w.alloc o1).alloc o2).alloc o3) :=
 ⟨(yZ _ _ _ (by simp;omega)).trans ((yZ _ _ _ (by simp)).trans (zo _ _)),
  (yZ _ _ _ (by simp)).trans (by have:=zo (w.alloc o1) o2;simpa using this),
  by have:=zo ((w.alloc o1).alloc o2) o3;simpa using this,by simp,
  (((zI _ w).alloc (zB _) _).alloc (by simp) _).alloc (by simp;omega) _⟩
def Dp(l:List UInt8):Value:=if 300<l.length then .tuple #[.string ⟨#[]⟩,.int .i64 2] else .tuple #[.string ⟨l.toArray⟩,.int .i64 0]
def KP(l:List UInt8)(w:World)(e:Ending)(w':World):Prop:=e=.returned (Dp l)/\Below w.heap.size w w'
theorem EH{W W':World}{e:TypeId}{b:Option Nat}(h:Below W.heap.size W W'):Lib.OthersKept e b W W' :=
 fun k _ hk _ _=>(h.block k (Array.getElem?_eq_some_iff.1 hk).1).trans hk
theorem Ia{w W1 W W':World}{sv:Value}{xs:List Nat}{pre:List (BJ xs.length)}{x:BJ xs.length}{b:Nat}{bs:List UInt8}{a:Act}{Ix:Code->List (BJ xs.length)->World->Prop}
 (s1:Lib.IsBuilderF 169 5 (w.heap.size+1) (w.heap.size+1) (Lib.byteCells (txt xs pre)) W)(s2:Below (w.heap.size+1) W1 W)(s3:W.heap[w.heap.size+1+1]? = some (.cells #[sv] 135 (0,0)))
 (hI:Lib.IsBuilderF 169 5 (w.heap.size+1) (w.heap.size+1) (Lib.byteCells (txt xs pre++bs)) W')(hb:Below (w.heap.size+1) W W')(ho:Lib.OthersKept 5 (some (w.heap.size+1)) W W')(d:b<w.heap.size)
 (hp:F8 xs x=bs):
 ownPostK (Keep2 b (w.heap.size+1+1)) (UO w W1 sv xs) Ix (pre++[x]) W .normal a W':=by
 have k3:W'.heap[w.heap.size+1+1]? = some (.cells #[sv] 135 (0,0)):=ho _ _ s3 (by intro e;injection e with e;omega) (by intro c f e;injection e with e1 e2;cases e2);refine⟨?_,⟨hb.block b (by omega),k3.trans s3.symm⟩,?_,s2.trans hb,k3⟩
 .rcases s1 with⟨_,v,h,_⟩|⟨_,v,h,_⟩
  .exact KeepsOthers.of_others ho hb.size h
  exact KeepsOthers.of_others ho hb.size h
 rw[HU,hp];exact hI
theorem Pt(w:World)(a:Option Addr)(cap:Nat)(xs:List Nat)(hl:xs.length<=200)(hx:Hid (Canon xs))(h0:0<xs.length)(b:Nat)(hb:b<w.heap.size)
 (ha:Hid (SlAt w b (.slice a xs.length cap) xs))(hE:Hid (Env w)):
 Calls prog 116 #[.slice a xs.length cap] w (KP (Lib.decDigits (lv xs)) w):=by
 have aM:((xs.length:Int)==0)=false:=by rw[zJ];omega
 refine(callsIn_wide (n:=9)).1 ?_;refine callsIn_of_wp_marks func116 rfl trivial ?_ rfl;simp only[ntmps116,wF,zn,yc,Nat.reduceAdd,Nat.reduceSub,xh,xi,wG,xq,yW,xB]
 gi_wp2_with (first
  |(refine⟨trivial,?_⟩;gi_at_call 149;refine(Dw Fence.wide _ trivial rfl _ _ _ _).mono ?_;rintro e w' ⟨rfl,rfl⟩)
  |(gi_at_call 149;refine(Dw Fence.wide _ trivial rfl _ _ _ _).mono ?_;rintro e w' ⟨rfl,rfl⟩))
 obtain⟨f1,f2,f3,f4,f5⟩:=Wj w (.cells #[.slice a xs.length cap] 135) (.cells #[.pointer none,.slice none 0 0] 169) (.cells #[.slice a xs.length cap] 135);generalize ((w.alloc (.cells #[.slice a xs.length cap] 135)).alloc (.cells #[.pointer none,.slice none 0 0] 169)).alloc (.cells #[.slice a xs.length cap] 135)=W1 at f1 f2 f3 f4 f5 ⊢;have ao:W1.cell? ⟨w.heap.size+1+1,0,none⟩=some (.slice a xs.length cap):=by simp[World.cell?,f3]
 have an:W1.cell? ⟨w.heap.size,0,none⟩=some (.slice a xs.length cap):=by simp[World.cell?,f1]
 have au:SlAt W1 b (.slice a xs.length cap) xs:=ha.o.keep (c:=b) (Keep2.of_below f5 hb hb)
 refine wpIn_rangeFunc_ownF rfl (by decide) (gf:=178) (lb:=#[.pointer (some ⟨w.heap.size+1+1,0,none⟩)]) rfl trivial (enters_of func178 (by kernel_rfl) rfl)
  (FI Fence.wide _ trivial rfl (by decide) (w.heap.size+1+1) b _ xs (by omega) W1 (by omega) (by omega) ao au) (fun h k=>h.trans k)
  (fun W l o o' hl h ho hw=>?kb) (zI _ _) (fun _=>rfl)
  (UO w W1 (.slice a xs.length cap) xs) (fun _ _ _=>False)
  (fun s A B row hs hg hr=>?own)
  (fun _ _ _ _ _ hs _ _=>hs)
  ⟨.inl ⟨zB _,.slice none 0 0,f2,World.ownsRowF_nil _ _ _ _,by simp[Value.ownBlock]⟩,zI _ _,f3⟩
  (fun x=>{ tmps:=#[.slice a xs.length cap,.pointer (some ⟨w.heap.size,0,none⟩),.string ⟨#[]⟩,.int .i64 0,.pointer (some ⟨w.heap.size+1,0,none⟩),.int .i64 (x.1:Int),.int .u64 (lim xs x.1),undef,.slice a xs.length cap,
    .int .i64 xs.length,.bool false,.slice a xs.length cap,.func (.func 178) #[] #[.pointer (some ⟨w.heap.size+1+1,0,none⟩)],.int .i64 (x.1:Int),.int .u64 (lim xs x.1),
    undef,undef,undef,undef,undef,undef,undef,undef,undef,undef,undef,undef,undef,undef,undef,undef,undef],defers:=[] })
  ?assign ?body ?done ?stop
 case kb=>
  have h1:=(Array.getElem?_eq_some_iff.1 h).1;exact⟨xN (by omega),xN (by omega)⟩
 case own=>
  obtain⟨s1,s2,s3⟩:=hs;have aH:=fun r e=>(hr r e).2;exact⟨JU s1 hg aH,s2.grown hg (by have:=s2.size;omega) (fun k e=>by have:=(hr k e).1;omega),D7 s3 hg aH⟩
 case assign=>
  intro l x W K hK
  gi_wp2
  exact hK
 case body=>
  rintro l pre x W ⟨s1,s2,s3⟩ aa;have aD:=InR.lim hx.o.1 x.1;have h9:=Wi aD;have aR:=x.2;have ax:Env W:=hE.o.below (f5.trans (s2.mono (by omega)));have af:=M7 (lim xs x.1) (by omega) W ax.tab;have aA:=(s2.cell (p:=⟨w.heap.size,0,none⟩) (by simp)).trans an;have aj:=O7 hx.o.1 pre;have aF:F8 xs x=if x.1<xs.length-1 then KM (lim xs x.1) else Lib.decDigits (lim xs x.1):=rfl
  have aG:KM (lim xs x.1)=List.replicate (9-(Lib.decDigits (lim xs x.1)).length) 48++Lib.decDigits (lim xs x.1):=rfl;have HP:=zh aF;have HPD:=zh aG;replace s1:=zh s1;replace s2:=zh s2;replace s3:=zh s3;replace aj:=zh aj;have F4:=zh f4;clear aF aG au f1 f2 f3 ao an f4 ax;generalize ak:Lib.decDigits (lim xs x.1)=dl at h9 af HP HPD;clear ak;have ar:=s2.o.size;have aN:w.heap.size+2<W.heap.size:=by have:=F4.o;omega
  replace ar:=zh ar
  by_cases hq:x.1<xs.length-1
  .obtain ⟨c,hc⟩:∃c:Nat,(9:Int)-(dl.length:Int)=(c:Int):=⟨9-dl.length,by omega⟩;have HC:Hid (c=9-dl.length):=by unfold Hid;omega
   have aL:(x.1:Int)<(xs.length:Int)-1:=by omega
   gi_wp2_with (first
    |(refine⟨trivial,?_⟩;gi_at_call 154;refine(ye l (callsIn_wide.2 af)).q fun w2 d=>?_;have aB:=(d.cell (p:=⟨w.heap.size,0,none⟩) (by simp;omega)).trans aA;replace d:=zh d))
   refine⟨trivial,?_⟩;refine(ye l (callsIn_wide.2 (Tryz.strings_Repeat ⟨#[48]⟩ c w2 (by omega) (by simp[ByteArray.size];omega)))).q fun w3 ab=>?_;have ad:Below W.heap.size W w3:=d.o.trans (ab.mono d.o.size);have aP:=ad.size;have ai:Lib.repeatL (⟨#[48]⟩:ByteArray).data.toList c=List.replicate c 48:=Rh c;rw[ai];clear ai ab d;have av:=DX (w.heap.size+1) (w.heap.size+1) (Lib.byteCells (txt xs pre)) ⟨(List.replicate c 48).toArray⟩ w3 (F9 s1.o ad) (by rw[vA];have:=aj.o;simp[ByteArray.size];omega) (by omega);generalize ai:List.replicate c (48:UInt8)=rl at av ⊢;have HRL:=zh ai;replace ad:=zh ad;clear ai
   gi_wp2_with (first
    |(refine⟨trivial,?_⟩;gi_at_call 155;refine(ye l (callsIn_wide.2 av)).q fun w4 ⟨aJ,az,aK⟩=>?_;clear av))
   refine⟨trivial,?_⟩;have aQ:=az.size;refine(ye l (callsIn_wide.2 (DX (w.heap.size+1) (w.heap.size+1) _ ⟨dl.toArray⟩ w4 aJ (by rw[zY,vA,Lib.strCells_length];have:=aj.o;have:=HRL.o;subst this;simp[ByteArray.size];omega) (by omega)))).q fun w5 ⟨ae,am,aq⟩=>?_
   gi_wp2
   refine Ia s1.o s2.o s3.o (bs:=rl++dl) ?_ (by have:=ad.o.mono (show w.heap.size+1<=W.heap.size by omega);exact(this.trans az).trans am) (((EH ad.o).trans aK).trans aq) (by omega) ?_
   .rw[E3,E3]at ae;rw[Lib.byteCells_append,Lib.byteCells_append,<-xS];exact ae
   rw[HP.o,zE hq,HPD.o,<-HRL.o,HC.o]
  .have aL:¬(x.1:Int)<(xs.length:Int)-1:=by omega
   gi_wp2_with (first
    |(refine⟨trivial,?_⟩;gi_at_call 154;refine(ye l (callsIn_wide.2 af)).q fun w2 d=>?_;have aB:=(d.cell (p:=⟨w.heap.size,0,none⟩) (by simp;omega)).trans aA;replace d:=zh d))
   refine⟨trivial,?_⟩;have aO:=d.o.size;refine(ye l (callsIn_wide.2 (DX (w.heap.size+1) (w.heap.size+1) (Lib.byteCells (txt xs pre)) ⟨dl.toArray⟩ w2 (F9 s1.o d.o) (by rw[vA];have:=aj.o;simp[ByteArray.size];omega) (by omega)))).q fun w5 ⟨ae,am,aq⟩=>?_
   gi_wp2
   refine Ia s1.o s2.o s3.o (bs:=dl) ?_ (by have:=d.o.mono (show w.heap.size+1<=W.heap.size by omega);exact this.trans am) ((EH d.o).trans aq) (by omega) ?_
   .rw[E3]at ae;rw[Lib.byteCells_append];exact ae
   .rw[HP.o,zC hq]
 case done=>
  rintro D zs W hD rfl ⟨s1,s2,s3⟩ hK;have aI:=TA hx.o (List.length_pos_iff.1 h0)
  have ag:(txt xs (CO xs.length xs.length)).length<=1800:=by
   have:=O7 (xs:=xs) hx.o.1 (CO xs.length xs.length);rw[GQ _ _ (zB _)]at this;omega
  rw[aI]at s1 ag;have aC:=AX (lv xs);generalize ak:Lib.decDigits (lv xs)=dl at s1 ag aC;have HDL:=zh ak;clear ak;have ar:=s2.size;have hS:=s1;have aw:Below w.heap.size w W:=f5.trans (s2.mono (by omega));replace s1:=zh s1;replace s2:=zh s2;replace s3:=zh s3;have HK:=zh hK;have HBW:=zh aw;have F4:=zh f4;clear au f1 f2 f3 ao an f4 hK aw aI;have aa:=Tryz.Builder_Len_f (w.heap.size+1) (w.heap.size+1) (Lib.byteCells dl) W hS;rw[vA]at aa;clear hS
  by_cases h300:300<dl.length
  .have ah:Dp dl=.tuple #[.string ⟨#[]⟩,.int .i64 2]:=by unfold Dp;rw[zE h300]
   have HLV:=zh ah;clear ah
   gi_wp2_with (first
    |(refine⟨trivial,?_⟩;gi_at_call 157;refine(callsIn_wide.2 aa).mono ?_;rintro e w2 ⟨rfl,rfl⟩))
   refine⟨by simp,.inl ⟨_,_,rfl,vC HK.o,?_⟩⟩;refine⟨.tuple #[.string ⟨#[]⟩,.int .i64 2],by simp[results,results116,go_sem],by rw[HDL.o,HLV.o],?_⟩;exact HBW.o.grown (wC _ D (.deferred none)) HBW.o.size (fun k e=>by cases e;have:=F4.o;omega)
  .have ah:Dp dl=.tuple #[.string ⟨dl.toArray⟩,.int .i64 0]:=by unfold Dp;rw[zC h300]
   have HLV:=zh ah;clear ah
   gi_wp2_with (first
    |(refine⟨trivial,?_⟩;gi_at_call 157;refine(callsIn_wide.2 aa).mono ?_;rintro e w2 ⟨rfl,rfl⟩))
   have al:=Any.Builder_String_k Tryz.lays169 Tryz.Builder_Extra_169 (w.heap.size+1) (w.heap.size+1) dl w2 s1.o aC;refine⟨trivial,?_⟩;refine(callsIn_wide.2 al).q fun w3 ⟨_,ab,aE⟩=>?_;have ay:w3.heap[D]? = some (.deferred (some [])):=aE D _ HK.o (by intro e;injection e with e;have:=F4.o;omega) (by intro c f e;cases e);have HK3:=zh ay;replace ab:=zh ab;clear aa al ay aE
   gi_wp2
   refine⟨by simp,.inl ⟨_,_,rfl,vC HK3.o,?_⟩⟩;refine⟨.tuple #[.string ⟨dl.toArray⟩,.int .i64 0],by simp[results,results116,go_sem],by rw[HDL.o,HLV.o],?_⟩;exact(HBW.o.trans (ab.o.mono (by omega))).grown (wC _ D (.deferred none)) (by have:=ab.o.size;have:=HBW.o.size;omega) (fun k e=>by cases e;have:=F4.o;omega)
 case stop=>
  rintro D c pre W _ _ h _;exact h.elim
theorem Ed(w:World)(v:Value)(n:Nat)(hn:Num w v n)(aa:Cd n)(hE:Env w):
 Calls prog 116 #[v] w (KP (Lib.decDigits n) w):=by
 obtain⟨xs,hx,rfl,d⟩:=hn;have hl:=hx.len_le (k:=200) aa
 obtain ⟨b,hb,h⟩:∃b,b<w.heap.size/\SlAt w b v xs:=by
  rcases d.shape with⟨rfl,rfl⟩|⟨b,off,cap,rfl,hb,_,hc⟩
  .exact⟨0,hE.pos,.inl ⟨rfl,0,rfl⟩⟩
  exact⟨b,hb,.inr ⟨off,cap,rfl,hc⟩⟩
 obtain⟨a,cap,rfl,_⟩:=d.addr
 by_cases h0:xs=[]
 .subst h0;refine(Ps w a cap).q fun w' s=>?_;refine⟨?_,s⟩;rw[lv,wZ (by omega)];rfl
 exact Pt w a cap xs hl hx (List.length_pos_iff.2 h0) b hb h hE
end Nt
end
section
open Go.RowKit
namespace Nt
theorem KQ:(prog.info? 154).map (fun i=>(i.zero,i.size,i.bytes))=some (some (.int .u64 0),1,8):=by kernel_rfl
theorem E4(n:Nat)(hn:n<=1000000)(w:World):
 (Instr.makeSlice 135 (.int .i64 (n:Int)) (.int .i64 (n:Int))).run prog w =
   .ok (.slice (some ⟨w.heap.size,0,none⟩) n n) (w.alloc (.cells (madeCells #[.int .u64 0] n) 154)) :=
 xG 135 154 (.int .u64 0) 8 underlying135 KQ rfl .i64 .i64 n (by omega) (by omega) w
theorem Ri{X Y Z B x y br z br':Nat}(h:Z+Y=X+br*B)(e:z+(y+br)=x+br'*1000000000):
 (Z+B*z)+(Y+B*y)=(X+B*x)+br'*(B*1000000000):=by
 have e2:B*z+(B*y+B*br)=B*x+B*(br'*1000000000):=by
  rw[<-yQ,<-yQ,<-yQ,e]
 have e3:br*B=B*br:=zw _ _;have e4:B*(br'*1000000000)=br'*(B*1000000000):=by rw[<-zz,zw B br',zz]
 omega
def RelSub(B:Nat)(w:World)(xs ys:List Nat)(g:Nat)(k br:Nat)(wr:World):Prop :=
 ∃zs,zs.length=xs.length/\InR zs/\Row 154 wr g zs/\br<=1/\lo zs k+lo ys k=lo xs k+br*1000000000^k/\Below B w wr
theorem RelSub.step{B:Nat}{w wr:World}{xs ys:List Nat}{g k br:Nat}(h:RelSub B w xs ys g k br wr)(hB:B<=g)(hk:k<xs.length){z br':Nat}
 (hz:z<1000000000)(a:br'<=1)(e:z+(lim ys k+br)=lim xs k+br'*1000000000):
 RelSub B w xs ys g (k+1) br' (wr.setCell ⟨g,k,none⟩ (.int .u64 (z:Int))):=by
 obtain⟨zs,h1,h2,h3,h4,h5,h6⟩:=h;refine⟨zs.set k z,by simpa using h1,h2.set k z hz,h3.set k z,a,?_,h6.setCell hB _⟩;rw[Cw,Cw,Cw,Ve,Hv _ _ _ (by omega),zy];exact Ri h5 e
theorem RelSub.step'{B:Nat}{w wr:World}{xs ys:List Nat}{g k br:Nat}(h:RelSub B w xs ys g k br wr)(hB:B<=g)(hk:k<xs.length){z br':Nat}{y:Int}
 (hz:z<1000000000)(a:br'<=1)(e:z+(lim ys k+br)=lim xs k+br'*1000000000)(hy:y=(z:Int)):
 RelSub B w xs ys g (k+1) br' (wr.setCell ⟨g,k,none⟩ (.int .u64 y)):=by
 subst hy;exact h.step hB hk hz a e
def CG(B:Nat)(w:World)(n:Nat)(e:Ending)(w':World):Prop :=
 ∃v,e=.returned v/\Num w' v n/\From B v/\Below B w w'
theorem Rj(w:World)(a:Option Addr)(cap:Nat)(xs:List Nat)(c:Option Addr)(cap':Nat)(ys:List Nat)(hl:xs.length<=100000)(ao:ys.length<=xs.length)
 (hx:InR xs)(hy:InR ys)(am:lv ys<=lv xs)
 (ha:xs≠[]->∃b off,a=some ⟨b,off,none⟩/\b<w.heap.size/\∀i,i<xs.length->w.cell? ⟨b,off+i,none⟩=some (.int .u64 (lim xs i)))
 (hc:ys≠[]->∃b off,c=some ⟨b,off,none⟩/\b<w.heap.size/\∀i,i<ys.length->w.cell? ⟨b,off+i,none⟩=some (.int .u64 (lim ys i))):
 Calls prog 153 #[.slice a xs.length cap,.slice c ys.length cap'] w (CG w.heap.size w (lv xs-lv ys)):=by
 have ad:=E4 xs.length (by omega);go_enter func153,ntmps153;go_wp2
 go_loopw [6,15] (fun br i wr=>∃k b:Nat,k<=xs.length/\i=.int .i64 k/\br=.int .u64 b/\RelSub w.heap.size w xs ys w.heap.size k b wr)
  (fun _ i _=>xs.length-(intOf i).toNat)
 case atStart=>exact⟨0,0,zO _,rfl,rfl,List.replicate xs.length 0,by simp,InR.zeros _,Row.made0 _ _ _,zO _,by simp[DP],(zI _ _).alloc (zB _) _⟩
 case round=>
  obtain⟨k,b,hk,rfl,rfl,hrel⟩:=hrel
  by_cases hkn:k<xs.length
  .obtain ⟨bx,ox,af,ah,aa⟩:=ha (by intro e;simp[e]at hkn);obtain⟨zs,z1,z2,z3,z4,z5,z6⟩:=id hrel;have ak:=(z6.cell (p:=⟨bx,ox+k,none⟩) ah).trans (aa k hkn);have an:=hx.lim k;have aj:=hy.lim k;have ar:=z3.frozen k;have aq:=z3.cell (i:=k) (by omega);subst af;clear aa ha z2 z3 z5 hx hy ad;replace z6:=zh z6
   by_cases hky:k<ys.length
   .obtain ⟨b2,oy,ag,ai,ab⟩:=hc (by intro e;simp[e]at hky);subst ag;have al:=(Hid.o z6).cell (p:=⟨b2,oy+k,none⟩) ai |>.trans (ab k hky)
    have HR:=zh hrel;clear hrel hc ab z6
    by_cases s:lim xs k<b+lim ys k
    .go_wp2;exact⟨⟨k+1,1,by omega,by go_num,rfl,HR.o.step' (zB _) hkn (z:=lim xs k+1000000000-(b+lim ys k)) (by omega) (by omega) (by omega) (by omega)⟩,by simp only[intOf];omega⟩
    go_wp2;exact⟨⟨k+1,0,by omega,by go_num,rfl,HR.o.step' (zB _) hkn (z:=lim xs k-(b+lim ys k)) (by omega) (by omega) (by omega) (by omega)⟩,by simp only[intOf];omega⟩
   clear hc z6;have d:=G2 ys k (by omega);have HR:=zh hrel;have HY:=zh d;clear hrel aj d
   by_cases s:lim xs k<b
   .go_wp2;have:=HY.o;exact⟨⟨k+1,1,by omega,by go_num,rfl,HR.o.step' (zB _) hkn (z:=lim xs k+1000000000-b) (by omega) (by omega) (by omega) (by omega)⟩,by simp only[intOf];omega⟩
   go_wp2;have:=HY.o;exact⟨⟨k+1,0,by omega,by go_num,rfl,HR.o.step' (zB _) hkn (z:=lim xs k-b) (by omega) (by omega) (by omega) (by omega)⟩,by simp only[intOf];omega⟩
  obtain rfl:k=xs.length:=by omega
  obtain⟨zs,z1,z2,z3,z4,z5,z6⟩:=id hrel;have Z1:=zh z1;have Z5:=zh z5;have ae:=z3.sl;rw[z1]at ae;clear z1 z5 hrel ha hc ad
  go_wp2_with (go_at_call 148;refine(D6 _ _ _ (by have:=Z1.o;omega) ae).mono ?_;rintro e w' ⟨v,k,rfl,ht,hs,hf,rfl⟩)
  go_ret;have e5:=Z5.o;have e1:=Z1.o;rw[DZ _ _ (by omega),DZ _ _ (by omega),DZ _ _ (by omega)]at e5;have s:=KK z2;rw[e1]at s
  have hb:b=0:=by
   rcases yj b with h|h
   .exact h
   have:1*1000000000^xs.length<=b*1000000000^xs.length:=yO _ h;omega
  rw[hb,xr]at e5;exact⟨v,rfl,⟨zs.take k,ht.canon z2,by rw[ht.lv];omega,hs⟩,hf _ (zB _),z6⟩
theorem O8(w:World)(v u:Value)(n m:Nat)(hn:Num w v n)(hm:Num w u m)(d:m<=n)(hb:Cd n):
 Calls prog 153 #[v,u] w (CG w.heap.size w (n-m)):=by
 obtain⟨xs,hx,rfl,h⟩:=hn;obtain⟨ys,hy,rfl,s⟩:=hm;have hl:=hx.len_le (k:=200) hb;have aa:=hy.len_mono hx d;obtain⟨a,cap,rfl,ha⟩:=h.addr;obtain⟨c,cap',rfl,hc⟩:=s.addr;exact Rj w a cap xs c cap' ys (by omega) aa hx.1 hy.1 d ha hc
def Rk(B:Nat)(w:World)(l:List UInt8)(v:Value)(i:Value)(wr:World):Prop :=
 ∃(k e:Nat)(zs:List Nat)(j:Int),i=.int .i64 j/\e=j.toNat/\j+9*k=l.length/\k<=l.length/\-9<j/\InR zs/\Own 154 B wr v k zs/\A0 (l.take e)*1000000000^k+lv zs=A0 l/\Below B w wr
theorem Own.from_block{t:TypeId}{B:Nat}{w:World}{v:Value}{n:Nat}{xs:List Nat}(h:Own t B w v n xs)(b:Nat)(e:v.ownBlock=some b):B<=b:=by
 have:=h.from
 cases v<;>simp[Value.ownBlock]at e
 rename_i a l c
 cases a with
 |none=>simp at e
 |some ad=>simp at e;subst e;exact this
theorem Pu(s:ByteArray)(w:World)(hs:s.size<=1000)(hd:∀c∈s.data.toList,AT c):
 Calls prog 114 #[.string s] w (CG w.heap.size w (A0 s.data.toList)):=by
 obtain⟨i0,hi,ax,ay,az⟩:=vK KQ;have d:s.data.toList.length=s.size:=by simp
 have HSL:=zh d;have HD:=zh hd;clear d hd;go_enter func114,ntmps114;go_wp2
 go_loopw [3,4] (fun v i wr=>Rk w.heap.size w s.data.toList v i wr) (fun _ i _=>(intOf i).toNat)
 case atStart=>
  have:=HSL.o;exact⟨0,s.size,[],s.size,rfl,by simp,by omega,by omega,by omega,fun x hx=>absurd hx (by simp),zq _ _ _ _,by rw[yK (by omega)];simp[lv],zI _ _⟩
 case round=>
  obtain⟨k,e,zs,j,rfl,he,hk,aq,hj,z1,z2,z3,z4⟩:=hrel;have d:=HSL.o;rw[d]at hk aq;clear d;have aw:=z4.size
  by_cases hp:0<j
  .obtain ⟨q,hq⟩:∃q:Nat,j=(q:Int):=⟨j.toNat,by omega⟩;subst hq;have am:e=q:=by omega
   subst am;have au:e<=s.size:=by omega
   obtain⟨a,ha⟩:∃a,a=e-9:=⟨_,rfl⟩;have al:a<=e:=by omega
   have aj:=JS (s.extract a e) (by simp;omega) (A0 ((s.data.toList.take e).drop a)) ?pc wr
   case pc=>
    have e1:(s.extract a e).data.toList=(s.data.toList.take e).drop a:=by rw[Lib.extract_data,List.drop_take]
    rw[e1];refine KL (fun c hc=>HD.o c (yH (wM hc))) ?_ ?_
    .intro h;have:=congrArg List.length h;simp at this;have:=HSL.o;simp at this;omega
    simp;omega
   have ar:A0 ((s.data.toList.take e).drop a)<1000000000:=by
    have h1:=Do (l:=(s.data.toList.take e).drop a) (fun c hc=>HD.o c (yH (wM hc)));have h2:((s.data.toList.take e).drop a).length<=9:=by simp;omega
    exact zL h1 (zV (zW (by omega) h2) (by decide))
   have aa:A0 (s.data.toList.take a)*1000000000^(k+1)+(lv zs+1000000000^k*A0 ((s.data.toList.take e).drop a))=A0 s.data.toList:=by
    have ae:s.data.toList.take e=s.data.toList.take a++(s.data.toList.take e).drop a:=by
     have h1:=(yt a (s.data.toList.take e)).symm;rw[List.take_take,Nat.min_eq_left al]at h1;exact h1
    rw[<-z3]
    conv=>rhs;rw[ae,Bv]
    have ai:((s.data.toList.take e).drop a).length=e-a:=by
     rw[List.length_drop,xY,HSL.o,Nat.min_eq_left au]
    rw[ai]
    rcases yj a with h0|h0
    .rw[h0,xj,EM,xr,xr,zm,zm,zw (1000000000^k)];omega
    have h9:e-a=9:=by omega
    rw[h9,zy,yE,zw (1000000000^k) (A0 _)]
    have:A0 (s.data.toList.take a)*(1000000000^k*1000000000)=A0 (s.data.toList.take a)*10^9*1000000000^k:=by
     rw[zw (1000000000^k),zz,show (10:Nat)^9=1000000000 from rfl]
    omega
   generalize A0 ((s.data.toList.take e).drop a)=x at aj ar aa;replace z1:=zh z1;replace z3:=zh z3;replace z4:=zh z4;replace aa:=zh aa;replace he:=zh he;replace hk:=zh hk;have aC:max (0:Int) ((e:Int)-9)=(a:Int):=by omega
   have HA:=zh ha;clear ha
   go_wp2_with (first
    |(go_at_call 147;refine aj.q fun w1 ab=>?_;replace ab:=zh ab)
    |(at_builtin;refine xT _ rfl _ _ 135 rfl w.heap.size 154 i0 (.int .u64 0) 1 8 underlying135 hi ax ay az rfl (by decide) u3 k (C7 zs) rfl ((z2.below ab.o).alloc _) ⟨w1.heap.size,0,none⟩ 1 1 [.int .u64 (x:Int)] rfl rfl (Cx _ _ _) (Cc _ _) (by unfold maxLen;omega) (by omega) (by have:=ab.o.size;simp;omega) ?_;intro v2 w2 ad ah _))
   have af:=ab.o;have aA:=af.size;rw[FH]at ad;refine⟨⟨k+1,a,zs++[x],(e:Int)-9,rfl,by have:=HA.o;omega,by have:=hk.o;have:=HSL.o;omega,?_,by omega,?_,ad,?_,((z4.o.trans (af.mono aw)).alloc (by omega) _).grown ah (by simp;omega) (fun b e=>z2.from_block b e)⟩,by simp only[intOf];omega⟩
   .have:=hk.o;have:=HSL.o;omega
   .intro y hy
    rcases List.mem_append.1 hy with h|h
    .exact z1.o y h
    simp at h;omega
   rw[Du,z2.len];have:=aa.o;simp only[lv,vk,xH];omega
  obtain rfl:e=0:=by omega
  have d:=z2.sl;have ag:=z2.len;have ao:=z2.from;replace z3:=zh z3;replace ag:=zh ag;replace z4:=zh z4;have aB:¬(0:Int)<j:=hp;have ht:=D6 wr u3 zs (by have:=ag.o;omega) d;obtain⟨a3,l3,c3,e3⟩:∃a l c,u3=.slice a l c:=by obtain⟨a,c,h,_⟩:=d;exact⟨a,_,c,h⟩
  subst e3;clear z2 d he hk
  go_wp2_with (go_at_call 148;refine ht.mono ?_;rintro e w' ⟨v,k',rfl,ak,av,an,rfl⟩)
  go_ret;have:=z3.o;rw[xj,EM,xr,zm]at this;exact⟨v,rfl,⟨zs.take k',ak.canon z1,by rw[ak.lv,this],av⟩,an _ ao,z4.o⟩
def Rl(B:Nat)(w:World)(xs ys:List Nat)(v:Value)(k c:Nat)(wr:World):Prop :=
 ∃zs,InR zs/\Own 154 B wr v k zs/\c<=1/\lv zs+c*1000000000^k=lo xs k+lo ys k/\Below B w wr
theorem Rm{Z X Y P c c' x y:Nat}(h:Z+c*P=X+Y)(hc:c'=(x+c+y)/1000000000):
 Z+P*((x+c+y)%1000000000)+c'*(P*1000000000)=X+P*x+(Y+P*y):=by
 have e1:P*(x+c+y)=P*x+P*c+P*y:=by rw[yQ,yQ]
 have e2:P*(x+c+y)=P*((x+c+y)%1000000000)+P*(1000000000*((x+c+y)/1000000000)):=by rw[<-yQ,Nat.mod_add_div]
 have e3:c'*(P*1000000000)=P*(1000000000*((x+c+y)/1000000000)):=by rw[hc,zw,zz]
 have e4:c*P=P*c:=zw _ _;omega
theorem Hw{B:Nat}{w wr w':World}{xs ys zs:List Nat}{v v':Value}{k c:Nat}{x:Int}(h1:InR zs)(h2:Own 154 B wr v k zs)(h3:c<=1)
 (h4:lv zs+c*1000000000^k=lo xs k+lo ys k)(h5:Below B w wr)(hx:InR xs)(hy:InR ys)(hB:B<=wr.heap.size){o:Obj}
 (a:w'.ownsRow B 154 1 v' (k+1) (C7 zs++[Value.int .u64 x]))(hg:(wr.alloc o).grownBy w' v.ownBlock)(d:∀b,v.ownBlock=some b->B<=b)
 (s:x=(((lim xs k+c+lim ys k)%1000000000:Nat):Int)):
 Rl B w xs ys v' (k+1) ((lim xs k+c+lim ys k)/1000000000) w':=by
 have b1:=hx.lim k;have b2:=hy.lim k;subst s;rw[FH]at a;have hl:=h2.len;refine⟨zs++[(lim xs k+c+lim ys k)%1000000000],?_,a,by omega,?_,(h5.alloc hB o).grown hg (by simp;omega) (fun b e=>d b e)⟩
 .intro y hy
  rcases List.mem_append.1 hy with h|h
  .exact h1 y h
  simp at h;subst h;exact xv _ (by omega)
 rw[Du,hl,Cw,Cw,zy];simp only[lv,vk,xH];exact Rm h4 rfl
theorem Ja(a b c:Nat):((a:Int)+b+c)%1000000000=(((a+b+c)%1000000000:Nat):Int):=by
 rw[vD,yh,yh];rfl
theorem Jb(a b c:Nat):((a:Int)+b+c)/1000000000=(((a+b+c)/1000000000:Nat):Int):=by
 rw[vE,yh,yh];rfl
theorem Jc(a b:Nat):((a:Int)+b)%1000000000=(((a+b)%1000000000:Nat):Int):=by
 rw[vD,yh];rfl
theorem Jd(a b:Nat):((a:Int)+b)/1000000000=(((a+b)/1000000000:Nat):Int):=by
 rw[vE,yh];rfl
theorem O9{B:Nat}{w wr w':World}{xs ys zs:List Nat}{v v':Value}{c:Nat}{x:Int}(h1:InR zs)(h2:Own 154 B wr v xs.length zs)(h3:c<=1)
 (h4:lv zs+c*1000000000^xs.length=lo xs xs.length+lo ys xs.length)(h5:Below B w wr)(aa:ys.length<=xs.length)(hB:B<=wr.heap.size){o:Obj}
 (a:w'.ownsRow B 154 1 v' (xs.length+1) (C7 zs++[Value.int .u64 x]))(hg:(wr.alloc o).grownBy w' v.ownBlock)(d:∀b,v.ownBlock=some b->B<=b)(s:x=(c:Int)):
 ∃us,InR us/\Sl w' v' us/\us.length=xs.length+1/\lv us=lv xs+lv ys/\Below B w w':=by
 subst s;rw[FH]at a;have hl:=h2.len;have ho:Own 154 B w' v' (xs.length+1) (zs++[c]):=a;refine⟨zs++[c],?_,ho.sl,ho.len,?_,(h5.alloc hB o).grown hg (by simp;omega) (fun b e=>d b e)⟩
 .intro y hy
  rcases List.mem_append.1 hy with h|h
  .exact h1 y h
  simp at h;omega
 rw[DZ _ _ (zB _),DZ _ _ aa]at h4;rw[Du,hl];simp only[lv,vk,xH];have:c*1000000000^xs.length=1000000000^xs.length*c:=zw _ _;omega
def KR(B:Nat)(w:World)(xs ys:List Nat)(g cap:Nat)(out carry i:Value)(wr:World):Prop :=
 ∃k c:Nat,k<=xs.length/\i=.int .i64 k/\carry=.int .u64 c/\out=.slice (some ⟨g,0,none⟩) k cap/\Rl B w xs ys out k c wr
theorem Rn(w:World)(a:Option Addr)(cap:Nat)(xs:List Nat)(c:Option Addr)(cap':Nat)(ys:List Nat)(hl:xs.length<=1000)(av:ys.length<=xs.length)
 (hx:InR xs)(hy:InR ys)
 (ha:xs≠[]->∃b off,a=some ⟨b,off,none⟩/\b<w.heap.size/\∀i,i<xs.length->w.cell? ⟨b,off+i,none⟩=some (.int .u64 (lim xs i)))
 (hc:ys≠[]->∃b off,c=some ⟨b,off,none⟩/\b<w.heap.size/\∀i,i<ys.length->w.cell? ⟨b,off+i,none⟩=some (.int .u64 (lim ys i))):
 Calls prog 159 #[.slice a xs.length cap,.slice c ys.length cap'] w (CG w.heap.size w (lv xs+lv ys)):=by
 obtain⟨i0,hi,am,ad,an⟩:=vK KQ;have ar:¬xs.length<ys.length:=by omega
 go_enter func159,ntmps159
 go_wp2_with (at_make;refine wpList_make_own _ rfl _ _ 135 rfl w.heap.size 154 i0 (.int .u64 0) 1 underlying135 hi am ad _ _ _ (xs.length+1) rfl rfl (by omega) (by rw[an];omega) (by unfold maxLen;omega) (zB _) ?_;intro w1 aa ab)
 go_loopw [5,6,22] (fun out carry i wr=>KR w.heap.size w xs ys w.heap.size (xs.length+1) out carry i wr)
  (fun _ _ i _=>xs.length-(intOf i).toNat)
 case atStart=>exact⟨0,0,zO _,rfl,rfl,rfl,[],(fun x hx=>absurd hx (by simp)),aa,zO _,by simp[DP,lv],(zI _ _).grown ab (zB _) (fun k h=>by cases h)⟩
 case round=>
  obtain⟨k,b,hk,rfl,rfl,rfl,zs,z1,z2,z3,z4,z5⟩:=hrel;have ae:=z5.size
  by_cases hkn:k<xs.length
  .obtain ⟨bx,ox,ah,aj,af⟩:=ha (by intro e;simp[e]at hkn);have ao:=(z5.cell (p:=⟨bx,ox+k,none⟩) aj).trans (af k hkn);have au:=hx.lim k;have al:=hy.lim k;subst ah;clear af ha aa ab
   by_cases hky:k<ys.length
   .obtain⟨b2,oy,ai,ak,ag⟩:=hc (by intro e;simp[e]at hky);subst ai;have aq:=z5.cell (p:=⟨b2,oy+k,none⟩) ak |>.trans (ag k hky)
    replace z1:=zh z1;replace z4:=zh z4;replace z5:=zh z5;replace hx:=zh hx;replace hy:=zh hy;have HO:=z2;clear hc ag
    go_wp2_with (at_builtin;refine xx _ rfl _ _ 135 rfl w.heap.size 154 i0 1 underlying135 hi ad w.heap.size k (xs.length+1) (C7 zs) rfl (HO.alloc _) ⟨wr.heap.size,0,none⟩ 1 1 [.int .u64 (((lim xs k:Int)+b+lim ys k)%1000000000)] rfl rfl (Cx _ _ _) (Cc _ _) (by omega) ?_;intro w2 d s)
    refine⟨⟨k+1,(lim xs k+b+lim ys k)/1000000000,by omega,by go_num,congrArg (Value.int .u64) (Jb _ _ _),rfl,?_⟩,by simp only[intOf];omega⟩;exact Hw z1.o z2 z3 z4.o z5.o hx.o hy.o ae d s (fun b e=>by cases e;exact zB _) (Ja _ _ _)
   have HY0:=zh (G2 ys k (by omega));replace z1:=zh z1;replace z4:=zh z4;replace z5:=zh z5;replace hx:=zh hx;replace hy:=zh hy;have HO:=z2;clear hc al
   go_wp2_with (at_builtin;refine xx _ rfl _ _ 135 rfl w.heap.size 154 i0 1 underlying135 hi ad w.heap.size k (xs.length+1) (C7 zs) rfl (HO.alloc _) ⟨wr.heap.size,0,none⟩ 1 1 [.int .u64 (((lim xs k:Int)+b)%1000000000)] rfl rfl (Cx _ _ _) (Cc _ _) (by omega) ?_;intro w2 d s)
   have e0:=HY0.o;refine⟨⟨k+1,(lim xs k+b+lim ys k)/1000000000,by omega,by go_num,?_,rfl,?_⟩,by simp only[intOf];omega⟩
   .rw[e0,xH];exact congrArg (Value.int .u64) (Jd _ _)
   exact Hw z1.o z2 z3 z4.o z5.o hx.o hy.o ae d s (fun b e=>by cases e;exact zB _) (by rw[e0,xH];exact Jc _ _)
  obtain rfl:k=xs.length:=by omega
  replace z1:=zh z1;replace z4:=zh z4;replace z5:=zh z5;have HO:=z2;clear ha hc hx hy aa ab
  go_wp2_with (at_builtin;refine xx _ rfl _ _ 135 rfl w.heap.size 154 i0 1 underlying135 hi ad w.heap.size xs.length (xs.length+1) (C7 zs) rfl (HO.alloc _) ⟨wr.heap.size,0,none⟩ 1 1 [.int .u64 (b:Int)] rfl rfl (Cx _ _ _) (Cc _ _) (by omega) ?_;intro w2 d s)
  obtain⟨us,u1,u2,u3,u4,u5⟩:=O9 z1.o z2 z3 z4.o z5.o (by omega) ae d s (fun b e=>by cases e;exact zB _) rfl;have U3:=zh u3;have U4:=zh u4;clear u3 u4 d s;refine(D6 _ _ us (by have:=U3.o;omega) u2).mono ?_;rintro e w' ⟨v,k,rfl,ht,hs,hf,rfl⟩;go_wp2;go_ret;exact⟨v,rfl,⟨us.take k,ht.canon u1,by rw[ht.lv,U4.o],hs⟩,hf _ (zB _),u5⟩
theorem IJ(w:World)(a:Option Addr)(cap:Nat)(xs:List Nat)(c:Option Addr)(cap':Nat)(ys:List Nat)(hl:xs.length<=1000)(am:ys.length<xs.length)
 (hx:InR xs)(hy:InR ys)
 (ha:xs≠[]->∃b off,a=some ⟨b,off,none⟩/\b<w.heap.size/\∀i,i<xs.length->w.cell? ⟨b,off+i,none⟩=some (.int .u64 (lim xs i)))
 (hc:ys≠[]->∃b off,c=some ⟨b,off,none⟩/\b<w.heap.size/\∀i,i<ys.length->w.cell? ⟨b,off+i,none⟩=some (.int .u64 (lim ys i))):
 Calls prog 159 #[.slice c ys.length cap',.slice a xs.length cap] w (CG w.heap.size w (lv xs+lv ys)):=by
 obtain⟨i0,hi,an,ad,ao⟩:=vK KQ;have au:ys.length<xs.length:=am;go_enter func159,ntmps159
 go_wp2_with (at_make;refine wpList_make_own _ rfl _ _ 135 rfl w.heap.size 154 i0 (.int .u64 0) 1 underlying135 hi an ad _ _ _ (xs.length+1) rfl rfl (by omega) (by rw[ao];omega) (by unfold maxLen;omega) (zB _) ?_;intro w1 aa ab)
 go_loopw [5,6,22] (fun out carry i wr=>KR w.heap.size w xs ys w.heap.size (xs.length+1) out carry i wr)
  (fun _ _ i _=>xs.length-(intOf i).toNat)
 case atStart=>exact⟨0,0,zO _,rfl,rfl,rfl,[],(fun x hx=>absurd hx (by simp)),aa,zO _,by simp[DP,lv],(zI _ _).grown ab (zB _) (fun k h=>by cases h)⟩
 case round=>
  obtain⟨k,b,hk,rfl,rfl,rfl,zs,z1,z2,z3,z4,z5⟩:=hrel;have ae:=z5.size
  by_cases hkn:k<xs.length
  .obtain ⟨bx,ox,ah,aj,af⟩:=ha (by intro e;simp[e]at hkn);have aq:=(z5.cell (p:=⟨bx,ox+k,none⟩) aj).trans (af k hkn);have av:=hx.lim k;have al:=hy.lim k;subst ah;clear af ha aa ab
   by_cases hky:k<ys.length
   .obtain⟨b2,oy,ai,ak,ag⟩:=hc (by intro e;simp[e]at hky);subst ai;have ar:=z5.cell (p:=⟨b2,oy+k,none⟩) ak |>.trans (ag k hky)
    replace z1:=zh z1;replace z4:=zh z4;replace z5:=zh z5;replace hx:=zh hx;replace hy:=zh hy;have HO:=z2;clear hc ag
    go_wp2_with (at_builtin;refine xx _ rfl _ _ 135 rfl w.heap.size 154 i0 1 underlying135 hi ad w.heap.size k (xs.length+1) (C7 zs) rfl (HO.alloc _) ⟨wr.heap.size,0,none⟩ 1 1 [.int .u64 (((lim xs k:Int)+b+lim ys k)%1000000000)] rfl rfl (Cx _ _ _) (Cc _ _) (by omega) ?_;intro w2 d s)
    refine⟨⟨k+1,(lim xs k+b+lim ys k)/1000000000,by omega,by go_num,congrArg (Value.int .u64) (Jb _ _ _),rfl,?_⟩,by simp only[intOf];omega⟩;exact Hw z1.o z2 z3 z4.o z5.o hx.o hy.o ae d s (fun b e=>by cases e;exact zB _) (Ja _ _ _)
   have HY0:=zh (G2 ys k (by omega));replace z1:=zh z1;replace z4:=zh z4;replace z5:=zh z5;replace hx:=zh hx;replace hy:=zh hy;have HO:=z2;clear hc al
   go_wp2_with (at_builtin;refine xx _ rfl _ _ 135 rfl w.heap.size 154 i0 1 underlying135 hi ad w.heap.size k (xs.length+1) (C7 zs) rfl (HO.alloc _) ⟨wr.heap.size,0,none⟩ 1 1 [.int .u64 (((lim xs k:Int)+b)%1000000000)] rfl rfl (Cx _ _ _) (Cc _ _) (by omega) ?_;intro w2 d s)
   have e0:=HY0.o;refine⟨⟨k+1,(lim xs k+b+lim ys k)/1000000000,by omega,by go_num,?_,rfl,?_⟩,by simp only[intOf];omega⟩
   .rw[e0,xH];exact congrArg (Value.int .u64) (Jd _ _)
   exact Hw z1.o z2 z3 z4.o z5.o hx.o hy.o ae d s (fun b e=>by cases e;exact zB _) (by rw[e0,xH];exact Jc _ _)
  obtain rfl:k=xs.length:=by omega
  replace z1:=zh z1;replace z4:=zh z4;replace z5:=zh z5;have HO:=z2;clear ha hc hx hy aa ab
  go_wp2_with (at_builtin;refine xx _ rfl _ _ 135 rfl w.heap.size 154 i0 1 underlying135 hi ad w.heap.size xs.length (xs.length+1) (C7 zs) rfl (HO.alloc _) ⟨wr.heap.size,0,none⟩ 1 1 [.int .u64 (b:Int)] rfl rfl (Cx _ _ _) (Cc _ _) (by omega) ?_;intro w2 d s)
  obtain⟨us,u1,u2,u3,u4,u5⟩:=O9 z1.o z2 z3 z4.o z5.o (by omega) ae d s (fun b e=>by cases e;exact zB _) rfl;have U3:=zh u3;have U4:=zh u4;clear u3 u4 d s;refine(D6 _ _ us (by have:=U3.o;omega) u2).mono ?_;rintro e w' ⟨v,k,rfl,ht,hs,hf,rfl⟩;go_wp2;go_ret;exact⟨v,rfl,⟨us.take k,ht.canon u1,by rw[ht.lv,U4.o],hs⟩,hf _ (zB _),u5⟩
theorem TB(w:World)(v u:Value)(n m:Nat)(hn:Num w v n)(hm:Num w u m)(s:Cd n)(d:Cd m):
 Calls prog 159 #[v,u] w (CG w.heap.size w (n+m)):=by
 obtain⟨xs,hx,rfl,aa⟩:=hn;obtain⟨ys,hy,rfl,ab⟩:=hm;have hl:=hx.len_le (k:=200) s;have ad:=hy.len_le (k:=200) d;obtain⟨a,cap,rfl,ha⟩:=aa.addr;obtain⟨c,cap',rfl,hc⟩:=ab.addr
 by_cases h:ys.length<=xs.length
 .exact Rn w a cap xs c cap' ys (by omega) h hx.1 hy.1 ha hc
 rw[Nat.add_comm];exact IJ w c cap' ys a cap xs (by omega) (by omega) hy.1 hx.1 hc ha
end Nt
end
section
open Go.RowKit Go.Shelf
attribute [local go_sem] wU
namespace Nt
def B0(x y:Nat):Int:=if x<y then -1 else if y<x then 1 else 0
theorem Wk(x y:Nat)(w:World):
 Calls prog 180 #[.int .u64 (x:Int),.int .u64 (y:Int)] w fun e w'=>e=.returned (.int .i64 (B0 x y))/\w=w':=by
 have h:x<y\/(¬x<y/\y<x)\/(¬x<y/\¬y<x):=by omega
 unfold B0
 rcases h with h|⟨h,h'⟩|⟨h,h'⟩
 all_goals
  go_enter func180,ntmps180;go_wp2;go_ret
  simp_all
theorem WN(x y:Nat)(w:World):
 Calls prog 179 #[.int .i64 (x:Int),.int .i64 (y:Int)] w fun e w'=>e=.returned (.int .i64 (B0 x y))/\w=w':=by
 have h:x<y\/(¬x<y/\y<x)\/(¬x<y/\¬y<x):=by omega
 unfold B0
 rcases h with h|⟨h,h'⟩|⟨h,h'⟩
 all_goals
  go_enter func179,ntmps179;go_wp2;go_ret
  simp_all
theorem Je(x:Nat)(w:World):
 Calls prog 179 #[.int .i64 (x:Int),.int .i64 (x:Int)] w fun e w'=>e=.returned (.int .i64 0)/\w=w':=by
 go_enter func179,ntmps179;go_wp2;go_ret;exact⟨rfl,rfl⟩
theorem Jf(x:Nat)(w:World):
 Calls prog 180 #[.int .u64 (x:Int),.int .u64 (x:Int)] w fun e w'=>e=.returned (.int .i64 0)/\w=w':=by
 go_enter func180,ntmps180;go_wp2;go_ret;exact⟨rfl,rfl⟩
theorem Cy{x y:Nat}(h:x<y):B0 x y=-1:=by simp[B0,h]
theorem Ga{x y:Nat}(h:y<x):B0 x y=1:=by unfold B0;rw[zC (by omega),zE h]
theorem JV(x:Nat):B0 x x=0:=by simp[B0]
theorem Jg{x y:Nat}(h:B0 x y=0):x=y:=by
 unfold B0 at h
 split at h
 .cases h
 split at h
 .cases h
 omega
theorem KeepsOthers.of_below{W W':World}(h:Below W.heap.size W W'):KeepsOthers W W' :=
 ⟨h.size,fun k _ hk _=>(h.block k (Array.getElem?_eq_some_iff.1 hk).1).trans hk⟩
theorem KS(w:World)(a:Option Addr)(n cap:Nat)(c:Option Addr)(m cap':Nat)(d:n≠m):
 Calls prog 150 #[.slice a n cap,.slice c m cap'] w fun e w'=>e=.returned (.int .i64 (B0 n m))/\Below w.heap.size w w':=by
 have s:(B0 n m != 0)=true:=by
  rw[zj];intro h;exact d (Jg h)
 go_enter func150,ntmps150
 go_wp2_with (go_at_call 179;refine(WN n m _).mono ?_;rintro e w' ⟨rfl,rfl⟩)
 refine zX (v:=.int .i64 (B0 n m)) (by simp[results,results150,go_sem]) rfl ⟨rfl,?_⟩;exact((zI _ w).alloc (zB _) _).alloc (by simp) _
theorem KT{n:Nat}(k:Nat)(hk:k<=n)(p:BJ n):p∈CO n k<->n-k<=p.1:=by
 induction k with
 |zero=>simp[Dv];omega
 |succ k ih=>
  rw[CP n k (by omega),yz,ih (by omega)];simp only[xP,xD,vS];constructor
  .rintro(h|h)
   .omega
   have hv:=congrArg Subtype.val h;dsimp only at hv;omega
  intro h
  by_cases e:p.1=n-1-k
  .right;exact Subtype.ext e
  left;omega
theorem KU{xs ys:List Nat}(he:xs.length=ys.length)(k:Nat)(hk:k<=xs.length)(h:∀j,k<=j->j<xs.length->lim xs j=lim ys j):lv xs+lo ys k=lv ys+lo xs k:=by
 obtain⟨d,hd⟩:∃d,k+d=xs.length:=⟨xs.length-k,by omega⟩
 induction d generalizing k with
 |zero=>rw[DZ ys k (by omega),DZ xs k (by omega)];omega
 |succ d ih=>
  have:=ih (k+1) (by omega) (fun j h1 h2=>h j (by omega) h2) (by omega);rw[Cw,Cw,h k (zB _) (by omega)]at this;omega
theorem M8{xs ys:List Nat}(he:xs.length=ys.length)(h:∀p:BJ xs.length,p∈CO xs.length xs.length->lim xs p.1=lim ys p.1):lv xs=lv ys:=by
 have:=KU he 0 (zO _) (fun j _ hj=>h ⟨j,hj⟩ ((KT _ (zB _) _).2 (by simp)));rw[DP,DP]at this;omega
theorem Ib{A a B b P x y:Nat}(h:A+(b+P*y)=B+(a+P*x))(ha:a<P)(d:x<y):A<B:=by
 have:P*(x+1)<=P*y:=yT _ d;rw[yQ]at this;omega
theorem KV{xs ys:List Nat}(he:xs.length=ys.length)(hx:InR xs)(hy:InR ys){k:Nat}(hk:k<=xs.length){pre:List (BJ xs.length)}{x:BJ xs.length}(hp:CO xs.length k=pre++[x])
 (a:∀p:BJ xs.length,p∈pre->lim xs p.1=lim ys p.1)(d:lim xs x.1≠lim ys x.1):B0 (lv xs) (lv ys)=B0 (lim xs x.1) (lim ys x.1):=by
 cases k with
 |zero=>rw[Dv]at hp;simp at hp
 |succ k=>
  rw[CP _ _ (by omega)]at hp;obtain⟨h1,h2⟩:=List.append_inj' hp rfl;simp only[List.cons.injEq,and_true]at h2;subst h1;have hv:xs.length-1-k=x.1:=congrArg Subtype.val h2;rw[<-hv]at d ⊢;clear h2 hp hv;have:=KU he (xs.length-1-k+1) (by omega) (fun j h1 h2=>a ⟨j,h2⟩ ((KT k (by omega) _).2 (by simp;omega)));rw[Cw,Cw]at this;have a1:=UN hx (xs.length-1-k);have a2:=UN hy (xs.length-1-k)
  rcases xQ (lim xs (xs.length-1-k)) (lim ys (xs.length-1-k)) with h|h
  .rw[Cy h,Cy (Ib this a1 h)]
  have h':lim ys (xs.length-1-k)<lim xs (xs.length-1-k):=by omega
  rw[Ga h',Ga (Ib this.symm a2 h')]
theorem M9(w:World)(a:Option Addr)(cap:Nat)(xs:List Nat)(c:Option Addr)(cap':Nat)(ys:List Nat)(he:xs.length=ys.length)(hl:xs.length<=1000000)(hx:Hid (InR xs))(hy:Hid (InR ys))(b:Nat)(hb:b<w.heap.size)
 (ha:SlAt w b (.slice a xs.length cap) xs)
 (hc:ys≠[]->∃b off,c=some ⟨b,off,none⟩/\b<w.heap.size/\∀i,i<ys.length->w.cell? ⟨b,off+i,none⟩=some (.int .u64 (lim ys i))):
 Calls prog 150 #[.slice a xs.length cap,.slice c ys.length cap'] w fun e w'=>e=.returned (.int .i64 (B0 (lv xs) (lv ys)))/\Below w.heap.size w w':=by
 have HEQ:=zh he;refine(callsIn_wide (n:=9)).1 ?_;refine callsIn_of_wp_marks func150 rfl trivial ?_ rfl;simp only[ntmps150,wF,zn,yc,Nat.reduceAdd,Nat.reduceSub,xh,xi,wG,xq,yW,xB];rw[<-he];have HE:=zh he;clear he
 gi_wp2_with (first
  |(refine⟨trivial,?_⟩;gi_at_call 179;refine(callsIn_wide.2 (Je xs.length _)).mono ?_;rintro e w' ⟨rfl,rfl⟩)
  |(gi_at_call 179;refine(callsIn_wide.2 (Je xs.length _)).mono ?_;rintro e w' ⟨rfl,rfl⟩)
  |(refine⟨trivial,?_⟩;gi_at_call 149;refine(Dw Fence.wide _ trivial rfl _ _ _ _).mono ?_;rintro e w' ⟨rfl,rfl⟩)
  |(gi_at_call 149;refine(Dw Fence.wide _ trivial rfl _ _ _ _).mono ?_;rintro e w' ⟨rfl,rfl⟩))
 have aa:Below w.heap.size w (((w.alloc (.cells #[.slice c xs.length cap'] 135)).alloc (.cells #[.int .i64 0] 3)).alloc (.cells #[.slice a xs.length cap] 135)) :=
  (((zI _ w).alloc (zB _) _).alloc (by simp) _).alloc (by simp;omega) _
 have hm:(((w.alloc (.cells #[.slice c xs.length cap'] 135)).alloc (.cells #[.int .i64 0] 3)).alloc (.cells #[.slice a xs.length cap] 135)).cell? ⟨w.heap.size,0,none⟩=some (.slice c xs.length cap'):=by go_simp
 have hr:(((w.alloc (.cells #[.slice c xs.length cap'] 135)).alloc (.cells #[.int .i64 0] 3)).alloc (.cells #[.slice a xs.length cap] 135)).cell? ⟨w.heap.size+1,0,none⟩=some (.int .i64 0):=by go_simp
 have ae:(((w.alloc (.cells #[.slice c xs.length cap'] 135)).alloc (.cells #[.int .i64 0] 3)).alloc (.cells #[.slice a xs.length cap] 135)).frozen? ⟨w.heap.size+1,0,none⟩=false:=by go_simp
 have af:(((w.alloc (.cells #[.slice c xs.length cap'] 135)).alloc (.cells #[.int .i64 0] 3)).alloc (.cells #[.slice a xs.length cap] 135)).cell? ⟨w.heap.size+1+1,0,none⟩=some (.slice a xs.length cap):=by go_simp
 have ar:(((w.alloc (.cells #[.slice c xs.length cap'] 135)).alloc (.cells #[.int .i64 0] 3)).alloc (.cells #[.slice a xs.length cap] 135)).heap.size=w.heap.size+3:=by simp
 generalize (((w.alloc (.cells #[.slice c xs.length cap'] 135)).alloc (.cells #[.int .i64 0] 3)).alloc (.cells #[.slice a xs.length cap] 135))=W1 at aa hm hr ae af ar ⊢
 have ag:∀i,i<xs.length->∃b off,c=some ⟨b,off,none⟩/\W1.cell? ⟨b,off+i,none⟩=some (.int .u64 (lim ys i))/\b<W1.heap.size:=fun i hi=>by
  have e:=HE.o;obtain⟨b2,o2,h1,h2,h3⟩:=hc (by intro e2;rw[e2]at e;simp only[yc]at e;omega);exact⟨b2,o2,h1,(aa.cell (p:=⟨b2,o2+i,none⟩) h2).trans (h3 i (by omega)),by omega⟩
 have ah:SlAt W1 b (.slice a xs.length cap) xs:=ha.keep (c:=b) (Keep2.of_below aa hb hb);clear hc ha HE
 refine wpIn_rangeFunc_ownF rfl (by decide) (gf:=178) (lb:=#[.pointer (some ⟨w.heap.size+1+1,0,none⟩)]) rfl trivial (enters_of func178 (by kernel_rfl) rfl)
  (FI Fence.wide _ trivial rfl (by decide) (w.heap.size+1+1) b _ xs hl W1 (by omega) (by omega) af ah) (fun h k=>h.trans k)
  (fun W l o o' hl h ho hw=>?kb) (zI _ _) (fun _=>rfl)
  (fun pre W=>(∀p∈pre,lim xs p.1=lim ys p.1)/\Below W1.heap.size W1 W)
  (fun c pre W=>c=.ret/\∃x pre',pre=pre'++[x]/\(∀p∈pre',lim xs p.1=lim ys p.1)/\lim xs x.1≠lim ys x.1/\W.cell? ⟨w.heap.size+1,0,none⟩=some (.int .i64 (B0 (lim xs x.1) (lim ys x.1)))/\Below w.heap.size w W)
  (OwnFrom.and (ownFrom_pure _ _) (ownFrom_below (zB _) (zB _)))
  (fun c s A B row hs hg am=>?ix)
  ⟨by simp,zI _ _⟩
  (fun x=>{ tmps:=#[.slice a xs.length cap,.slice c xs.length cap',undef,.pointer (some ⟨w.heap.size,0,none⟩),.pointer (some ⟨w.heap.size+1,0,none⟩),.int .i64 0,.int .i64 (x.1:Int),.int .u64 (lim xs x.1),undef,
    .slice a xs.length cap,.int .i64 xs.length,.slice c xs.length cap',.int .i64 xs.length,.int .i64 0,.int .i64 0,.bool false,undef,.slice a xs.length cap,
    .func (.func 178) #[] #[.pointer (some ⟨w.heap.size+1+1,0,none⟩)],.int .i64 (x.1:Int),.int .u64 (lim xs x.1),undef,undef,undef,undef,undef,undef,undef,undef,undef],defers:=[] })
  ?assign ?body ?done ?stop
 case kb=>
  have h1:=(Array.getElem?_eq_some_iff.1 h).1;exact⟨xN (by omega),xN (by omega)⟩
 case ix=>
  obtain⟨e,x,pre',e1,e2,e3,e4,e5⟩:=hs;refine⟨e,x,pre',e1,e2,e3,cell_kept e4 hg (fun r e=>(am r e).2),e5.grown hg e5.size (fun k e=>?_)⟩;have:=(am k e).1;omega
 case assign=>
  intro l x W K hK
  gi_wp2
  exact hK
 case body=>
  rintro l pre x W ⟨ab,d⟩ au;have aw:=(d.cell (p:=⟨w.heap.size,0,none⟩) (by simp;omega)).trans hm;have ak:=(d.cell (p:=⟨w.heap.size+1,0,none⟩) (by simp;omega)).trans hr;have an:=(d.frozen (p:=⟨w.heap.size+1,0,none⟩) (by simp;omega)).trans ae;obtain⟨b2,o2,aq,al,ao⟩:=ag x.1 x.2;have ai:=(d.cell (p:=⟨b2,o2+x.1,none⟩) ao).trans al;obtain⟨i,hi⟩:=x;dsimp only at ai ⊢;subst aq;have HP:=zh ab;have HB:=zh d;have HB1:=zh aa;clear ab d aa ag ah hm hr ae af al
  by_cases hq:lim xs i=lim ys i
  .have HQ:=zh hq;rw[<-hq]at ai;clear hq
   gi_wp2_with (first
    |(refine⟨trivial,?_⟩;gi_at_call 180;refine(ye l (callsIn_wide.2 (Jf (lim xs i) _))).mono ?_;rintro e w' ⟨rfl,rfl⟩)
    |(gi_at_call 180;refine(ye l (callsIn_wide.2 (Jf (lim xs i) _))).mono ?_;rintro e w' ⟨rfl,rfl⟩))
   refine⟨KeepsOthers.of_below (zI _ _),Keep2.refl _ _ _,?_,HB.o⟩;intro p hp
   rcases List.mem_append.1 hp with h|h
   .exact HP.o p h
   simp only[xP,xD,vS]at h;subst h;exact HQ.o
  .have av:(B0 (lim xs i) (lim ys i) != 0)=true:=by rw[zj];intro h;exact hq (Jg h)
   have HQ:=zh hq;clear hq
   gi_wp2_with (first
    |(refine⟨trivial,?_⟩;gi_at_call 180;refine(ye l (callsIn_wide.2 (Wk (lim xs i) (lim ys i) _))).mono ?_;rintro e w' ⟨rfl,rfl⟩)
    |(gi_at_call 180;refine(ye l (callsIn_wide.2 (Wk (lim xs i) (lim ys i) _))).mono ?_;rintro e w' ⟨rfl,rfl⟩))
   exact⟨xp _ _ _,rfl,⟨i,hi⟩,pre,rfl,HP.o,HQ.o,World.cell?_setCell_same' _ _ _ (by rw[ak];rfl),(HB1.o.trans (HB.o.mono (by omega))).setCell (by simp) _⟩
 case done=>
  rintro D zs W hD rfl ⟨ad,d⟩ hK;have ak:=(d.cell (p:=⟨w.heap.size+1,0,none⟩) (by simp;omega)).trans hr;have an:=(d.frozen (p:=⟨w.heap.size+1,0,none⟩) (by simp;omega)).trans ae;have HA:=zh ad;have HB:=zh (aa.trans (d.mono (by omega)));clear ad d aa ag ah hm hr ae af
  gi_wp2
  refine⟨by simp,.inl ⟨_,_,rfl,vC (((xp W ⟨w.heap.size+1,0,none⟩ (.int .i64 0)).same D _ hK rfl)),?_⟩⟩
  have aj:((W.setCell ⟨w.heap.size+1,0,none⟩ (.int .i64 0)).putObj D (.deferred none)).cell? ⟨w.heap.size+1,0,none⟩=some (.int .i64 0) :=
   cell_kept (World.cell?_setCell_same' _ _ _ (by rw[ak];rfl)) (wC _ D (.deferred none)) (fun r e=>by cases e;exact⟨_,(xp W ⟨w.heap.size+1,0,none⟩ (.int .i64 0)).same D _ hK rfl,rfl⟩)
  have ad:lv xs=lv ys:=M8 HEQ.o HA.o;rw[ad,JV];refine⟨.int .i64 0,by simp[results,results150,go_sem,aj],rfl,?_⟩;exact(HB.o.setCell (p:=⟨w.heap.size+1,0,none⟩) (by simp) _).grown (wC _ D _) (by have:=HB.o.size;simp[World.setCell];omega) (fun k e=>by cases e;omega)
 case stop=>
  rintro D c pre W hD ⟨k,hk,ab⟩ ⟨rfl,x,pre',h1,h2,h3,h4,h5⟩ hK;have H2:=zh h2;have H3:=zh h3;have H5:=zh h5;have HPR:=zh (ab.symm.trans h1);clear h2 h3 h5 ab h1 aa ag ah hm hr ae af
  gi_wp2
  refine⟨by simp,.inl ⟨_,_,rfl,vC hK,?_⟩⟩
  have aj:(W.putObj D (.deferred none)).cell? ⟨w.heap.size+1,0,none⟩=some (.int .i64 (B0 (lim xs x.1) (lim ys x.1))) :=
   cell_kept h4 (wC _ D (.deferred none)) (fun r e=>by cases e;exact⟨_,hK,rfl⟩)
  rw[KV HEQ.o hx.o hy.o hk HPR.o H2.o H3.o];refine⟨.int .i64 (B0 (lim xs x.1) (lim ys x.1)),by simp[results,results150,go_sem,aj],rfl,?_⟩;exact H5.o.grown (wC _ D _) H5.o.size (fun k e=>by cases e;omega)
theorem SlAt.of{w:World}{v:Value}{xs:List Nat}(h:Sl w v xs)(h0:0<w.heap.size):∃b,b<w.heap.size/\SlAt w b v xs:=by
 rcases h.shape with⟨rfl,rfl⟩|⟨b,off,cap,rfl,hb,_,hc⟩
 .exact⟨0,h0,.inl ⟨rfl,0,rfl⟩⟩
 exact⟨b,hb,.inr ⟨off,cap,rfl,hc⟩⟩
theorem EP(w:World)(v u:Value)(n m:Nat)(hn:Num w v n)(hm:Num w u m)(ab:Cd n)(h0:0<w.heap.size):
 Calls prog 150 #[v,u] w fun e w'=>e=.returned (.int .i64 (B0 n m))/\Below w.heap.size w w':=by
 obtain⟨xs,hx,rfl,d⟩:=hn;obtain⟨ys,hy,rfl,s⟩:=hm;have hl:=hx.len_le (k:=200) ab
 by_cases he:xs.length=ys.length
 .obtain⟨b,hb,aa⟩:=SlAt.of d h0;obtain⟨a,cap,rfl,_⟩:=d.addr;obtain⟨c,cap',rfl,hc⟩:=s.addr;exact M9 w a cap xs c cap' ys he (by omega) hx.1 hy.1 b hb aa hc
 obtain⟨a,cap,rfl,_⟩:=d.addr;obtain⟨c,cap',rfl,hc⟩:=s.addr;refine(KS w a xs.length cap c ys.length cap' he).q fun w' hb=>?_;refine⟨?_,hb⟩
 rcases xQ xs.length ys.length with h|h
 .have h1:=KK hx.1;have h2:=hy.ge (by intro e;simp[e]at h);have h3:1000000000^xs.length<=1000000000^(ys.length-1):=zW (by omega) (by omega);rw[Cy h,Cy (by omega)]
 have h':ys.length<xs.length:=by omega
 have h1:=KK hy.1;have h2:=hx.ge (by intro e;simp[e]at h');have h3:1000000000^ys.length<=1000000000^(xs.length-1):=zW (by omega) (by omega);rw[Ga h',Ga (by omega)]
end Nt
end
section
open Go.RowKit Go.Shelf
namespace Nt
def MA(n:Nat)(p:Nat->Bool)(w:World)(e:Ending)(w':World):Prop :=
 ∃r:Nat,e=.returned (.int .i64 (r:Int))/\r<=n/\(∀i,i<r->p i=false)/\(r<n->p r=true)/\Below w.heap.size w w'
theorem MB(n:Nat)(hn:n<=1000000000)(p:Nat->Bool)(c1 c2:Value)(w:World)
 (ab:Hid (∀a b,a<=b->b<n->p a=true->p b=true))
 (H:Hid (∀W i,Below w.heap.size w W->i<n->Calls prog 152 #[.int .i64 (i:Int),c1,c2] W fun e W'=>e=.returned (.bool (p i))/\Below W.heap.size W W')):
 Calls prog 151 #[.int .i64 (n:Int),.func (.func 152) #[] #[c1,c2]] w (MA n p w):=by
 go_enter func151,ntmps151;go_wp2
 go_loopw [5,6] (fun i j wr=>∃a b:Nat,a<=b/\b<=n/\i=.int .i64 a/\j=.int .i64 b/\Hid ((∀k,k<a->p k=false)/\(b<n->p b=true))/\Below w.heap.size w wr)
  (fun i j _=>(intOf j-intOf i).toNat)
 case atStart=>exact⟨0,n,zO _,zB _,rfl,rfl,⟨fun k h=>by omega,fun h=>by omega⟩,zI _ _⟩
 case round=>
  obtain⟨a,b,ah,ae,rfl,rfl,s,d⟩:=hrel;replace d:=zh d
  by_cases hlt:a<b
  .go_wp2_with fail
   obtain⟨q,hq⟩:∃q:Nat,q=(a+b)/2:=⟨_,rfl⟩;have e:((a:Int)+b)/2=(q:Int):=by rw[hq];omega
   rw[e];have af:a<=q:=by omega
   have ai:q<b:=by omega
   clear hq e;refine(H.o _ q d.o (by omega)).q fun w' ad=>?_;have aa:=d.t ad;clear ad d
   by_cases hp:p q=true
   .have HP:=zh hp;rw[hp];clear hp;go_wp2;exact⟨⟨a,q,af,by omega,rfl,rfl,⟨s.o.1,fun _=>HP.o⟩,aa.o⟩,by simp only[intOf];omega⟩
   replace hp:p q=false:=by simpa using hp
   have HP:=zh hp;rw[hp];clear hp;go_wp2;refine⟨⟨q+1,b,by omega,ae,by go_num,rfl,⟨fun k hk=>?_,s.o.2⟩,aa.o⟩,by simp only[intOf];omega⟩
   cases ag:p k with
   |false=>rfl
   |true=>rw[<-HP.o];exact(ab.o k q (by omega) (by omega) ag).symm
  obtain rfl:a=b:=by omega
  go_wp2;go_ret;exact⟨a,rfl,ae,s.o.1,s.o.2,d.o⟩
end Nt
end
section
open Go.RowKit
namespace Nt
def RelMul(B:Nat)(w:World)(xs ys:List Nat)(g:Nat)(i:Nat)(wr:World):Prop :=
 ∃zs,zs.length=xs.length+ys.length/\InR zs/\Row 154 wr g zs/\lv zs=lo xs i*lv ys/\(∀j,i+ys.length<=j->lim zs j=0)/\Below B w wr
def RelMulIn(B:Nat)(w:World)(xs ys:List Nat)(g:Nat)(i j c:Nat)(wr:World):Prop :=
 ∃ zs,zs.length=xs.length+ys.length/\InR zs/\Row 154 wr g zs/\c<1000000000 /\
  lv zs+c*1000000000^(i+j)=lo xs i*lv ys+1000000000^i*(lim xs i*lo ys j)/\(∀j,i+ys.length<=j->lim zs j=0)/\Below B w wr
theorem Ro{Z Z' R P x z c c':Nat}{T:Nat}(h:Z+c*P=R)(hs:Z'+P*z=Z+P*(x%1000000000))(hc:c'=x/1000000000)(hx:x=z+T+c):
 Z'+c'*(P*1000000000)=R+P*T:=by
 have e1:P*x=P*z+P*T+P*c:=by rw[hx,yQ,yQ]
 have e2:P*x=P*(x%1000000000)+P*(1000000000*(x/1000000000)):=by rw[<-yQ,Nat.mod_add_div]
 have e3:c'*(P*1000000000)=P*(1000000000*(x/1000000000)):=by
  rw[hc,zw,zz]
 have e4:c*P=P*c:=zw _ _;omega
theorem RelMulIn.step{B:Nat}{w wr:World}{xs ys:List Nat}{g i j c:Nat}(h:RelMulIn B w xs ys g i j c wr)(hB:B<=g)(hi:i<xs.length)(hj:j<ys.length)(hx:InR xs)(hy:InR ys)
 {z T:Nat}{y:Int}(hz:wr.cell? ⟨g,i+j,none⟩=some (.int .u64 (z:Int)))(hT:T=lim xs i*lim ys j)(he:y=(((z+T+c)%1000000000:Nat):Int)):
 RelMulIn B w xs ys g i (j+1) ((z+T+c)/1000000000) (wr.setCell ⟨g,i+j,none⟩ (.int .u64 y)):=by
 subst he hT;obtain⟨zs,h1,h2,h3,h4,h5,h6,h7⟩:=h;have a:=h3.cell (i:=i+j) (by omega);rw[hz]at a;have d:z=lim zs (i+j):=by simp at a;omega
 have b1:=h2.lim (i+j);have b2:=hx.lim i;have b3:=hy.lim j;have b4:lim xs i*lim ys j<=999999999*999999999:=xk (by omega) (by omega);refine⟨zs.set (i+j) ((z+lim xs i*lim ys j+c)%1000000000),by simpa using h1,h2.set _ _ (xv _ (by omega)),h3.set _ _,by omega,?_,fun p hp=>?_,h7.setCell hB _⟩
 .have hs:=My zs (i+j) ((z+lim xs i*lim ys j+c)%1000000000) (by omega);rw[<-d]at hs;have:=Ro h5 hs rfl rfl;rw[Cw,show i+(j+1)=i+j+1 from rfl,zy,this,yQ,yQ]
  have e:1000000000^(i+j)*(lim xs i*lim ys j)=1000000000^i*(lim xs i*(1000000000^j*lim ys j)):=by
   rw[xf,zz,Nat.mul_left_comm (1000000000^j)]
  omega
 rw[B9 _ _ _ _ (by omega)];exact h6 p hp
theorem RelMul.start{B:Nat}{w wr:World}{xs ys:List Nat}{g i:Nat}(h:RelMul B w xs ys g i wr):RelMulIn B w xs ys g i 0 0 wr:=by
 obtain⟨zs,h1,h2,h3,h4,h5,h6⟩:=h;exact⟨zs,h1,h2,h3,by omega,by simp[h4,DP],h5,h6⟩
theorem RelMulIn.done{B:Nat}{w wr:World}{xs ys:List Nat}{g i c:Nat}(h:RelMulIn B w xs ys g i ys.length c wr)(hB:B<=g)(hi:i<xs.length):
 RelMul B w xs ys g (i+1) (wr.setCell ⟨g,i+ys.length,none⟩ (.int .u64 (c:Int))):=by
 obtain⟨zs,h1,h2,h3,h4,h5,h6,h7⟩:=h;refine⟨zs.set (i+ys.length) c,by simpa using h1,h2.set _ _ h4,h3.set _ _,?_,fun p hp=>?_,h7.setCell hB _⟩
 .have hs:=My zs (i+ys.length) c (by omega);rw[h6 _ (zB _)]at hs;rw[DZ ys _ (zB _)]at h5;rw[Cw,yE,zz];have:c*1000000000^(i+ys.length)=1000000000^(i+ys.length)*c:=zw _ _;omega
 rw[B9 _ _ _ _ (by omega)];exact h6 p (by omega)
theorem Rp(z a b c:Nat):((z:Int)+a*b+c)/1000000000=(((z+a*b+c)/1000000000:Nat):Int):=by
 rw[vE,yh,yh,ya];rfl
theorem Rq(z a b c:Nat):((z:Int)+a*b+c)%1000000000=(((z+a*b+c)%1000000000:Nat):Int):=by
 rw[vD,yh,yh,ya];rfl
theorem RelMulIn.at{B:Nat}{w wr:World}{xs ys:List Nat}{g i j c:Nat}(h:RelMulIn B w xs ys g i j c wr)(hi:i<xs.length)(hj:j<ys.length):
 ∃z:Nat,z<1000000000/\wr.cell? ⟨g,i+j,none⟩=some (.int .u64 (z:Int))/\wr.frozen? ⟨g,i+j,none⟩=false/\c<1000000000/\Below B w wr:=by
 obtain⟨zs,h1,h2,h3,h4,h5,h6,h7⟩:=h;exact⟨lim zs (i+j),h2.lim _,h3.cell (by omega),h3.frozen _,h4,h7⟩
theorem Rr(w:World)(a:Option Addr)(cap:Nat)(xs:List Nat)(c:Option Addr)(cap':Nat)(ys:List Nat)(hl:xs.length<=1000)(ar:ys.length<=1000)
 (hx:InR xs)(hy:InR ys)
 (ha:xs≠[]->∃b off,a=some ⟨b,off,none⟩/\b<w.heap.size/\∀i,i<xs.length->w.cell? ⟨b,off+i,none⟩=some (.int .u64 (lim xs i)))
 (hc:ys≠[]->∃b off,c=some ⟨b,off,none⟩/\b<w.heap.size/\∀i,i<ys.length->w.cell? ⟨b,off+i,none⟩=some (.int .u64 (lim ys i))):
 Calls prog 117 #[.slice a xs.length cap,.slice c ys.length cap'] w (CG w.heap.size w (lv xs*lv ys)):=by
 have h:=E4 (xs.length+ys.length) (by omega);rw[yh]at h;go_enter func117,ntmps117;go_wp2
 go_loopw [20] (fun i wr=>∃k:Nat,k<=xs.length/\i=.int .i64 k/\RelMul w.heap.size w xs ys w.heap.size k wr)
  (fun i _=>xs.length-(intOf i).toNat)
 case atStart=>exact⟨0,zO _,rfl,List.replicate (xs.length+ys.length) 0,by simp,InR.zeros _,Row.made0 _ _ _,by rw[DP,xr];exact HH _ (fun j hj=>Eb _ _),(fun j hj=>Eb _ _),(zI _ _).alloc (zB _) _⟩
 case round=>
  obtain⟨k,hk,rfl,hrel⟩:=hrel
  by_cases hkn:k<xs.length
  .obtain ⟨bx,ox,af,ah,s⟩:=ha (by intro e;simp[e]at hkn);obtain⟨zs,z1,z2,z3,z4,z5,z6⟩:=id hrel;have al:=(z6.cell (p:=⟨bx,ox+k,none⟩) ah).trans (s k hkn);have ao:=hx.lim k;subst af;have HC:=zh hc;clear s ha z1 z2 z3 z4 z5 z6 h hc;have HR:=zh hrel;clear hrel;go_wp2;obtain⟨wo,rfl⟩:∃wo:World,wo=wr:=⟨_,rfl⟩
   go_loopw [8,27] (fun cc j wr=>∃q c:Nat,q<=ys.length/\j=.int .i64 q/\cc=.int .u64 c/\RelMulIn w.heap.size w xs ys w.heap.size k q c wr)
    (fun _ j _=>ys.length-(intOf j).toNat)
   case atStart=>exact⟨0,0,zO _,rfl,rfl,HR.o.start⟩
   case round=>
    obtain⟨q,c2,hq,rfl,rfl,hrel⟩:=hrel
    by_cases hqn:q<ys.length
    .obtain ⟨b2,oy,ag,ai,aa⟩:=HC.o (by intro e;simp[e]at hqn);subst ag;obtain⟨z,hz,ad,ak,an,d⟩:=hrel.at hkn hqn;have am:=d.cell (p:=⟨b2,oy+q,none⟩) ai |>.trans (aa q hqn)
     have aq:=hy.lim q
     have aj:(lim xs k:Int)*(lim ys q:Int)<=999999998000000001:=by
      have:lim xs k*lim ys q<=999999999*999999999:=xk (by omega) (by omega);have:((lim xs k*lim ys q:Nat):Int)<=((999999999*999999999:Nat):Int):=by exact_mod_cast this
      simpa using this
     have ae:0<=(lim xs k:Int)*(lim ys q:Int):=Int.mul_nonneg (by omega) (by omega);replace hrel:=zh hrel;replace hx:=zh hx;replace hy:=zh hy;clear aa d HC;go_wp2
     exact ⟨⟨q+1,(z+lim xs k*lim ys q+c2)/1000000000,by omega,by go_num,congrArg (Value.int .u64) (Rp _ _ _ _),
      hrel.o.step (zB _) hkn hqn hx.o hy.o ad rfl (Rq _ _ _ _)⟩,by simp only[intOf];omega⟩
    obtain rfl:q=ys.length:=by omega
    have HR':=zh (hrel.done (zB _) hkn);obtain⟨zs,z1,z2,z3,z4,z5,z6,z7⟩:=hrel;have ad:=z3.cell (i:=k+ys.length) (by omega);have ak:=z3.frozen (k+ys.length);replace hx:=zh hx;replace hy:=zh hy;clear z1 z2 z3 z5 z6 z7 HC;go_wp2;exact⟨⟨k+1,by omega,by go_num,HR'.o⟩,by simp only[intOf];omega⟩
  obtain rfl:k=xs.length:=by omega
  obtain⟨zs,z1,z2,z3,z4,z5,z6⟩:=id hrel;have Z1:=zh z1;have Z4:=zh z4;have ab:=z3.sl;rw[z1]at ab;clear z1 z4 hrel ha hc h z5
  go_wp2_with (go_at_call 148;refine(D6 _ _ _ (by have:=Z1.o;omega) ab).mono ?_;rintro e w' ⟨v,k,rfl,ht,hs,hf,rfl⟩)
  go_ret;exact⟨v,rfl,⟨zs.take k,ht.canon z2,by rw[ht.lv,Z4.o,DZ _ _ (zB _)],hs⟩,hf _ (zB _),z6⟩
theorem JW(w:World)(v u:Value)(n m:Nat)(hn:Num w v n)(hm:Num w u m)(h:Cd n)(d:Cd m):
 Calls prog 117 #[v,u] w (CG w.heap.size w (n*m)):=by
 obtain⟨xs,hx,rfl,s⟩:=hn;obtain⟨ys,hy,rfl,aa⟩:=hm;have hl:=hx.len_le (k:=200) h;have ab:=hy.len_le (k:=200) d;obtain⟨a,cap,rfl,ha⟩:=s.addr;obtain⟨c,cap',rfl,hc⟩:=aa.addr;exact Rr w a cap xs c cap' ys (by omega) (by omega) hx.1 hy.1 ha hc
end Nt
end
section
open Go.RowKit Go.Shelf
namespace Nt
theorem OA(w:World)(x:Nat)(h0:0<x)(h:x<1000000000){X:Int}(hX:X=(x:Int)):
 Num (w.alloc (.cells #[.int .u64 X] 154)) (.slice (some ⟨w.heap.size,0,none⟩) 1 1) x:=by
 subst hX;refine⟨[x],⟨fun y hy=>?_,?_⟩,by simp[lv],?_⟩
 .simp at hy;omega
 .simp;omega
 refine Sl.mk (xs:=[x]) (by simp) (zB _) (fun i hi=>?_);have hi:i<1:=hi;obtain rfl:i=0:=by omega
 rw[zm,World.cell?_alloc_new];rfl
theorem Ce{a b:Nat}(h:Cd b)(d:a<=b):Cd a:=yM d h
theorem Ic{a:Nat}(h:a<1000000000):Cd a:=by
 have h1:1000000000^1<=1000000000^200:=zW (by omega) (by omega);rw[Nat.pow_one]at h1;exact zL h h1
theorem Rs(x y:Nat):decide (0<B0 x y)=decide (y<x):=by
 unfold B0
 split
 .simp;omega
 split
 .simp;omega
 simp;omega
theorem KW(W:World)(k:Nat)(hk:k<999999999)(bm br:Nat)(mv rv:Value)(M R:Nat)(hm:W.cell? ⟨bm,0,none⟩=some mv)(hr:W.cell? ⟨br,0,none⟩=some rv)
 (hM:Hid (Num W mv M))(hR:Hid (Num W rv R))(s:Hid (Cd (M*1000000000))):
 Calls prog 152 #[.int .i64 (k:Int),.pointer (some ⟨bm,0,none⟩),.pointer (some ⟨br,0,none⟩)] W fun e W'=>e=.returned (.bool (decide (R<M*(k+1))))/\Below W.heap.size W W':=by
 have ab:br<W.heap.size:=block_lt_of_cell hr;have aa:bm<W.heap.size:=block_lt_of_cell hm;have s1:IntKind.i64.wrap ((k:Int)+1)=(k:Int)+1:=yi _ (by omega);have s2:IntKind.u64.wrap ((k:Int)+1)=(k:Int)+1:=IntWalk.u64_in _ (by omega);have ad:=OA W (k+1) (by omega) (by omega) (X:=(k:Int)+1) (by omega);have cM:=JW (W.alloc (.cells #[.int .u64 ((k:Int)+1)] 154)).drew mv (.slice (some ⟨W.heap.size,0,none⟩) 1 1) M (k+1) (hM.o.below ((zI _ _).alloc (zB _) _).drew) ad (Ce s.o (by omega)) (Ic (by omega));go_enter func152,ntmps152;go_wp2
 go_region_held3 (fun w'=>w'.cell? ⟨bm,0,none⟩=some mv/\w'.cell? ⟨br,0,none⟩=some rv)
  (first
    |go_keep
    |(go_split_ands
      refine⟨?_,?_⟩
      .assumption
      assumption))
  (first
  |(go_at_call 117;refine cM.mono ?_;rintro e w' ⟨v,rfl,hv,_,hb⟩;have d:Below W.heap.size W w':=((zI W.heap.size W).alloc (zB _) _).drew.trans (hb.mono (by simp));have ae:=(d.cell (p:=⟨bm,0,none⟩) aa).trans hm;have af:=(d.cell (p:=⟨br,0,none⟩) ab).trans hr;replace hb:=zh hb;replace d:=zh d)
  |(go_at_call 150;refine(EP _ _ _ (M*(k+1)) R (by assumption) (by exact hR.o.below (Hid.o (by assumption))) (Ce s.o (yT _ (by omega))) (by have:=(Hid.o (p:=Below W.heap.size W _) (by assumption)).size;omega)).q fun w2 h=>?_;have a:Below W.heap.size W w2:=d.o.trans (h.mono d.o.size);have ag:=(a.cell (p:=⟨bm,0,none⟩) aa).trans hm;have ah:=(a.cell (p:=⟨br,0,none⟩) ab).trans hr;replace a:=zh a;clear ae af h))
 go_wp2;go_ret;exact⟨congrArg (fun b=>Ending.returned (.bool b)) (Rs _ _),a.o⟩
end Nt
end
section
open Go.RowKit Go.Shelf
attribute [local go_sem] wU
namespace Nt
theorem Bi(w:World)(o:Obj){k:Nat}{x:Obj}(h:w.heap[k]? = some x):(w.alloc o).heap[k]? = some x :=
 (yZ w o k (Array.getElem?_eq_some_iff.1 h).1).trans h
theorem CH(w:World)(o:Obj){k:Nat}(h:k=w.heap.size):(w.alloc o).heap[k]? = some o:=by
 subst h;exact zo w o
theorem WO(w:World)(o1 o2 o3 o4 o5:Obj):
 (((((w.alloc o1).alloc o2).alloc o3).alloc o4).alloc o5).heap[w.heap.size]? = some o1/\(((((w.alloc o1).alloc o2).alloc o3).alloc o4).alloc o5).heap[w.heap.size+1]? = some o2 /\
 (((((w.alloc o1).alloc o2).alloc o3).alloc o4).alloc o5).heap[w.heap.size+1+1]? = some o3/\(((((w.alloc o1).alloc o2).alloc o3).alloc o4).alloc o5).heap[w.heap.size+1+1+1]? = some o4 /\
 (((((w.alloc o1).alloc o2).alloc o3).alloc o4).alloc o5).heap[w.heap.size+1+1+1+1]? = some o5/\(((((w.alloc o1).alloc o2).alloc o3).alloc o4).alloc o5).heap.size=w.heap.size+5 /\
 Below w.heap.size w (((((w.alloc o1).alloc o2).alloc o3).alloc o4).alloc o5):=by
 refine⟨?_,?_,?_,?_,?_,by simp,?_⟩
 .exact Bi _ _ (Bi _ _ (Bi _ _ (Bi _ _ (CH _ _ rfl))))
 .exact Bi _ _ (Bi _ _ (Bi _ _ (CH _ _ (by simp))))
 .exact Bi _ _ (Bi _ _ (CH _ _ (by simp)))
 .exact Bi _ _ (CH _ _ (by simp))
 .exact CH _ _ (by simp)
 exact(((((zI _ w).alloc (zB _) _).alloc (by simp) _).alloc (by simp;omega) _).alloc (by simp;omega) _).alloc (by simp;omega) _
structure KeptBut(S:Nat->Prop)(w w':World):Prop where
 os:w'.os=w.os
 tape:w'.tape=w.tape
 output:w'.output=w.output
 size:w.heap.size<=w'.heap.size
 block:∀k,k<w.heap.size->¬S k->w'.heap[k]? = w.heap[k]?
theorem KeptBut.refl(S:Nat->Prop)(w:World):KeptBut S w w:=⟨rfl,rfl,rfl,zB _,fun _ _ _=>rfl⟩
theorem KeptBut.below{S:Nat->Prop}{w w' w'':World}(h:KeptBut S w w')(hb:Below w'.heap.size w' w''):KeptBut S w w'' :=
 ⟨hb.os.trans h.os,hb.tape.trans h.tape,hb.output.trans h.output,zV h.size hb.size,fun k hk hs=>(hb.block k (zL hk h.size)).trans (h.block k hk hs)⟩
theorem KeptBut.setCell{S:Nat->Prop}{w w':World}(h:KeptBut S w w'){p:Addr}(hp:w.heap.size<=p.block\/S p.block)(v:Value):KeptBut S w (w'.setCell p v) :=
 ⟨h.os,h.tape,h.output,by simpa [World.setCell] using h.size,fun k hk hs=>(zg _ _ _ _ (fun e=>by subst e;rcases hp with hp|hp;(· omega);(· exact hs hp))).trans (h.block k hk hs)⟩
theorem KeptBut.grown{S:Nat->Prop}{w w' w'':World}{row:Option Nat}(h:KeptBut S w w')(hg:w'.grownBy w'' row)(hr:∀k,row=some k->w.heap.size<=k\/S k):KeptBut S w w'' :=
 ⟨hg.os.trans h.os,hg.tape.trans h.tape,hg.output.trans h.output,zV h.size hg.size,fun k hk hs=>
   (hg.block k (zL hk h.size) (fun e=>by rcases hr k e.symm with h1|h1;(· omega);(· exact hs h1))).trans (h.block k hk hs)⟩
theorem KeptBut.to{S:Nat->Prop}{B:Nat}{w0 w w':World}(h:KeptBut S w w')(h0:Below B w0 w)(hB:B<=w.heap.size)(hS:∀k,S k->B<=k):Below B w0 w' :=
 h0.trans ⟨h.os,h.tape,h.output,h.size,fun k hk=>h.block k (by omega) (fun hs=>by have:=hS k hs;omega)⟩
def Box(t:TypeId)(W:World)(b:Nat)(v:Value):Prop:=W.heap[b]? = some (.cells #[v] t (0,0))
theorem Box.cell{t:TypeId}{W:World}{b:Nat}{v:Value}(h:Box t W b v):W.cell? ⟨b,0,none⟩=some v:=by
 unfold Box at h;simp[World.cell?,h]
theorem Box.frozen{t:TypeId}{W:World}{b:Nat}{v:Value}(h:Box t W b v):W.frozen? ⟨b,0,none⟩=false:=by
 unfold Box at h;simp[World.frozen?,h]
theorem Box.lt{t:TypeId}{W:World}{b:Nat}{v:Value}(h:Box t W b v):b<W.heap.size:=(Array.getElem?_eq_some_iff.1 h).1
theorem Box.set{t:TypeId}{W:World}{b:Nat}{v:Value}(h:Box t W b v)(u:Value):Box t (W.setCell ⟨b,0,none⟩ u) b u:=by
 unfold Box at h ⊢;simp[World.setCell,Array.getElem?_modify,h]
theorem Box.other{t:TypeId}{W:World}{b:Nat}{v:Value}(h:Box t W b v)(p:Addr)(u:Value)(hp:b≠p.block):Box t (W.setCell p u) b v:=by
 unfold Box at h ⊢;rw[zg _ _ _ _ hp];exact h
theorem Box.below{t:TypeId}{W W':World}{b n:Nat}{v:Value}(h:Box t W b v)(hb:Below n W W')(hn:b<n):Box t W' b v:=by
 unfold Box at h ⊢;rw[hb.block b hn];exact h
theorem Row.other{t:TypeId}{W:World}{g:Nat}{zs:List Nat}(h:Row t W g zs)(p:Addr)(u:Value)(hp:g≠p.block):Row t (W.setCell p u) g zs:=by
 unfold Row at h ⊢;rw[zg _ _ _ _ hp];exact h
theorem Row.below{t:TypeId}{W W':World}{g n:Nat}{zs:List Nat}(h:Row t W g zs)(hb:Below n W W')(hn:g<n):Row t W' g zs:=by
 unfold Row at h ⊢;rw[hb.block g hn];exact h
theorem IK(t ty e:TypeId)(i:TypeInfo)(B:Nat)(w:World)(ht:prog.underlying t=some (.slice e))(hi:prog.info? e=some i)(hz:i.zero=some (.int .u64 0))(hs:i.size=1)(h:i.bytes=8)
 (v sv:Value)(n:Nat)(xs ys:List Nat)(a:Own e B w v n xs)(s:Sl w sv ys)(hb:n+ys.length<=1000000)(hB:B<=w.heap.size):
 ∃v' w',(Builtin.append_ #[t,t] ty #[v,sv]).run prog w=.ok v' w'/\Own e B w' v' (n+ys.length) (xs++ys)/\w.grownBy w' v.ownBlock:=by
 rcases s.shape with⟨rfl,rfl⟩|⟨b,off,cap,rfl,aa,_,hc⟩
 .refine⟨v,w,run_append_owned_none w B t ty e i 1 ht hi v n _ a,?_,World.grownBy.refl _ _⟩
  simpa using a
 obtain ⟨v',w',h1,h2,h3,_⟩:=wn w B t ty e i (.int .u64 0) 1 8 ht hi hz hs h rfl (by decide) v n _ a ⟨b,off,none⟩ ys.length cap (C7 ys) (by simp[C7])
  (fun j u hj=>by
    simp only[C7,List.getElem?_map,Option.map_eq_some_iff]at hj;obtain⟨y,hy,rfl⟩:=hj;have d:=(List.getElem?_eq_some_iff.1 hy).1;have:=hc j d;rw[DY _ _ d,(List.getElem?_eq_some_iff.1 hy).2]at this;rw[Lib.add_plain];exact this)
  (fun u hu=>by simp only[C7,vj]at hu;obtain⟨y,_,rfl⟩:=hu;rfl) (by unfold maxLen;omega) (by omega) hB
 refine⟨v',w',h1,?_,h3⟩;unfold Own;rw[C7,yf];exact h2
theorem FJ{F:Fence}{N:Nat}(w:World){ops:Array Oper}{rest:List Oper}{o:Oper}{a:Act}{Q:Exit->Act->World->Prop}
 (hg:o.guard=none)(s x:Operand)(t:TypeId)(d:o.op=Op.call { callee:=Callee.builtin Builtin.append,args:=#[s,x],argTypes:=#[t,t] })(e:TypeId)(i:TypeInfo)(B:Nat)
 (ht:prog.underlying t=some (.slice e))(hi:prog.info? e=some i)(hz:i.zero=some (.int .u64 0))(ag:i.size=1)(ad:i.bytes=8)
 (v sv:Value)(n:Nat)(xs ys:List Nat)(hs:a.eval s=v)(hx:a.eval x=sv)(h:Own e B w v n xs)(af:Sl w sv ys)(hb:n+ys.length<=1000000)(hB:B<=w.heap.size)
 (hK:∀v' w',Own e B w' v' (n+ys.length) (xs++ys)->w.grownBy w' v.ownBlock->wpListIn F N prog ops Q rest (a.put o.dst v') w'):
 wpListIn F N prog ops Q (o::rest) a w:=by
 refine wpListIn_plain hg fun K ab=>?_;obtain⟨v',w',aa,r1,r2⟩:=IK t o.type e i B w ht hi hz ag ad v sv n xs ys h af hb hB;unfold Oper.wpIn;refine⟨?_,?_⟩
 .simp[Oper.about,d,resolve,Target.leads,Sem.run_pure]
 rw[Oper.semAt_plain F _ _ (by rw[d];intro c ae;cases ae)];simp[execOp,d,resolve,invoke,builtin,hs,hx,aa,Result.andThen];exact ab _ _ (hK v' w' r1 r2)
theorem Sl.kept{A B:World}{row:Option Nat}{v:Value}{xs:List Nat}(h:Sl A v xs)(hg:A.grownBy B row)(hr:∀r,row=some r->∃o:Obj,A.heap[r]? = some o/\o.isCells=false):Sl B v xs:=by
 obtain⟨a,cap,rfl,hn,hs⟩:=h;refine⟨a,cap,rfl,hn,fun ad e=>?_⟩;obtain⟨h1,h2,h3,h4⟩:=hs ad e;exact⟨h1,zL h2 hg.size,h3,fun i hi=>cell_kept (h4 i hi) hg hr⟩
theorem Num.kept{A B:World}{row:Option Nat}{v:Value}{n:Nat}(h:Num A v n)(hg:A.grownBy B row)(hr:∀r,row=some r->∃o:Obj,A.heap[r]? = some o/\o.isCells=false):Num B v n:=by
 obtain⟨xs,h1,h2,h3⟩:=h;exact⟨xs,h1,h2,h3.kept hg hr⟩
theorem Sl.setCell{W:World}{v:Value}{xs:List Nat}{B:Nat}(h:Sl W v xs)(hf:From B v)(p:Addr)(hp:p.block<B)(u:Value):Sl (W.setCell p u) v xs:=by
 obtain⟨a,cap,rfl,hn,hs⟩:=h;refine⟨a,cap,rfl,hn,fun ad e=>?_⟩;obtain⟨h1,h2,h3,h4⟩:=hs ad e;subst e;have hB:B<=ad.block:=hf;refine⟨h1,by simpa [World.setCell] using h2,h3,fun i hi=>?_⟩;rw[<-h4 i hi];exact zR (w:=W) (a:=⟨ad.block,ad.off+i,none⟩) (zg _ _ _ _ (by show ad.block≠p.block;omega))
theorem Num.setCell{W:World}{v:Value}{n B:Nat}(h:Num W v n)(hf:From B v)(p:Addr)(hp:p.block<B)(u:Value):Num (W.setCell p u) v n:=by
 obtain⟨xs,h1,h2,h3⟩:=h;exact⟨xs,h1,h2,h3.setCell hf p hp u⟩
theorem From.mono{B B':Nat}{v:Value}(h:From B v)(hb:B'<=B):From B' v:=by
 unfold From at h ⊢
 split
 .exact zV hb h
 trivial
theorem Num.shape{W:World}{v:Value}{n:Nat}(h:Num W v n):∃a l c,v=.slice a l c:=by
 obtain⟨xs,_,_,a,c,h,_⟩:=h;exact⟨a,_,c,h⟩
def CY(xs:List Nat)(M:Nat)(s:Nat×List Nat)(x:BJ xs.length):Nat×List Nat :=
 if lim xs x.1+1000000000*s.1<M then (lim xs x.1+1000000000*s.1,s.2)
 else ((lim xs x.1+1000000000*s.1)%M,s.2.set x.1 ((lim xs x.1+1000000000*s.1)/M))
def BQ(xs:List Nat)(M:Nat)(pre:List (BJ xs.length)):Nat×List Nat:=pre.foldl (CY xs M) (0,List.replicate xs.length 0)
theorem FK(xs:List Nat)(M:Nat)(pre:List (BJ xs.length))(x:BJ xs.length):BQ xs M (pre++[x])=CY xs M (BQ xs M pre) x:=by
 simp[BQ,List.foldl_append]
def Vf(w W1:World)(xs:List Nat)(M:Nat)(pre:List (BJ xs.length))(W:World):Prop :=
 (∃rv,Box 135 W (w.heap.size+1+1+1) rv/\Num W rv (BQ xs M pre).1/\From W1.heap.size rv)/\Row 154 W (w.heap.size+1) (BQ xs M pre).2 /\
 (BQ xs M pre).1<M/\(BQ xs M pre).2.length=xs.length/\InR (BQ xs M pre).2/\KeptBut (fun k=>k=w.heap.size+1\/k=w.heap.size+1+1+1) W1 W
theorem IL(xs:List Nat)(M:Nat)(p:Nat)(hp:p<xs.length)(s:Nat×List Nat)(hM:0<M)(hz:s.2.length=xs.length)(h0:∀j,j<=p->lim s.2 j=0)
 (h4:lv s.2*M+1000000000^(p+1)*s.1+lo xs (p+1)=lv xs):
 (CY xs M s ⟨p,hp⟩).1<M/\(CY xs M s ⟨p,hp⟩).2.length=xs.length/\(∀j,j<p->lim (CY xs M s ⟨p,hp⟩).2 j=0) /\
 lv (CY xs M s ⟨p,hp⟩).2*M+1000000000^p*(CY xs M s ⟨p,hp⟩).1+lo xs p=lv xs:=by
 obtain⟨r,zs⟩:=s;dsimp only at hz h0 h4;rw[Cw,zy]at h4;unfold CY;dsimp only;generalize lim xs p=x at h4 ⊢;have key:1000000000^p*(x+1000000000*r)=1000000000^p*x+1000000000^p*1000000000*r:=by rw[yQ,zz]
 split
 .rename_i hlt;exact⟨hlt,hz,fun j hj=>h0 j (by omega),by dsimp only;omega⟩
 rename_i hge;have hs:=My zs p ((x+1000000000*r)/M) (by omega);rw[h0 p (zB _)]at hs;refine⟨xv _ hM,by simpa using hz,fun j hj=>by rw[B9 _ _ _ _ (by omega)];exact h0 j (by omega),?_⟩;dsimp only;have e1:lv (zs.set p ((x+1000000000*r)/M))=lv zs+1000000000^p*((x+1000000000*r)/M):=by omega
 have e2:1000000000^p*(x+1000000000*r)=1000000000^p*(M*((x+1000000000*r)/M))+1000000000^p*((x+1000000000*r)%M):=by rw[<-yQ,Nat.div_add_mod]
 have e3:1000000000^p*((x+1000000000*r)/M)*M=1000000000^p*(M*((x+1000000000*r)/M)):=by rw[zz,zw M]
 rw[e1,yE,e3];omega
theorem MC(xs:List Nat)(M:Nat)(hM:0<M)(k:Nat)(hk:k<=xs.length):
 (BQ xs M (CO xs.length k)).1<M/\(BQ xs M (CO xs.length k)).2.length=xs.length/\(∀j,j<xs.length-k->lim (BQ xs M (CO xs.length k)).2 j=0) /\
 lv (BQ xs M (CO xs.length k)).2*M+1000000000^(xs.length-k)*(BQ xs M (CO xs.length k)).1+lo xs (xs.length-k)=lv xs:=by
 induction k with
 |zero=>
  refine⟨hM,by simp[BQ,Dv],fun j hj=>by simp only[BQ,Dv,wm];exact Eb _ _,?_⟩;simp only[BQ,Dv,wm,Nat.sub_zero];rw[HH _ (fun j hj=>Eb _ _),DZ _ _ (zB _)];omega
 |succ k ih=>
  obtain⟨_,h2,h3,h4⟩:=ih (by omega);rw[CP _ _ (by omega),FK];have e1:xs.length-(k+1)=xs.length-1-k:=by omega
  have e2:xs.length-k=xs.length-1-k+1:=by omega
  rw[e1];rw[e2]at h3 h4;exact IL xs M _ _ _ hM h2 (fun j hj=>h3 j (by omega)) h4
theorem Pv(xs:List Nat)(M:Nat)(hM:0<M):lv (BQ xs M (CO xs.length xs.length)).2=lv xs/M/\(BQ xs M (CO xs.length xs.length)).1=lv xs%M:=by
 obtain⟨h1,_,_,h4⟩:=MC xs M hM xs.length (zB _);rw[Nat.sub_self,Nat.pow_zero,Nat.one_mul,DP,xH]at h4;constructor
 .rw[<-h4,zw,Nat.mul_add_div hM,ve h1,xH]
 rw[<-h4,zw,Nat.mul_add_mod,xZ h1]
theorem Rt(w:World)(a:Option Addr)(cap:Nat)(xs:List Nat)(mc:Option Addr)(ml mcap M:Nat)(hl:xs.length<=200)(hx:Hid (InR xs))(b:Nat)(hb:b<w.heap.size)
 (ha:Hid (SlAt w b (.slice a xs.length cap) xs))(hM:Hid (Num w (.slice mc ml mcap) M))(ay:0<M)(aD:Hid (Cd (M*1000000000))):
 Calls prog 115 #[.slice a xs.length cap,.slice mc ml mcap] w fun e w' =>
  (∃v u,e=.returned (.tuple #[v,u])/\Num w' v (lv xs/M)/\Num w' u (lv xs%M))/\Below w.heap.size w w':=by
 have bn:=E4 xs.length (by omega);refine(callsIn_wide (n:=9)).1 ?_;refine callsIn_of_wp_marks func115 rfl trivial ?_ rfl;simp only[ntmps115,wF,zn,yc,Nat.reduceAdd,Nat.reduceSub,xh,xi,wG,xq,yW,xB]
 gi_wp2_with (first
  |(refine⟨trivial,?_⟩;gi_at_call 149;refine(Dw Fence.wide _ trivial rfl _ _ _ _).mono ?_;rintro e w' ⟨rfl,rfl⟩)
  |(gi_at_call 149;refine(Dw Fence.wide _ trivial rfl _ _ _ _).mono ?_;rintro e w' ⟨rfl,rfl⟩))
 obtain⟨f1,f2,f3,f4,f5,f6,f7⟩:=WO w (.cells #[.slice mc ml mcap] 135) (.cells (madeCells #[.int .u64 0] xs.length) 154) (.cells #[.slice (some ⟨w.heap.size+1,0,none⟩) xs.length xs.length] 135) (.cells #[.slice none 0 0] 135) (.cells #[.slice a xs.length cap] 135);generalize ((((w.alloc (.cells #[.slice mc ml mcap] 135)).alloc (.cells (madeCells #[.int .u64 0] xs.length) 154)).alloc (.cells #[.slice (some ⟨w.heap.size+1,0,none⟩) xs.length xs.length] 135)).alloc (.cells #[.slice none 0 0] 135)).alloc (.cells #[.slice a xs.length cap] 135)=W1 at f1 f2 f3 f4 f5 f6 f7 ⊢;rw[KJ]at f2;have aW:W1.cell? ⟨w.heap.size+1+1+1+1,0,none⟩=some (.slice a xs.length cap):=Box.cell f5;have aZ:SlAt W1 b (.slice a xs.length cap) xs:=ha.o.keep (c:=b) (Keep2.of_below f7 hb hb);have a3:Num W1 (.slice mc ml mcap) M:=hM.o.below f7
 refine wpIn_rangeFunc_ownF rfl (by decide) (gf:=178) (lb:=#[.pointer (some ⟨w.heap.size+1+1+1+1,0,none⟩)]) rfl trivial (enters_of func178 (by kernel_rfl) rfl)
  (FI Fence.wide _ trivial rfl (by decide) (w.heap.size+1+1+1+1) b _ xs (by omega) W1 (by omega) (by omega) aW aZ) (fun h k=>h.trans k)
  (fun W l o o' hl h ho hw=>?kb) (zI _ _) (fun _=>rfl)
  (Vf w W1 xs M) (fun _ _ _=>False)
  (fun s A B row hs hg hr=>?own)
  (fun _ _ _ _ _ hs _ _=>hs)
  ⟨⟨_,f4,⟨[],⟨fun x hx=>absurd hx (by simp),by simp⟩,rfl,Sl.nil _⟩,trivial⟩,f2,ay,by simp[BQ],InR.zeros _,KeptBut.refl _ _⟩
  (fun x=>{ tmps:=#[.slice a xs.length cap,.slice mc ml mcap,undef,.pointer (some ⟨w.heap.size,0,none⟩),.slice none 0 0,.slice none 0 0,.pointer (some ⟨w.heap.size+1+1,0,none⟩),.pointer (some ⟨w.heap.size+1+1+1,0,none⟩),
    .int .i64 (x.1:Int),.int .u64 (lim xs x.1),undef,.slice a xs.length cap,.int .i64 xs.length,.slice (some ⟨w.heap.size+1,0,none⟩) xs.length xs.length,.slice a xs.length cap,
    .func (.func 178) #[] #[.pointer (some ⟨w.heap.size+1+1+1+1,0,none⟩)],.int .i64 (x.1:Int),.int .u64 (lim xs x.1),
    undef,undef,undef,undef,undef,undef,undef,undef,undef,undef,undef,undef,undef,undef,undef,undef,undef,undef,undef,undef,undef,undef,undef,undef,undef,undef],defers:=[] })
  ?assign ?body ?done ?stop
 case kb=>
  have h1:=(Array.getElem?_eq_some_iff.1 h).1;exact⟨xN (by omega),xN (by omega)⟩
 case own=>
  obtain⟨⟨rv,s1,s2,s2f⟩,s3,s4,s5,s6,s7⟩:=hs;have ak:=fun r e=>(hr r e).2;exact⟨⟨rv,D7 s1 hg ak,s2.kept hg ak,s2f⟩,D7 s3 hg ak,s4,s5,s6,s7.grown hg (fun k e=>.inl (hr k e).1)⟩
 case assign=>
  intro l x W K hK
  gi_wp2
  exact hK
 case body=>
  rintro l pre x W ⟨⟨rv,s1,⟨rs,c1,c2,c3⟩,s2f⟩,s3,s4,s5,s6,s7⟩ bN;obtain⟨i0,hi,bv,bx,bz⟩:=vK KQ;have af:=s7.size;have bB:w.heap.size<W.heap.size:=by omega
  have a5:w.heap.size+1<W.heap.size:=by omega
  have bC:w.heap.size+1+1<W.heap.size:=by omega
  have a6:w.heap.size+1+1+1<W.heap.size:=by omega
  have bE:=Box.cell s1;have bF:=Box.frozen s1;have bm:=hx.o.lim x.1;have aF:Box 135 W w.heap.size (.slice mc ml mcap):=(s7.block w.heap.size (by omega) (by omega)).trans f1;have ag:Box 135 W (w.heap.size+1+1) (.slice (some ⟨w.heap.size+1,0,none⟩) xs.length xs.length):=(s7.block (w.heap.size+1+1) (by omega) (by omega)).trans f3;have bD:=Box.cell (show Box 135 W w.heap.size (.slice mc ml mcap) from(s7.block w.heap.size (by omega) (by omega)).trans f1);have aL:Own 154 W.heap.size (W.alloc (.cells #[.int .u64 (lim xs x.1)] 154)) (.slice (some ⟨W.heap.size,0,none⟩) 1 1) 1 [lim xs x.1]:=World.ownsRow_lit W #[.int .u64 (lim xs x.1)] 1 (zB _) (by unfold maxLen;omega) rfl;have aN:Sl (W.alloc (.cells #[.int .u64 (lim xs x.1)] 154)) rv rs:=c3.below ((zI _ _).alloc (zB _) _);obtain⟨ar,capr,bH,_⟩:=c3.addr;subst bH;have C1:=zh c1;have C2:=zh c2;have S3:=zh s3;have S4:=zh s4;have S5:=zh s5;have S6:=zh s6;have S7:=zh s7;have bW:rs.length<=200:=c1.len_le (Ce aD.o (by omega));have F6:=zh f6;replace af:=zh af;clear c1 c2 s3 s4 s5 s6 s7 aZ a3 bn f1 f2 f3 f4 f5 f6 aW c3
  gi_wp2_with (gi_at_builtin;refine FJ _ rfl _ _ 135 rfl 154 i0 W.heap.size underlying135 hi bv bx bz _ _ 1 [lim xs x.1] rs rfl rfl aL aN (by omega) (by simp) ?_;intro v1 w1 ah aK)
  refine⟨trivial,?_⟩;refine(ye l (callsIn_wide.2 (D6 w1 v1 (lim xs x.1::rs) (by simp;omega) ah.sl))).mono ?_;rintro e w2 ⟨v2,k2,rfl,a0,aY,bg,rfl⟩;have F2:=bg _ ah.from
  have N2:Num w1 v2 (lim xs x.1+1000000000*(BQ xs M pre).1):=⟨_,a0.canon (fun y hy=>by
   rcases List.mem_cons.1 hy with h|h
   .rw[h];exact bm
   exact C1.o.1 y h),by rw[a0.lv,lv,C2.o],aY⟩
  have aw:Below W.heap.size W w1:=((zI W.heap.size W).alloc (zB _) _).grown aK (by simp) (fun k e=>by cases e;exact zB _);have s1':Box 135 w1 (w.heap.size+1+1+1) (.slice ar rs.length capr):=s1.below aw a6;have ao:=aF.below aw bB;have a9:=ao.cell;have bc:=s1'.cell;have bk:=s1'.frozen
  obtain ⟨a2,n2,cap2,e2⟩:∃a n c,v2=.slice a n c:=by
   obtain⟨a,c,h,_⟩:=aY;exact⟨a,_,c,h⟩
  subst e2;generalize aA:lim xs x.1+1000000000*(BQ xs M pre).1=r1 at N2
  have bp:Cd r1:=by
   rw[<-aA];exact Ce aD.o (by have:=S4.o;omega)
  have aC:r1<M*1000000000:=by rw[<-aA];have:=S4.o;omega
  have HR1:=zh aA;replace aC:=zh aC;have HB1:=zh aw;replace N2:=zh N2;replace F2:=zh F2;clear aA aw aY bg a0 ah aK aL aN bE bF C1 C2 hi bv bx bz s1
  gi_wp2
  -- the world behind the store of the rest
  have aO:=HB1.o.size;have s1'':=s1'.set (.slice a2 n2 cap2);have al:Below w.heap.size w (w1.setCell ⟨w.heap.size+1+1+1,0,none⟩ (.slice a2 n2 cap2)):=((S7.o.to f7 f7.size (fun k h=>by omega)).trans (HB1.o.mono (by omega))).setCell (by simp;omega) _;have N3:Num (w1.setCell ⟨w.heap.size+1+1+1,0,none⟩ (.slice a2 n2 cap2)) (.slice a2 n2 cap2) r1:=N2.o.setCell F2.o _ a6 _;have K3:KeptBut (fun k=>k=w.heap.size+1\/k=w.heap.size+1+1+1) W1 (w1.setCell ⟨w.heap.size+1+1+1,0,none⟩ (.slice a2 n2 cap2)):=(S7.o.below HB1.o).setCell (.inr (.inr rfl)) _;have R3:=((S3.o.below HB1.o a5).other ⟨w.heap.size+1+1+1,0,none⟩ (.slice a2 n2 cap2) (by simp));have aP:W.heap.size<=(w1.setCell ⟨w.heap.size+1+1+1,0,none⟩ (.slice a2 n2 cap2)).heap.size:=by simpa [World.setCell] using aO
  have aj:=ao.other ⟨w.heap.size+1+1+1,0,none⟩ (.slice a2 n2 cap2) (by simp;omega);have au:=(ag.below HB1.o bC).other ⟨w.heap.size+1+1+1,0,none⟩ (.slice a2 n2 cap2) (by simp);have KO3:KeepsOthers W (w1.setCell ⟨w.heap.size+1+1+1,0,none⟩ (.slice a2 n2 cap2)):=(KeepsOthers.of_below HB1.o).trans (xp _ _ _);have KK3:Keep2 b (w.heap.size+1+1+1+1) W (w1.setCell ⟨w.heap.size+1+1+1,0,none⟩ (.slice a2 n2 cap2)):=(Keep2.of_below HB1.o (by omega) (by have:=F6.o;have:=af.o;omega)).trans (Keep2.setCell _ _ _ (by simp;omega) (by simp));generalize w1.setCell ⟨w.heap.size+1+1+1,0,none⟩ (.slice a2 n2 cap2)=w3 at s1'' al N3 K3 R3 aP aj au KO3 KK3 ⊢;clear ao a9 s1' bc bk N2 aF ag bD HB1 aO;refine⟨trivial,?_⟩;refine(ye l (callsIn_wide.2 (EP w3 _ _ r1 M N3 (hM.o.below al) ?sm1 ?sm2))).mono ?_
  case sm1=>exact bp
  case sm2=>omega
  rintro e w4 ⟨rfl,aa⟩
  by_cases hlt:r1<M
  .rw[Cy hlt]
   gi_wp2
   have e:BQ xs M (pre++[x])=(r1,(BQ xs M pre).2):=by rw[FK,CY,HR1.o,zE hlt]
   refine⟨KO3.trans (KeepsOthers.of_below aa),KK3.trans (Keep2.of_below aa (by omega) (by have:=F6.o;have:=af.o;omega)),?_⟩;unfold Vf;rw[e];exact⟨⟨_,s1''.below aa (by omega),N3.below aa,F2.o.mono af.o⟩,R3.below aa (by omega),hlt,S5.o,S6.o,K3.below aa⟩
  .rw [show B0 r1 M=B0 r1 M from rfl]
   have aX:decide (B0 r1 M<0)=false:=by
    rcases xQ M r1 with h|h
    .rw[Ga h];rfl
    rw[show r1=M by omega,JV];rfl
   generalize B0 r1 M=cr at aX ⊢;have bQ:¬cr<0:=by simpa using aX
   clear aX
   gi_wp2
   refine⟨trivial,?_⟩;have bs:=aa.size;have M4:=(hM.o.below al).below aa;have N4:=N3.below aa;have aG:=(aj.below aa (by omega)).cell;have aH:=(s1''.below aa (by omega)).cell
   refine (ye l (callsIn_wide.2 (MB 999999999 (by omega) (fun k=>decide (r1<M*(k+1))) (.pointer (some ⟨w.heap.size,0,none⟩)) (.pointer (some ⟨w.heap.size+1+1+1,0,none⟩)) w4
    (fun a b bO bP h=>by
      have h1:M*(a+1)<=M*(b+1):=yT _ (by omega);simp only[yN]at h ⊢;omega)
    (fun W' i az hi=>KW W' i hi w.heap.size (w.heap.size+1+1+1) _ _ M r1 ((az.cell (p:=⟨w.heap.size,0,none⟩) (by simp;omega)).trans aG) ((az.cell (p:=⟨w.heap.size+1+1+1,0,none⟩) (by simp;omega)).trans aH) (M4.below az) (N4.below az) aD)))).mono ?_
   rintro e w5 ⟨d,rfl,bd,be,bf,ab⟩
   have hd:d=r1/M:=by
    have bo:=aC.o;refine(Nat.div_eq_of_lt_le ?_ ?_).symm
    .cases d with
     |zero=>simp
     |succ d=>have:=be d (by omega);simp only[zM]at this;rw[zw];omega
    by_cases h:d<999999999
    .have:=bf h;simp only[yN]at this;rw[zw];exact this
    obtain rfl:d=999999999:=by omega
    rw[zw];exact bo
   have bt:=ab.size;have M5:=M4.below ab;have N5:=N4.below ab;have aQ:=(aj.below aa (by omega)).below ab (by omega);have aR:=(au.below aa (by omega)).below ab (by omega);have aS:=(s1''.below aa (by omega)).below ab (by omega);have R5:=(R3.below aa (by omega)).below ab (by omega);have K5:=(K3.below aa).below ab;have KO5:=(KO3.trans (KeepsOthers.of_below aa)).trans (KeepsOthers.of_below ab);have KK5:=(KK3.trans (Keep2.of_below aa (by omega) (by have:=F6.o;have:=af.o;omega))).trans (Keep2.of_below ab (by omega) (by have:=F6.o;have:=af.o;omega));have a1:=(al.trans (aa.mono (by omega))).trans (ab.mono (by omega));have bq:W.heap.size<=w5.heap.size:=by omega
   clear bs M4 N4 aG aH bd be bf ab aa bt N3 R3 K3 s1'' aj au KO3 KK3 al aP;have ba:=aR.cell;have a7:=R5.cell (i:=x.1) (by have:=S5.o;have:=x.2;omega);have bi:=R5.frozen x.1;have bX:x.1<xs.length:=x.2;have bT:d<=999999999:=by rw[hd];have:=aC.o;exact Nat.le_of_lt_succ (Nat.div_lt_of_lt_mul (by omega))
   have HD:=zh hd;clear hd
   gi_wp2
   have bI:(w5.setCell ⟨w.heap.size+1,x.1,none⟩ (.int .u64 (d:Int))).heap.size=w5.heap.size:=by simp[World.setCell]
   have M6:Num (w5.setCell ⟨w.heap.size+1,x.1,none⟩ (.int .u64 (d:Int))) (.slice mc ml mcap) M:=hM.o.below (a1.setCell (vO _) _);have N6:=N5.setCell F2.o ⟨w.heap.size+1,x.1,none⟩ a5 (.int .u64 (d:Int));have aq:=aQ.other ⟨w.heap.size+1,x.1,none⟩ (.int .u64 (d:Int)) (yb (yB _));have ae:=aS.other ⟨w.heap.size+1,x.1,none⟩ (.int .u64 (d:Int)) (by show w.heap.size+1+1+1≠w.heap.size+1;omega);have R6:=R5.set x.1 d;have K6:=K5.setCell (p:=⟨w.heap.size+1,x.1,none⟩) (.inr (.inl rfl)) (.int .u64 (d:Int));have KO6:=KO5.trans (xp w5 ⟨w.heap.size+1,x.1,none⟩ (.int .u64 (d:Int)));have KK6:=KK5.trans (Keep2.setCell w5 ⟨w.heap.size+1,x.1,none⟩ (.int .u64 (d:Int)) (by simp;omega) (by simp;omega));have br:W.heap.size<=(w5.setCell ⟨w.heap.size+1,x.1,none⟩ (.int .u64 (d:Int))).heap.size:=by omega
   generalize w5.setCell ⟨w.heap.size+1,x.1,none⟩ (.int .u64 (d:Int))=w6 at M6 N6 aq ae R6 K6 KO6 KK6 br ⊢;have bd:1<=d:=by rw[HD.o];exact(Nat.one_le_div_iff ay).2 (by omega)
   have aT:M*d<=r1:=by rw[HD.o];exact Nat.mul_div_le r1 M
   have an:=OA w6 d (by omega) (by omega) (X:=(d:Int)) rfl;have cM:=JW (w6.alloc (.cells #[.int .u64 (d:Int)] 154)).drew (.slice mc ml mcap) (.slice (some ⟨w6.heap.size,0,none⟩) 1 1) M d (M6.below ((zI _ _).alloc (zB _) _).drew) an (Ce aD.o (by omega)) (Ic (by omega));have bK:=aq.cell;have aI:=ae.cell;have bj:=ae.frozen;have bU:w.heap.size<w6.heap.size:=by omega
   have aB:w.heap.size+1+1+1<w6.heap.size:=by omega
   have s1:IntKind.u64.wrap (d:Int)=(d:Int):=IntWalk.u64_in _ (by omega);replace aT:=zh aT;replace N6:=zh N6;replace an:=zh an;replace R6:=zh R6;replace K6:=zh K6;replace KO6:=zh KO6;replace KK6:=zh KK6;replace ae:=zh ae;clear M6 aq bI N5 aQ aS aR ba a7 bi R5 K5 KO5 KK5 a1 bq M5
   gi_region_with (first
    |(refine⟨trivial,?_⟩;gi_at_call 117;refine(ye l (callsIn_wide.2 cM)).mono ?_;rintro e w7 ⟨v7,rfl,bJ,_,aU⟩;have ad:Below w6.heap.size w6 w7:=((zI w6.heap.size w6).alloc (zB _) _).drew.trans (aU.mono (by simp));have bb:=(ad.cell (p:=⟨w.heap.size+1+1+1,0,none⟩) aB).trans aI;replace aU:=zh aU;replace ad:=zh ad)
    |(refine⟨trivial,?_⟩;gi_at_call 153;refine(ye l (callsIn_wide.2 (O8 w7 (.slice a2 n2 cap2) v7 r1 (M*d) (N6.o.below ad.o) bJ aT.o bp))).mono ?_;rintro e w8 ⟨v8,rfl,bu,bh,aV⟩;have ai:Below w6.heap.size w6 w8:=ad.o.trans (aV.mono ad.o.size);have bL:=(ai.cell (p:=⟨w.heap.size+1+1+1,0,none⟩) aB).trans aI;have bM:=(ai.frozen (p:=⟨w.heap.size+1+1+1,0,none⟩) aB).trans bj;obtain⟨a8,n8,cap8,e8⟩:∃a n c,v8=.slice a n c:=bu.shape;subst e8;replace bh:=zh (From.mono bh ad.o.size);replace aV:=zh aV;replace ai:=zh ai;clear bb))
   all_goals
    have am:=Hid.o (p:=Below w6.heap.size w6 w8) (by assumption);have aJ:=Hid.o (p:=From w6.heap.size (.slice a8 n8 cap8)) (by assumption)
    gi_wp2
    have hq:(d:Nat)<1000000000:=by omega
    have e:BQ xs M (pre++[x])=(r1-M*d,(BQ xs M pre).2.set x.1 d):=by
     rw[FK,CY,HR1.o,zC hlt,HD.o,Nat.mod_eq_sub]
    refine⟨(KO6.o.trans (KeepsOthers.of_below am)).trans (xp _ _ _),(KK6.o.trans (Keep2.of_below am (by omega) (by have:=F6.o;have:=af.o;omega))).trans (Keep2.setCell _ _ _ (by show b≠w.heap.size+1+1+1;omega) (by show w.heap.size+1+1+1+1≠w.heap.size+1+1+1;omega)),?_⟩;unfold Vf;rw[e];refine⟨⟨_,(ae.o.below am (by omega)).set _,bu.setCell aJ _ aB _,aJ.mono (by have:=af.o;omega)⟩,(R6.o.below am (by omega)).other _ _ (by show w.heap.size+1≠w.heap.size+1+1+1;omega),?_,by simpa using S5.o,S6.o.set _ _ hq,(K6.o.below am).setCell (.inr (.inr rfl)) _⟩;rw[HD.o,<-Nat.mod_eq_sub];exact xv _ ay
 case done=>
  rintro D zs W hD rfl ⟨⟨rv,s1,s2,s2f⟩,s3,s4,s5,s6,s7⟩ hK;have ag:Box 135 W (w.heap.size+1+1) (.slice (some ⟨w.heap.size+1,0,none⟩) xs.length xs.length):=(s7.block (w.heap.size+1+1) (by omega) (by omega)).trans f3;have bR:=ag.cell;have bS:=s1.cell;have ax:Below w.heap.size w W:=s7.to f7 f7.size (fun k h=>by omega);have aE:=Pv xs M ay;have aM:=s3.sl;rw[s5]at aM;obtain⟨ar,lr,cr,erv⟩:=s2.shape;subst erv;have bG:(BQ xs M (CO xs.length xs.length)).2.length<=1000000:=by rw[s5];omega
  replace aE:=zh aE;replace s2:=zh s2;replace s6:=zh s6;replace ax:=zh ax;have HK:=zh hK;clear s1 s3 s4 s5 s7 f1 f2 f3 f4 f5 f6 aZ a3 bn aW ag hK
  gi_wp2
  refine wpIn_wide.2 ?_
  go_region_held3 (fun w'=>w'.cell? ⟨w.heap.size+1+1,0,none⟩=some (.slice (some ⟨w.heap.size+1,0,none⟩) xs.length xs.length)/\w'.cell? ⟨w.heap.size+1+1+1,0,none⟩=some (.slice ar lr cr))
   (first
     |go_keep
     |(go_split_ands
       refine⟨?_,?_⟩
       .assumption
       assumption))
   ((go_at_call 148;refine(D6 W.drew (.slice (some ⟨w.heap.size+1,0,none⟩) xs.length xs.length) _ bG aM).mono ?_;rintro e w' ⟨v,k,rfl,ht,hs,hf,rfl⟩))
  gi_wp2
  refine⟨by simp,.inl ⟨_,_,rfl,vC (show W.drew.heap[D]? = _ from HK.o),?_⟩⟩;have ak:∀r,(some D)=some r->∃o:Obj,W.drew.heap[r]? = some o/\o.isCells=false:=fun r e=>by cases e;exact⟨_,HK.o,rfl⟩
  have hg:=wC W.drew D (.deferred none)
  have a4:Num (W.drew.putObj D (.deferred none)) v (lv xs/M):=by
   rw[<-aE.o.1];exact⟨_,ht.canon s6.o,ht.lv,Sl.kept hs hg ak⟩
  have bA:Num (W.drew.putObj D (.deferred none)) (.slice ar lr cr) (lv xs%M):=by
   rw[<-aE.o.2];exact Num.kept (show Num W.drew _ _ from s2.o) hg ak
  obtain⟨av,lv',cv,ev⟩:=a4.shape;subst ev;refine⟨.tuple #[.slice av lv' cv,.slice ar lr cr],by simp[results,results115,go_sem],⟨_,_,rfl,a4,bA⟩,?_⟩;exact(ax.o.drew).grown hg ax.o.size (fun k e=>by cases e;exact zV f7.size hD)
 case stop=>
  rintro D c pre W _ _ h _;exact h.elim
theorem OB(w:World)(v u:Value)(n m:Nat)(hn:Num w v n)(hm:Num w u m)(aa:Cd n)(s:Cd (m*1000000000))(ab:0<m)(h0:0<w.heap.size):
 Calls prog 115 #[v,u] w fun e w' =>
  (∃q r,e=.returned (.tuple #[q,r])/\Num w' q (n/m)/\Num w' r (n%m))/\Below w.heap.size w w':=by
 obtain⟨xs,hx,rfl,d⟩:=hn;obtain⟨mc,ml,mcap,rfl⟩:=hm.shape;have hl:=hx.len_le (k:=200) aa;obtain⟨b,hb,h⟩:=SlAt.of d h0;obtain⟨a,cap,rfl,_⟩:=d.addr;exact Rt w a cap xs mc ml mcap m hl hx.1 b hb h hm ab s
end Nt
end
section
open Go.RowKit Go.Shelf
namespace Nt
theorem MD{xs:List Nat}(h:Canon xs):xs.length=0<->lv xs=0:=by
 constructor
 .intro e;rw[List.length_eq_zero_iff.1 e];rfl
 intro e;have:=h.len_le (k:=0) (by rw[e];decide);omega
theorem Num.open{W:World}{v:Value}{n:Nat}(h:Num W v n):∃a l c,v=.slice a l c/\(l=0<->n=0):=by
 obtain⟨xs,h1,h2,a,c,h3,_⟩:=h;exact⟨a,_,c,h3,by rw[<-h2];exact MD h1⟩
def Ru(w:World)(N G:Nat)(g:Nat)(v u:Value)(wr:World):Prop :=
 ∃n,Num wr v n/\Num wr u g/\Nat.gcd n g=G/\n<=N/\g<=N/\Below w.heap.size w wr
theorem TC(w:World)(v u:Value)(n m N:Nat)(hn:Num w v n)(hm:Num w u m)(ad:n<=N)(ab:m<=N)(hN:Cd (N*1000000000))(h0:0<w.heap.size):
 Calls prog 113 #[v,u] w fun e w'=>(∃q,e=.returned q/\Num w' q (Nat.gcd n m))/\Below w.heap.size w w':=by
 have s:Ru w N (Nat.gcd n m) m v u w:=⟨n,hn,hm,rfl,ad,ab,zI _ _⟩;obtain⟨a,l,c,rfl,aa⟩:=hn.open;obtain⟨a2,l2,c2,rfl,d⟩:=hm.open;replace aa:=zh aa;replace d:=zh d;clear hn hm;go_enter func113,ntmps113;go_wp2
 go_loopg [0,1] m (fun g v u wr=>Ru w N (Nat.gcd n m) g v u wr)
 case atStart=>exact s
 case round=>
  clear aa d s;obtain⟨k,h1,h2,h3,h4,h5,h6⟩:=hrel;obtain⟨a1,l1,c1,rfl,_⟩:=h1.open;obtain⟨a2,l2,c2,rfl,d⟩:=h2.open
  by_cases hg:gk=0
  .have hl:=d.2 hg;subst hl;replace h1:=zh h1;replace h3:=zh h3;replace hg:=zh hg;replace h6:=zh h6;clear h2 d;go_wp2;go_ret;refine⟨⟨_,rfl,?_⟩,h6.o⟩;rw[<-h3.o,hg.o,Nat.gcd_zero_right];exact h1.o
  have hl:0<l2:=by
   rcases yj l2 with h|h
   .exact absurd (d.1 h) hg
   exact h
  have ae:=h6.size;have hc:=OB wr _ _ k gk h1 h2 (Ce hN (by omega)) (Ce hN (yO _ h5)) (by omega) (by omega);replace h1:=zh h1;replace h2:=zh h2;replace h3:=zh h3;replace hg:=zh hg;replace h6:=zh h6;clear d
  go_wp2_with (go_at_call 115;refine hc.mono ?_;rintro e w2 ⟨⟨q,r,rfl,hq,hr⟩,hb⟩;replace hq:=zh hq;replace hr:=zh hr;replace hb:=zh hb)
  go_roundg (k%gk)
  case measure=>exact xv _ (by have:=hg.o;omega)
  case rel=>
   refine⟨gk,h2.o.below hb.o,hr.o,?_,h5,?_,h6.o.trans (hb.o.mono ae)⟩
   .rw[<-h3.o,vU gk,<-Nat.gcd_rec,vU]
   have:=xv k (show gk>0 by have:=hg.o;omega);omega
end Nt
end
end Go.Proofs.YtmfjbpcecpgchaaGreatDoor

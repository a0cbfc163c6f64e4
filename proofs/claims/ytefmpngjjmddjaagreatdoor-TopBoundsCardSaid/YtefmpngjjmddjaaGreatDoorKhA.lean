/- Parts of the proof. -/
import Derived.Deep.OwnRows
import Derived.Deep.RegionHeld3
import Derived.Test.YtefmpngjjmddjaaGreatDoorShelfP
import Derived.Lib.SmallJoins
import Derived.Lib.QuietBelow
import Derived.WalkSmall
import Derived.RangeFuncNested
import Derived.Laws.AppendOwnNone
set_option maxHeartbeats 2000000
set_option maxRecDepth 100000
open Go.Proofs.Tryz
namespace Go.Proofs.YtefmpngjjmddjaaGreatDoor
theorem _root_.Go.Calls.q{P f a w V}{R:World->Prop}{Q}(h:Calls P f a w fun e w=>e=V/\R w)(k:∀w,R w->Q V w):Calls P f a w Q:=h.mono fun _ _ ⟨a,b⟩=>a▸k _ b
theorem _root_.Go.CallsIn.q{F n P f a w V}{R:World->Prop}{Q}(h:CallsIn F n P f a w fun e w=>e=V/\R w)(k:∀w,R w->Q V w):CallsIn F n P f a w Q:=h.mono fun _ _ ⟨a,b⟩=>a▸k _ b
theorem _root_.Go.RowKit.Hid.t{a b c:World}(d:Go.RowKit.Hid (Go.RowKit.Below a.heap.size a b))(h:Go.RowKit.Below b.heap.size b c):Go.RowKit.Hid (Go.RowKit.Below a.heap.size a c):=d.out.trans (h.mono d.out.size)
theorem _root_.Go.RowKit.Hid.o{p:Prop}(h:Go.RowKit.Hid p):p:=h
theorem _root_.Go.Shut.o{p:Prop}(h:Go.Shut p):p:=h
abbrev zA:=@List.setIfInBounds_toArray
abbrev zB:=@Nat.le_refl
abbrev zC:=@List.set_cons_succ
abbrev zD:=@List.set_cons_zero
abbrev zE:=@if_neg
abbrev zF:=@if_pos
abbrev zG:=@decide_eq_true
abbrev zH:=@decide_eq_false
abbrev zI:=@Go.RowKit.Below.refl
abbrev zJ:=@Nat.lt_of_lt_of_le
abbrev zK:=@Go.AllReadyH.cons
abbrev zL:=@of_decide_eq_true
abbrev zM:=@decide_eq_false_iff_not
abbrev zN:=@beq_eq_false_iff_ne
abbrev zO:=@List.getElem_mem
abbrev zP:=@List.take_succ_eq_append_getElem
abbrev zQ:=@Nat.le_trans
abbrev zR:=@Go.AllReadyH.nil
abbrev zS:=@Nat.zero_le
abbrev zT:=@Go.wpAnyH_ready
abbrev zU:=@Go.World.cell?_of_block
abbrev zV:=@Go.World.size_alloc
abbrev zW:=@List.length_map
abbrev zX:=@List.length_append
abbrev zY:=@List.mem_cons_of_mem
abbrev zZ:=@List.length_cons
abbrev ze:=@List.getElem?_eq_getElem
abbrev zf:=@List.mem_cons_self
abbrev zg:=@Go.RowKit.Below.heap_setCell
abbrev zi:=@List.getElem_of_mem
abbrev zj:=@Nat.pow_le_pow_right
abbrev zk:=@List.filter_cons
abbrev zm:=@bne_iff_ne
abbrev zn:=@Nat.lt_of_le_of_lt
abbrev zo:=@Go.bodyPost_ret
abbrev zq:=@bne_eq_false_iff_eq
abbrev zr:=@Bool.and_eq_true
abbrev zu:=@List.take_length
abbrev zw:=@Nat.lt_succ_self
abbrev zy:=@List.length_filter_le
abbrev zz:=@List.getElem?_cons_zero
abbrev yA:=@of_decide_eq_false
abbrev yB:=@Nat.not_lt_zero
abbrev yC:=@decide_eq_true_eq
abbrev yD:=@List.map_append
abbrev yE:=@List.mem_of_mem_take
abbrev yF:=@Go.World.frozen?_of_block
abbrev yG:=@List.getElem?_cons_succ
abbrev yH:=@List.getD_eq_getElem?_getD
abbrev yI:=@Go.RowKit.Below.setCell
abbrev yJ:=@List.getElem_map
abbrev yK:=@Go.World.cell?_alloc_lt
abbrev yL:=@List.getElem?_toArray
abbrev yM:=@List.nil_append
abbrev yN:=@Go.Exit.noGoto_ret
abbrev yO:=@Rat.mul_le_mul_of_nonneg_left
abbrev yP:=@Go.RowKit.Below.heap_alloc
abbrev yQ:=@List.filter_append
abbrev yR:=@List.length_nil
abbrev yS:=@Nat.zero_add
abbrev yT:=@Nat.mul_comm
abbrev yU:=@Go.World.putObj_heap_other
abbrev yV:=@List.mem_append_left
abbrev yW:=@Array.replicate_succ
abbrev yX:=@Array.replicate_zero
abbrev yY:=@List.cons_append
abbrev yZ:=@List.not_mem_nil
abbrev ya:=@Go.Lib.toList_data
abbrev yc:=@List.mem_append
abbrev ye:=@decide_eq_true_iff
abbrev yf:=@Go.World.ownsRow_nil
abbrev yh:=@List.length_range
abbrev yi:=@Go.KeepsOthers.setCell
abbrev yj:=@List.append_toArray
abbrev ym:=@Go.heap_alloc_new
abbrev yo:=@Nat.add_mul
abbrev yq:=@List.size_toArray
abbrev yr:=@Nat.mul_le_mul_left
abbrev yt:=@Go.CallsIn.inRound
abbrev yu:=@Go.World.cell?_setCell_other
abbrev yv:=@List.push_toArray
abbrev yw:=@Nat.mul_assoc
abbrev yx:=@Go.NoPanic.normal
abbrev yy:=@Nat.pow_succ
abbrev yz:=@List.mem_append_right
abbrev xA:=@List.take_of_length_le
abbrev xB:=@Nat.mul_le_mul_right
abbrev xC:=@List.mem_cons
abbrev xD:=@List.length_erase_of_mem
abbrev xE:=@List.mem_singleton
abbrev xF:=@Nat.le_of_lt
abbrev xG:=@Go.wp_region_held_drew
abbrev xH:=@Int.natCast_add
abbrev xI:=@List.length_take
abbrev xJ:=@Go.wpAnyH_done
abbrev xK:=@Nat.ne_of_lt
abbrev xL:=@Rat.le_of_lt
abbrev xM:=@Nat.add_zero
abbrev xN:=@Go.World.cell?_setCell_same
abbrev xO:=@Go.results_tmp
abbrev xP:=@List.take_append_drop
abbrev xQ:=@beq_iff_eq
abbrev xR:=@Go.wp_region_noPanic
abbrev xS:=@List.map_cons
abbrev xT:=@Rat.le_refl
abbrev xU:=@Int.natCast_mul
abbrev xV:=@List.append_nil
abbrev xW:=@Go.callsIn_of_wp_marks
abbrev xX:=@Array.getElem?_modify
abbrev xY:=@List.length_replicate
abbrev xZ:=@Go.wpAnyH_take
abbrev xe:=@Nat.eq_zero_or_pos
abbrev xf:=@Rat.mul_inv_cancel
abbrev xh:=@Rat.natCast_mul
abbrev xi:=@List.map_congr_left
abbrev xj:=@List.flatten_append
abbrev xk:=@Nat.mul_add
abbrev xm:=@Rat.mul_nonneg
abbrev xo:=@List.range_succ
abbrev xp:=@Bool.eq_iff_iff
abbrev xq:=@Go.World.block_lt_of_cell?
abbrev xr:=@List.append_assoc
abbrev xt:=@Nat.lt_succ_of_lt
abbrev xu:=@Nat.pow_add
abbrev xv:=@Go.grownBy_putObj'
abbrev xw:=@List.getElem?_append_left
abbrev xx:=@Nat.mul_lt_mul''
abbrev xy:=@Go.run_takeDeferred
abbrev xz:=@List.map_map
abbrev wA:=@Nat.zero_mul
abbrev wB:=@Nat.lt_irrefl
abbrev wC:=@Nat.pow_pos
abbrev wD:=@Nat.le_succ
abbrev wE:=@Nat.mul_ne_zero
abbrev wF:=@Nat.div_le_self
abbrev wG:=@Go.Oper.semAt_some
abbrev wH:=@Iff.rfl
abbrev wI:=@Go.wpQuiet_step
abbrev wJ:=@Go.callsIn_wide
abbrev wK:=@List.length_pos_of_mem
abbrev wL:=@Rat.one_mul
abbrev wM:=@Nat.mul_pos
abbrev wN:=@Go.IntWalk.i64_in
abbrev wO:=@Go.wpList_append_fits
abbrev wP:=@Option.isSome_some
abbrev wQ:=@List.length_singleton
abbrev wR:=@List.drop_eq_getElem_cons
abbrev wT:=@Rat.div_def
abbrev wU:=@Go.wpQuiet_nil
abbrev wV:=@List.flatten_cons
abbrev wW:=@List.mem_of_mem_drop
abbrev wX:=@Go.Result.andThen_ok
abbrev wY:=@List.getElem?_map
abbrev wZ:=@Int.toNat_natCast
abbrev wg:=@Bool.true_and
abbrev wh:=@Rat.intCast_natCast
abbrev wj:=@List.mem_map_of_mem
abbrev wk:=@or_false
abbrev wl:=@Nat.mul_le_mul
abbrev wm:=@List.all_eq_true
abbrev wn:=@Nat.le_mul_of_pos_right
abbrev ws:=@List.map_toArray
abbrev wv:=@Go.Lib.size_eq
abbrev ww:=@Rat.add_zero
abbrev vA:=@List.getElem_range
abbrev vB:=@Nat.add_sub_cancel
abbrev vC:=@Nat.lt_of_lt_of_eq
abbrev vD:=@List.dropLast_concat_getLast
abbrev vE:=@Go.run_make_row'
abbrev vF:=@Classical.choose_spec
abbrev vG:=@if_true
abbrev vH:=@Go.DataW.trod_string
abbrev vI:=@List.getElem_take
abbrev vJ:=@Bool.false_and
abbrev vK:=@Go.run_append_own
abbrev vL:=@List.nodup_nil
abbrev vM:=@Array.size_replicate
abbrev vN:=@Go.Lib.byteCells_length
abbrev vO:=@List.length_take_le'
abbrev vP:=@Nat.le_of_eq
abbrev vQ:=@Nat.lt_or_ge
abbrev vR:=@List.mem_map
abbrev vS:=@Go.Sem.run_pure
abbrev vT:=@Rat.mkRat_eq_div
abbrev vU:=@Classical.byContradiction
abbrev vV:=@Nat.le_of_dvd
abbrev vW:=@Go.callsIn_of_wp
abbrev vX:=@Go.info_parts
abbrev vY:=@Rat.le_iff
abbrev vZ:=@Rat.mul_pos
abbrev v6:=@List.getElem?_replicate
abbrev va:=@List.take_zero
abbrev vd:=@Nat.ne_of_gt
abbrev ve:=@Rat.mul_comm
abbrev vf:=@Rat.zero_mul
abbrev vi:=@List.map_nil
abbrev vj:=@Rat.mul_zero
abbrev vk:=@Go.Lib.decDigits_one
abbrev vn:=@Go.Sem.run_bind
abbrev vr:=@List.foldl_append
abbrev vu:=@List.getElem_cons_succ
abbrev vv:=@Nat.le_mul_of_pos_left
abbrev vw:=@Nat.mod_lt
abbrev vy:=@Int.natCast_emod
abbrev vz:=@Int.natCast_ediv
abbrev qA:=@Nat.gcd_dvd_left
abbrev qB:=@Nat.mod_one
abbrev qC:=@Nat.mul_zero
abbrev qE:=@Rat.pow_succ
theorem zh{p:Prop}(h:p):Go.RowKit.Hid p:=h
theorem tk{P:Program}{md:Region.Mode}{ops:Array Oper}{Q:Exit->Act->World->Prop}{S:World->Prop}{oi:Oper}{v:Value}{fuel:Nat}{listed:Array Bool}{a:Act}{w:World}(i:Nat)(hS:S w)(hy:YieldsIf P ops S oi v a)(h:wpAnyH P md ops Q S fuel (listed.setIfInBounds i true) (a.put oi.dst v) w)(hi:ops[i]?=some oi:=by exact rfl)(hs:Region.noSelect ops=true:=by kernel_rfl)(hf:Region.free md ops listed i=true:=by kernel_rfl)(hr:(Region.ready md ops listed).contains i=true:=by kernel_rfl)(hQ:∀c a w,Q (.panic c) (a.put oi.dst v) w->Q (.panic c) a w:=by exact fun _ _ _ h=>h):wpAnyH P md ops Q S (fuel+1) listed a w:=xZ hi hs hf hr hQ hy hS h
section
namespace Ci
inductive Way(E:List (Nat×Nat)):Nat->Nat->Nat->Prop
 |here (p:Nat):Way E p p 0
 |step {p q r k:Nat} (h:Way E p q k) (e:(q,r)∈E):Way E p r (k+1)
def Reach(E:List (Nat×Nat))(p q:Nat):Prop:=∃k,Way E p q k
def G8(E:List (Nat×Nat))(F:List Nat)(p k:Nat):Prop:=∃f,f∈F/\Way E f p k
def InN(n:Nat)(E:List (Nat×Nat)):Prop:=∀x,x∈E->x.1<n/\x.2<n
section
variable {E:List (Nat×Nat)} {F:List Nat} {n p q r j k:Nat}
theorem Way.trans(h:Way E p q j)(h2:Way E q r k):Way E p r (j+k):=by
 induction h2 with
 |here=>exact h
 |step _ e ih=>exact ih.step e
theorem Way.one(e:(p,q)∈E):Way E p q 1:=(Way.here p).step e
theorem Way.zero(h:Way E p q 0):p=q:=by cases h;rfl
theorem Way.last(h:Way E p r (k+1)):∃q,Way E p q k/\(q,r)∈E:=by
 cases h with
 |step h e=>exact⟨_,h,e⟩
theorem Way.first(h:Way E p r (k+1)):∃q,(p,q)∈E/\Way E q r k:=by
 induction k generalizing r with
 |zero=>
  obtain⟨q,h1,e⟩:=h.last;obtain rfl:=h1.zero;exact⟨r,e,.here r⟩
 |succ k ih=>
  obtain⟨q,h1,e⟩:=h.last;obtain⟨x,e1,h2⟩:=ih h1;exact⟨x,e1,h2.step e⟩
theorem Way.lt(hE:InN n E)(h:Way E p q k)(hp:p<n):q<n:=by
 cases h with
 |here=>exact hp
 |step _ e=>exact(hE _ e).2
theorem Way.mono{E':List (Nat×Nat)}(hs:∀x,x∈E->x∈E')(h:Way E p q k):Way E' p q k:=by
 induction h with
 |here=>exact .here _
 |step _ e ih=>exact ih.step (hs _ e)
theorem Reach.refl(p:Nat):Reach E p p:=⟨0,.here p⟩
theorem Reach.trans(h:Reach E p q)(h2:Reach E q r):Reach E p r:=by
 obtain⟨j,a⟩:=h;obtain⟨k,b⟩:=h2;exact⟨_,a.trans b⟩
theorem Reach.one(e:(p,q)∈E):Reach E p q:=⟨1,.one e⟩
theorem Reach.lt(hE:InN n E)(h:Reach E p q)(hp:p<n):q<n:=by obtain⟨k,a⟩:=h;exact a.lt hE hp
theorem Reach.closed{C:Nat->Prop}(h:Reach E p q)(h0:C p)(hc:∀a b,C a->(a,b)∈E->C b):C q:=by
 obtain⟨k,a⟩:=h
 induction a with
 |here=>exact h0
 |step _ e ih=>exact hc _ _ ih e
theorem Fe:G8 E F p 0<->p∈F:=⟨fun⟨_,h,w⟩=>by rw[<-w.zero];exact h,fun h=>⟨p,h,.here p⟩⟩
theorem Ff:G8 E F p (k+1)<->∃q,G8 E F q k/\(q,p)∈E:=by
 constructor
 .rintro⟨f,h,w⟩;obtain⟨q,a,e⟩:=w.last;exact⟨q,⟨f,h,a⟩,e⟩
 rintro⟨q,⟨f,h,a⟩,e⟩;exact⟨f,h,a.step e⟩
def R4(E:List (Nat×Nat))(F:List Nat)(p:Nat)(r:Int):Prop :=
 (r=-1/\∀k,¬G8 E F p k)\/∃k:Nat,r=(k:Int)/\G8 E F p k/\∀j,j<k->¬G8 E F p j
theorem If{P:Nat->Prop}:∀k,P k->∃j,j<=k/\P j/\∀i,i<j->¬P i:=by
 intro k
 induction k using Nat.strongRecOn with
 |ind k ih=>
  intro h
  by_cases h2:∃i,i<k/\P i
  .obtain⟨i,hi,hp⟩:=h2;obtain⟨j,h3,h4⟩:=ih i hi hp;exact⟨j,by omega,h4⟩
  exact⟨k,zB _,h,fun i hi hp=>h2 ⟨i,hi,hp⟩⟩
theorem O9(E:List (Nat×Nat))(F:List Nat)(p:Nat):∃r,R4 E F p r:=by
 by_cases h:∃k,G8 E F p k
 .obtain⟨k,hk⟩:=h;obtain⟨j,_,h1,h2⟩:=If k hk;exact⟨j,.inr ⟨j,rfl,h1,h2⟩⟩
 exact⟨-1,.inl ⟨rfl,fun k hk=>h ⟨k,hk⟩⟩⟩
theorem R7{a b:Int}(h:R4 E F p a)(h2:R4 E F p b):a=b:=by
 rcases h with⟨rfl,h⟩|⟨k,rfl,h,hm⟩
 .rcases h2 with⟨rfl,_⟩|⟨j,rfl,h3,_⟩
  .rfl
  exact absurd h3 (h j)
 rcases h2 with⟨rfl,h3⟩|⟨j,rfl,h3,d⟩
 .exact absurd h (h3 k)
 have h4:¬k<j:=fun c=>d k c h;have h5:¬j<k:=fun c=>hm j c h3;omega
noncomputable def rk(E:List (Nat×Nat))(F:List Nat)(p:Nat):Int:=Classical.choose (O9 E F p)
theorem R8(E:List (Nat×Nat))(F:List Nat)(p:Nat):R4 E F p (rk E F p):=vF (O9 E F p)
theorem XL{a:Int}(h:R4 E F p a):rk E F p=a:=R7 (R8 E F p) h
theorem R9(h:G8 E F p k):0<=rk E F p/\rk E F p<=k:=by
 rcases R8 E F p with⟨_,h2⟩|⟨j,h1,_,h2⟩
 .exact absurd h (h2 k)
 have:¬k<j:=fun c=>h2 k c h;omega
theorem MO(h:rk E F p=k):G8 E F p k:=by
 rcases R8 E F p with⟨h1,_⟩|⟨j,h1,h2,_⟩
 .omega
 obtain rfl:j=k:=by omega
 exact h2
theorem Fg:rk E F p=0<->p∈F:=by
 constructor
 .intro h;exact Fe.1 (MO (k:=0) (by omega))
 intro h;have:=R9 (Fe.2 h:G8 E F p 0);omega
theorem Kv(h:0<=rk E F q)(e:(q,p)∈E):0<=rk E F p/\rk E F p<=rk E F q+1:=by
 obtain⟨k,hk⟩:∃k:Nat,rk E F q=k:=⟨(rk E F q).toNat,by omega⟩;have:=R9 (Ff.2 ⟨q,MO hk,e⟩:G8 E F p (k+1));omega
theorem FX(h:rk E F p=((k+1:Nat):Int)):∃q,rk E F q=(k:Int)/\(q,p)∈E:=by
 obtain⟨q,h1,e⟩:=Ff.1 (MO h);have h2:=R9 h1;have h3:=Kv h2.1 e;exact⟨q,by omega,e⟩
theorem Cy:∀(n:Nat)(l:List Nat),l.Nodup->(∀x,x∈l->x<n)->l.length<=n:=by
 intro n
 induction n with
 |zero=>
  intro l _ h
  cases l with
  |nil=>exact zB _
  |cons a l=>exact absurd (h a (zf ..)) (yB _)
 |succ n ih=>
  intro l hd h
  have h1:=ih (l.erase n) (hd.erase n) fun x hx=>by
   have h2:=(hd.mem_erase_iff).1 hx;have:=h x h2.2;omega
  by_cases hm:n∈l
  .rw[xD hm]at h1;omega
  rw[List.erase_of_not_mem hm]at h1;omega
theorem RB:∀(k:Nat)(p:Nat),rk E F p=(k:Int)->∃l:List Nat,l.length=k+1/\l.Nodup/\(∀x,x∈l->∃j:Nat,j<=k/\rk E F x=(j:Int))/\∀x,x∈l->x=p\/∃y,(x,y)∈E:=by
 intro k
 induction k with
 |zero=>exact fun p h=>⟨[p],rfl,by simp,fun x hx=>⟨0,zB _,by rw[List.mem_singleton.1 hx];exact h⟩,fun x hx=>.inl (List.mem_singleton.1 hx)⟩
 |succ k ih=>
  intro p h;obtain⟨q,h1,e⟩:=FX h;obtain⟨l,h2,h3,h4,h5⟩:=ih q h1;refine⟨p::l,by simp[h2],List.nodup_cons.2 ⟨fun hm=>?_,h3⟩,fun x hx=>?_,fun x hx=>?_⟩
  .obtain⟨j,hj,e2⟩:=h4 p hm;omega
  .rcases List.mem_cons.1 hx with rfl|hx
   .exact⟨k+1,zB _,h⟩
   obtain⟨j,hj,e2⟩:=h4 x hx;exact⟨j,by omega,e2⟩
  rcases List.mem_cons.1 hx with rfl|hx
  .exact .inl rfl
  rcases h5 x hx with rfl|h6
  .exact .inr ⟨p,e⟩
  exact .inr h6
theorem XM(hE:InN n E)(hp:p<n):rk E F p<n:=by
 by_cases h:0<=rk E F p
 .obtain ⟨k,hk⟩:∃k:Nat,rk E F p=k:=⟨(rk E F p).toNat,by omega⟩;obtain⟨l,h1,h2,_,h4⟩:=RB k p hk
  have:=Cy n l h2 fun x hx=>by
   rcases h4 x hx with rfl|⟨y,e⟩
   .exact hp
   exact(hE _ e).1
  omega
 omega
end
end Ci
end
section
namespace Ci
open Classical
def Mut(E:List (Nat×Nat))(p q:Nat):Prop:=Reach E p q/\Reach E q p
section
variable {E:List (Nat×Nat)} {n p q r:Nat} {left:List Nat}
theorem Mut.refl(p:Nat):Mut E p p:=⟨.refl p,.refl p⟩
theorem Mut.symm(h:Mut E p q):Mut E q p:=⟨h.2,h.1⟩
theorem Mut.trans(h:Mut E p q)(h2:Mut E q r):Mut E p r:=⟨h.1.trans h2.1,h2.2.trans h.2⟩
theorem MP(E:List (Nat×Nat))(p:Nat):∃q,Mut E p q/\∀r,Mut E p r->q<=r:=by
 obtain⟨q,_,h1,h2⟩:=If (P:=Mut E p) p (.refl p);exact⟨q,h1,fun r hr=>Nat.le_of_not_lt fun c=>h2 r c hr⟩
noncomputable def fst(E:List (Nat×Nat))(p:Nat):Nat:=Classical.choose (MP E p)
theorem Ep:Mut E p (fst E p):=(vF (MP E p)).1
theorem Kw(h:Mut E p q):fst E p<=q:=(vF (MP E p)).2 q h
theorem FE(h:Mut E p q):fst E p=fst E q:=Nat.le_antisymm (Kw (h.trans Ep)) (Kw (h.symm.trans Ep))
theorem HH:fst E p=fst E q<->Mut E p q:=⟨fun h=>(h▸Ep (p:=p)).trans Ep.symm,FE⟩
theorem FY:fst E (fst E p)=fst E p:=(FE Ep).symm
theorem G9(h:p<n):fst E p<n:=zn (Kw (.refl p)) h
noncomputable def CR(n:Nat)(E:List (Nat×Nat))(p:Nat):List Nat:=(List.range n).filter fun q=>decide (Mut E p q)
theorem CL:q∈CR n E p<->q<n/\Mut E p q:=by simp[CR]
theorem MQ:(CR n E p).Nodup:=List.nodup_range.filter _
noncomputable def leasts(n:Nat)(E:List (Nat×Nat)):List Nat:=(List.range n).filter fun p=>decide (fst E p=p)
theorem Bw:p∈leasts n E<->p<n/\fst E p=p:=by simp[leasts]
def FF(E:List (Nat×Nat))(left:List Nat)(p:Nat):Prop:=∀h q,Mut E p q->(h,q)∈E->fst E h∈left->fst E h=p
noncomputable def Fy(E:List (Nat×Nat))(left:List Nat):Option Nat:=left.find? fun p=>decide (FF E left p)
noncomputable def ord(E:List (Nat×Nat)):Nat->List Nat->List Nat
 |0,_=>[]
 |k+1,left=>match Fy E left with
  |none=>[]
  |some p=>p::ord E k (left.erase p)
structure Left(n:Nat)(E:List (Nat×Nat))(left:List Nat):Prop where
 own:∀x,x∈left->x<n/\fst E x=x
 up:∀x y,x∈left->Reach E x y->fst E y∈left
 sorted:left.Pairwise (·<·)
theorem Left.start(hE:InN n E):Left n E (leasts n E) :=
 ⟨fun _ h=>Bw.1 h,fun _ _ h hr=>Bw.2 ⟨G9 (hr.lt hE (Bw.1 h).1),FY⟩,List.pairwise_lt_range.filter _⟩
theorem Left.nodup(h:Left n E left):left.Nodup:=h.sorted.imp fun d=>xK d
theorem Wl(h:Reach E p q):¬Mut E p q->∃a b,Reach E p a/\(a,b)∈E/\Mut E q b/\¬Mut E q a:=by
 obtain⟨k,w⟩:=h;intro hn
 have key:∀x,(∃j,Way E x q j)->Reach E p x->¬Mut E q x->∃a b,Reach E p a/\(a,b)∈E/\Mut E q b/\¬Mut E q a:=by
  rintro x ⟨j,hw⟩
  induction j generalizing x with
  |zero=>exact fun _ h2=>absurd (by rw[hw.zero];exact .refl q) h2
  |succ j ih=>
   intro hx h2;obtain⟨y,e,d⟩:=hw.first
   by_cases hy:Mut E q y
   .exact⟨x,y,hx,e,hy,h2⟩
   exact ih y d (hx.trans (.one e)) hy
 exact key p ⟨k,w⟩ (.refl p) fun h=>hn h.symm
theorem Left.erase(h:Left n E left)(hp:p∈left)(hf:FF E left p):Left n E (left.erase p):=by
 have hd:=h.nodup;refine⟨fun x hx=>h.own x (List.mem_of_mem_erase hx),fun x y hx hr=>?_,h.sorted.sublist List.erase_sublist⟩;obtain⟨ad,d⟩:=hd.mem_erase_iff.1 hx;refine hd.mem_erase_iff.2 ⟨fun e=>?_,h.up x y d hr⟩;have ae:Mut E p y:=HH.1 (by rw[(h.own p hp).2,e]);have aa:Reach E x p:=hr.trans ae.2;obtain⟨a,b,h1,h2,h3,h4⟩:=Wl aa fun hm=>ad (by rw[<-(h.own x d).2,FE hm,(h.own p hp).2]);have h5:=hf a b h3 h2 (h.up x a d h1);exact h4 (HH.1 (by rw[(h.own p hp).2,h5]))
theorem Fh{f g:Nat->Bool}:∀{l:List Nat},(∀x,x∈l->f x=true->g x=true)->(∃x,x∈l/\f x=false/\g x=true)->(l.filter f).length<(l.filter g).length:=by
 intro l
 induction l with
 |nil=>rintro _ ⟨x,h,_⟩;cases h
 |cons a l ih=>
  intro hs hx
  have aa:(l.filter f).length<=(l.filter g).length:=by
   have:∀m:List Nat,(∀x,x∈m->f x=true->g x=true)->(m.filter f).length<=(m.filter g).length:=by
    intro m
    induction m with
    |nil=>intro _;exact zB _
    |cons b m ihm=>
     intro hm;have h1:=ihm fun x h=>hm x (zY _ h);have h2:=hm b (zf ..)
     cases hf:f b<;>cases hg:g b<;>simp[hf,hg]<;>simp_all<;>omega
   exact this l fun x h=>hs x (zY _ h)
  by_cases ha:f a=false/\g a=true
  .simp[ha.1,ha.2];omega
  have d:∃x,x∈l/\f x=false/\g x=true:=by
   obtain⟨x,h1,h2,h3⟩:=hx
   rcases List.mem_cons.1 h1 with rfl|h1
   .exact absurd ⟨h2,h3⟩ ha
   exact⟨x,h1,h2,h3⟩
  have h1:=ih (fun x h=>hs x (zY _ h)) d;have h2:=hs a (zf ..)
  cases hf:f a<;>cases hg:g a<;>simp[hf,hg]<;>simp_all
theorem RC(f:Nat->Nat):∀l:List Nat,l≠[]->∃x,x∈l/\∀y,y∈l->f x<=f y:=by
 intro l
 induction l with
 |nil=>intro h;exact absurd rfl h
 |cons a l ih=>
  intro _
  by_cases h:l=[]
  .exact⟨a,zf ..,fun y hy=>by rw[h]at hy;rw[List.mem_singleton.1 hy];exact zB _⟩
  obtain⟨x,h1,h2⟩:=ih h
  by_cases hc:f a<=f x
  .exact ⟨a,zf ..,fun y hy=>by
    rcases List.mem_cons.1 hy with rfl|hy
    .exact zB _
    exact zQ hc (h2 y hy)⟩
  exact ⟨x,zY _ h1,fun y hy=>by
   rcases List.mem_cons.1 hy with rfl|hy
   .omega
   exact h2 y hy⟩
theorem Left.free(h:Left n E left)(d:left≠[]):∃p,p∈left/\FF E left p:=by
 obtain⟨p,hp,hm⟩:=RC (fun p=>((List.range n).filter fun q=>decide (Reach E q p)).length) left d;refine⟨p,hp,fun a b h1 h2 h3=>vU fun hc=>?_⟩;have h4:=hm _ h3;have h5:Reach E (fst E a) p:=(Ep.2.trans (.one h2)).trans h1.2
 have h6:((List.range n).filter fun q=>decide (Reach E q (fst E a))).length<((List.range n).filter fun q=>decide (Reach E q p)).length :=
  Fh (fun x _ hx=>zG ((zL hx).trans h5)) ⟨p,List.mem_range.2 (h.own p hp).1,zH fun hr=>hc (by
   have:=FE (E:=E) (p:=fst E a) (q:=p) ⟨h5,hr⟩
   rwa [FY,(h.own p hp).2]at this),zG (.refl p)⟩
 omega
theorem HI(h:Left n E left)(d:left≠[]):∃p,Fy E left=some p:=by
 obtain⟨p,h1,h2⟩:=h.free d
 cases hp:Fy E left with
 |some q=>exact⟨q,rfl⟩
 |none=>
  unfold Fy at hp;rw[List.find?_eq_none]at hp;exact absurd (zG h2) (hp p h1)
theorem Cz(h:Left n E left)(hp:Fy E left=some p):p∈left/\FF E left p/\∀q,q∈left->FF E left q->p<=q:=by
 unfold Fy at hp;obtain⟨h1,us,bs,h2,h3⟩:=List.find?_eq_some_iff_append.1 hp;refine⟨by rw[h2];simp,zL h1,fun q hq hf=>?_⟩;have hs:=h.sorted;rw[h2]at hq hs
 rcases List.mem_append.1 hq with hq|hq
 .have:=h3 q hq;rw[zG hf]at this
  cases this
 rcases List.mem_cons.1 hq with rfl|hq
 .exact zB _
 exact xF ((List.pairwise_cons.1 (List.pairwise_append.1 hs).2.1).1 q hq)
theorem UK(h:Left n E left)(h1:p∈left)(h2:FF E left p)(h3:∀q,q∈left->FF E left q->p<=q):Fy E left=some p:=by
 cases hp:Fy E left with
 |none=>
  unfold Fy at hp;rw[List.find?_eq_none]at hp;exact absurd (zG h2) (hp p h1)
 |some q=>
  obtain⟨a,b,c⟩:=Cz h hp;have:=h3 q a b;have:=c p h1 h2;rw[show q=p by omega]
theorem Kx:∀(k:Nat)(left:List Nat),Left n E left->left.length<=k->∀p,p∈ord E k left<->p∈left:=by
 intro k
 induction k with
 |zero=>
  intro left _ hk p;rw[List.length_eq_zero_iff.1 (Nat.le_zero.1 hk)];exact wH
 |succ k ih=>
  intro left h hk p
  by_cases hne:left=[]
  .subst hne;simp[ord,Fy]
  obtain⟨q,hq⟩:=HI h hne;obtain⟨h1,h2,_⟩:=Cz h hq;have h3:=ih _ (h.erase h1 h2) (by rw[xD h1];omega) p;unfold ord;rw[hq];dsimp only;rw[xC,h3,h.nodup.mem_erase_iff];constructor
  .rintro(rfl|h4)
   .exact h1
   exact h4.2
  intro h4
  by_cases e:p=q
  .exact .inl e
  exact .inr ⟨e,h4⟩
theorem Jw:∀(k:Nat)(left:List Nat),Left n E left->left.length<=k->(ord E k left).Nodup/\(ord E k left).length=left.length:=by
 intro k
 induction k with
 |zero=>
  intro left _ hk;rw[List.length_eq_zero_iff.1 (Nat.le_zero.1 hk)];exact⟨vL,rfl⟩
 |succ k ih=>
  intro left h hk
  by_cases hne:left=[]
  .subst hne;simp[ord,Fy]
  obtain⟨q,hq⟩:=HI h hne;obtain⟨h1,h2,_⟩:=Cz h hq;have d:(left.erase q).length<=k:=by rw[xD h1];omega
  have h3:=ih _ (h.erase h1 h2) d;have h4:=Kx k _ (h.erase h1 h2) d q;have h5:=wK h1;unfold ord;rw[hq];dsimp only;refine⟨List.nodup_cons.2 ⟨fun hm=>?_,h3.1⟩,?_⟩
  .exact(h.nodup.mem_erase_iff.1 (h4.1 hm)).1 rfl
  rw[zZ,h3.2,xD h1];omega
theorem P4:∀(k:Nat)(left:List Nat),Left n E left->left.length<=k->∀(i j:Nat)(hi:i<(ord E k left).length)(hj:j<(ord E k left).length)(a b:Nat),
 (a,b)∈E->fst E a=(ord E k left)[i]->fst E b=(ord E k left)[j]->i<=j:=by
 intro k
 induction k with
 |zero=>intro left _ _ i j hi;simp[ord]at hi
 |succ k ih=>
  intro left h hk i j hi hj a b e ha hb
  by_cases hne:left=[]
  .subst hne;simp[ord,Fy]at hi
  obtain⟨q,hq⟩:=HI h hne;obtain⟨h1,h2,_⟩:=Cz h hq;have d:(left.erase q).length<=k:=by rw[xD h1];omega
  have hu:ord E (k+1) left=q::ord E k (left.erase q):=by conv=>lhs;unfold ord;rw[hq]
  simp only[hu]at hi hj ha hb
  cases i with
  |zero=>exact zS _
  |succ i=>
   cases j with
   |zero=>
    simp only[vu,List.getElem_cons_zero]at ha hb;have hm:=(Kx k _ (h.erase h1 h2) d _).1 (zO (by simpa using hi:i<(ord E k (left.erase q)).length));rw[<-ha]at hm;obtain⟨h3,h4⟩:=h.nodup.mem_erase_iff.1 hm;exact absurd (h2 a b (HH.1 (by rw[hb,(h.own q h1).2])) e h4) h3
   |succ j=>
    simp only[vu]at ha hb;have:=ih _ (h.erase h1 h2) d i j (by simpa using hi) (by simpa using hj) a b e ha hb;omega
end
noncomputable def ords(n:Nat)(E:List (Nat×Nat)):List Nat:=ord E n (leasts n E)
noncomputable def Ax(n:Nat)(E:List (Nat×Nat)):List (List Nat):=(ords n E).map (CR n E)
end Ci
end
section
namespace Ci
def Er(o:Nat->Int)(q:Nat)(v:Int):Nat->Int:=fun x=>if x=q then v else o x
section
variable {E:List (Nat×Nat)} {F:List Nat} {n p q r i:Nat} {out:Nat->Int}
theorem Bb(o:Nat->Int)(q:Nat)(v:Int):Er o q v q=v:=zF rfl
theorem AI{o:Nat->Int}{q x:Nat}{v:Int}(h:x≠q):Er o q v x=o x:=zE h
structure Lv(n:Nat)(E:List (Nat×Nat))(F:List Nat)(r i:Nat)(out:Nat->Int):Prop where
 low:∀x,x<n->rk E F x<=r->out x=rk E F x
 mid:∀x,x<n->rk E F x=(r:Int)+1->out x=(r:Int)+1\/(out x=-1/\∀h,(h,x)∈E.take i->rk E F h≠r)
 high:∀x,x<n->(r:Int)+1<rk E F x->out x=-1
theorem Lv.right(h:Lv n E F r i out){x:Nat}(hx:x<n)(h0:0<=out x):out x=rk E F x:=by
 by_cases h1:rk E F x<=r
 .exact h.low x hx h1
 by_cases h2:rk E F x=(r:Int)+1
 .rcases h.mid x hx h2 with h3|h3
  .rw[h3,h2]
  omega
 have:=h.high x hx (by omega);omega
theorem Jy{α:Type}{l:List α}{i:Nat}(h:i<l.length):l.take (i+1)=l.take i++[l[i]]:=by
 rw[zP h]
theorem Lv.set(h:Lv n E F r i out)(hi:i<E.length)(hE:InN n E)(h1:out E[i].1=r)(h2:out E[i].2<0):Lv n E F r (i+1) (Er out E[i].2 ((r:Int)+1)):=by
 obtain⟨a1,a2⟩:=hE _ (zO hi);have b1:rk E F E[i].1=r:=by rw[<-h.right a1 (by omega),h1]
 have b2:=Kv (E:=E) (F:=F) (q:=E[i].1) (p:=E[i].2) (by omega) (zO hi)
 have b3:rk E F E[i].2=(r:Int)+1:=by
  by_cases c:rk E F E[i].2<=r
  .have:=h.low _ a2 c;omega
  omega
 refine⟨fun x hx hl=>?_,fun x hx hl=>?_,fun x hx hl=>?_⟩
 .rw[AI fun e=>by rw[e]at hl;omega];exact h.low x hx hl
 .by_cases e:x=E[i].2
  .exact .inl (by rw[e,Bb])
  rw[AI e]
  rcases h.mid x hx hl with h3|⟨h3,h4⟩
  .exact .inl h3
  refine .inr ⟨h3,fun y hy=>?_⟩;rw[Jy hi]at hy
  rcases List.mem_append.1 hy with hy|hy
  .exact h4 y hy
  exact absurd (by rw[<-List.mem_singleton.1 hy]) e
 rw[AI fun e=>by rw[e]at hl;omega];exact h.high x hx hl
theorem Lv.skip(h:Lv n E F r i out)(hi:i<E.length)(hE:InN n E)(h1:¬(out E[i].1=r/\out E[i].2<0)):Lv n E F r (i+1) out:=by
 obtain⟨a1,a2⟩:=hE _ (zO hi);refine⟨h.low,fun x hx hl=>?_,h.high⟩
 rcases h.mid x hx hl with h3|⟨h3,h4⟩
 .exact .inl h3
 refine .inr ⟨h3,fun y hy hr=>?_⟩;rw[Jy hi]at hy
 rcases List.mem_append.1 hy with hy|hy
 .exact h4 y hy hr
 have e:=List.mem_singleton.1 hy;have e1:E[i].1=y:=by rw[<-e]
 have e2:E[i].2=x:=by rw[<-e]
 refine h1 ⟨?_,by rw[e2,h3];omega⟩;rw[e1,h.low y (by rw[<-e1];exact a1) (by omega),hr]
theorem Lv.next(h:Lv n E F r E.length out):Lv n E F (r+1) 0 out:=by
 have hm:∀x,x<n->rk E F x=(r:Int)+1->out x=(r:Int)+1:=fun x hx hl=>by
  rcases h.mid x hx hl with h3|⟨_,h4⟩
  .exact h3
  obtain⟨q,h5,h6⟩:=FX (k:=r) (p:=x) (E:=E) (F:=F) (by omega);exact absurd h5 (h4 q (by rw[zu];exact h6))
 refine⟨fun x hx hl=>?_,fun x hx hl=>.inr ⟨h.high x hx (by omega),fun y hy=>by simp at hy⟩,fun x hx hl=>h.high x hx (by omega)⟩
 by_cases c:rk E F x<=r
 .exact h.low x hx c
 rw[hm x hx (by omega)];omega
theorem Lv.whole(h:Lv n E F r i out)(hr:n<=r)(hE:InN n E){x:Nat}(hx:x<n):out x=rk E F x:=by
 have:=XM (F:=F) hE hx;exact h.low x hx (by omega)
theorem Lv.at(h:Lv n E F r i out)(hE:InN n E){x:Nat}(hx:x<n)(hr:n<=r\/0<=out x):out x=rk E F x:=by
 rcases hr with hr|hr
 .exact h.whole hr hE hx
 exact h.right hx hr
structure Bf(n:Nat)(E:List (Nat×Nat))(F:List Nat)(ex:Nat->Prop)(out:Nat->Int)(queue:List Nat):Prop where
 way:∀x,x<n->0<=out x->G8 E F x (out x).toNat
 neg:∀x,x<n->-1<=out x
 src:∀f,f∈F->out f=0
 edge:∀x y,x<n->(x,y)∈E->0<=out x->x∉queue->¬ex x->0<=out y/\out y<=out x+1
 pos:∀x,x∈queue->x<n/\0<=out x
 sorted:queue.Pairwise fun a b=>out a<=out b/\out b<=out a+1
 done:∀x,x<n->0<=out x->x∉queue->∀y,y∈queue->out x<=out y
 nodup:queue.Nodup
theorem Bf.start(hF:F.Nodup)(hn:∀f,f∈F->f<n)(h0:∀x,x<n->out x=if x∈F then 0 else -1):Bf n E F (fun _=>False) out F:=by
 have hs:∀f,f∈F->out f=0:=fun f hf=>by rw[h0 f (hn f hf),zF hf]
 have hr:∀x,x<n->0<=out x->x∈F:=fun x hx h=>by
  rw[h0 x hx]at h
  split at h
  .assumption
  omega
 refine⟨fun x hx h=>?_,fun x hx=>?_,hs,fun x y hx _ h hq=>absurd (hr x hx h) hq,fun x hx=>⟨hn x hx,by rw[hs x hx];omega⟩,?_,fun x hx h hq=>absurd (hr x hx h) hq,hF⟩
 .rw[hs x (hr x hx h)];exact Fe.2 (hr x hx h)
 .rw[h0 x hx];split<;>omega
 exact List.Pairwise.imp_of_mem (R:=fun _ _=>True) (fun ha hb _=>by rw[hs _ ha,hs _ hb];omega) (List.pairwise_of_forall fun _ _=>trivial)
theorem Bf.end(h:Bf n E F (fun _=>False) out [])(hn:∀f,f∈F->f<n)(hE:InN n E){x:Nat}(hx:x<n):out x=rk E F x:=by
 have key:∀k y,G8 E F y k->y<n/\0<=out y/\out y<=k:=by
  intro k
  induction k with
  |zero=>
   intro y hy;have hm:=Fe.1 hy;have:=h.src y hm;exact⟨hn y hm,by omega,by omega⟩
  |succ k ih=>
   intro y hy;obtain⟨z,hz,e⟩:=Ff.1 hy;obtain⟨a,b,c⟩:=ih z hz;have:=h.edge z y a e b (by simp) (fun h=>h);exact⟨(hE _ e).2,by omega,by omega⟩
 have h1:=h.neg x hx;refine(XL ?_).symm
 by_cases h0:0<=out x
 .refine .inr ⟨(out x).toNat,by omega,h.way x hx h0,fun j hj hw=>?_⟩;have:=key j x hw;omega
 refine .inl ⟨by omega,fun k hk=>?_⟩;have:=key k x hk;omega
theorem Bf.pop{queue:List Nat}(h:Bf n E F (fun _=>False) out (p::queue)):Bf n E F (·=p) out queue/\p<n/\0<=out p/\(∀y,y∈queue->out p<=out y/\out y<=out p+1)/\∀x,x<n->out x<=out p+1:=by
 have hp:=h.pos p (zf ..);have hs:=List.pairwise_cons.1 h.sorted;have hd:=List.nodup_cons.1 h.nodup;refine⟨⟨h.way,h.neg,h.src,fun x y hx e h0 hq d=>h.edge x y hx e h0 (fun hm=>(List.mem_cons.1 hm).elim d hq) (fun h=>h),fun x hx=>h.pos x (zY _ hx),hs.2,fun x hx h0 hq y hy=>?_,hd.2⟩,hp.1,hp.2,fun y hy=>hs.1 y hy,fun x hx=>?_⟩
 .by_cases e:x=p
  .rw[e];exact(hs.1 y hy).1
  exact h.done x hx h0 (fun hm=>(List.mem_cons.1 hm).elim e hq) y (zY _ hy)
 by_cases h0:0<=out x
 .by_cases hm:x∈p::queue
  .rcases List.mem_cons.1 hm with rfl|hm
   .omega
   exact(hs.1 x hm).2
  have:=h.done x hx h0 hm p (zf ..);omega
 omega
structure Bq(n:Nat)(E:List (Nat×Nat))(F:List Nat)(p:Nat)(v:Int)(ns:List Nat)(out:Nat->Int)(queue:List Nat):Prop where
 inv:Bf n E F (·=p) out queue
 cur:out p=v
 here:p<n
 v0:0<=v
 seen:∀y,y∈ns->0<=out y/\out y<=v+1
 rest:∀y,y∈queue->v<=out y/\out y<=v+1
 all:∀x,x<n->out x<=v+1
 off:p∉queue
theorem Bq.start{queue:List Nat}(h:Bf n E F (fun _=>False) out (p::queue)):Bq n E F p (out p) [] out queue:=by
 obtain⟨a,b,c,d,e⟩:=h.pop;exact⟨a,rfl,b,c,fun y hy=>by simp at hy,d,e,(List.nodup_cons.1 h.nodup).1⟩
theorem Bq.skip{v:Int}{ns queue:List Nat}(h:Bq n E F p v ns out queue)(hq:q<n)(h0:0<=out q):Bq n E F p v (ns++[q]) out queue :=
 ⟨h.inv,h.cur,h.here,h.v0,fun y hy=>by
   rcases List.mem_append.1 hy with hy|hy
   .exact h.seen y hy
   rw[List.mem_singleton.1 hy];exact⟨h0,h.all q hq⟩,h.rest,h.all,h.off⟩
theorem Bq.set{v:Int}{ns queue:List Nat}(h:Bq n E F p v ns out queue)(hq:q<n)(e:(p,q)∈E)(h0:out q<0):Bq n E F p v (ns++[q]) (Er out q (v+1)) (queue++[q]):=by
 have ad:p≠q:=fun c=>by have:=h.cur;have:=h.v0;rw[c]at *;omega
 have af:q∉queue:=fun c=>by have:=(h.inv.pos q c).2;omega
 have ho:∀x,0<=out x->Er out q (v+1) x=out x:=fun x hx=>AI fun c=>by rw[c]at hx;omega
 have hv:=h.v0;refine⟨⟨fun x hx d=>?_,fun x hx=>?_,fun f hf=>?_,fun x y hx e2 d aa ag=>?_,fun x hx=>?_,?_,fun x hx d aa y hy=>?_,?_⟩,?_,h.here,h.v0,fun y hy=>?_,fun y hy=>?_,fun x hx=>?_,fun c=>?_⟩
 .by_cases c:x=q
  .rw[c,Bb];have h1:=h.inv.way p h.here (by rw[h.cur];exact hv);rw[h.cur]at h1;have h2:=Ff.2 ⟨p,h1,e⟩
   rwa [show v.toNat+1=(v+1).toNat by omega]at h2
  rw[AI c]at d ⊢;exact h.inv.way x hx d
 .by_cases c:x=q
  .rw[c,Bb];omega
  rw[AI c];exact h.inv.neg x hx
 .have:=h.inv.src f hf;rw[ho f (by omega)];exact this
 .have c:x≠q:=fun c=>aa (by rw[c];simp);rw[AI c]at d ⊢;have h1:=h.inv.edge x y hx e2 d (fun c2=>aa (yV _ c2)) ag;rw[ho y h1.1];exact h1
 .rcases List.mem_append.1 hx with hx|hx
  .have:=h.inv.pos x hx;rw[ho x this.2];exact this
  rw[List.mem_singleton.1 hx,Bb];exact⟨hq,by omega⟩
 .refine List.pairwise_append.2 ⟨?_,List.pairwise_singleton ..,fun a ha b hb=>?_⟩
  .refine List.Pairwise.imp_of_mem (fun ha hb ae=>?_) h.inv.sorted;rw[ho _ (h.inv.pos _ ha).2,ho _ (h.inv.pos _ hb).2];exact ae
  rw[List.mem_singleton.1 hb,Bb,ho a (h.inv.pos a ha).2];have:=h.rest a ha;omega
 .have c:x≠q:=fun c=>aa (by rw[c];simp);rw[AI c]at d ⊢
  rcases List.mem_append.1 hy with hy|hy
  .rw[ho y (h.inv.pos y hy).2];exact h.inv.done x hx d (fun c2=>aa (yV _ c2)) y hy
  rw[List.mem_singleton.1 hy,Bb];exact h.all x hx
 .exact List.nodup_append.2 ⟨h.inv.nodup,by simp,fun a ha b hb c=>af (by rw[<-List.mem_singleton.1 hb,<-c];exact ha)⟩
 .rw[AI ad];exact h.cur
 .rcases List.mem_append.1 hy with hy|hy
  .have:=h.seen y hy;rw[ho y this.1];exact this
  rw[List.mem_singleton.1 hy,Bb];omega
 .rcases List.mem_append.1 hy with hy|hy
  .have:=h.rest y hy;rw[ho y (h.inv.pos y hy).2];exact this
  rw[List.mem_singleton.1 hy,Bb];omega
 .by_cases c:x=q
  .rw[c,Bb];omega
  rw[AI c];exact h.all x hx
 rcases List.mem_append.1 c with c|c
 .exact h.off c
 exact ad (List.mem_singleton.1 c)
theorem Bq.end{v:Int}{ns queue:List Nat}(h:Bq n E F p v ns out queue)(d:∀q,(p,q)∈E->q∈ns):Bf n E F (fun _=>False) out queue :=
 ⟨h.inv.way,h.inv.neg,h.inv.src,fun x y hx e aa ad _=>by
   by_cases c:x=p
   .rw[c]at e ⊢;rw[h.cur];exact h.seen y (d y e)
   exact h.inv.edge x y hx e aa ad c,h.inv.pos,h.inv.sorted,h.inv.done,h.inv.nodup⟩
def FG(n:Nat)(out:Nat->Int):Nat:=((List.range n).filter fun x=>decide (out x<0)).length
theorem Lr(hq:q<n)(h0:out q<0){v:Int}(hv:0<=v):FG n (Er out q v)+1<=FG n out:=by
 refine Fh (fun x _ hx=>?_) ⟨q,List.mem_range.2 hq,?_,zG h0⟩
 .have h1:=zL hx;refine zG ?_
  by_cases c:x=q
  .rw[c];exact h0
  rwa [AI c]at h1
 rw[Bb];exact zH (by omega)
end
end Ci
end
section
namespace Ci
section
variable {E:List (Nat×Nat)} {n p q r:Nat} {V V1 V2:Nat->Prop}
def Vis(E:List (Nat×Nat))(p:Nat)(V V':Nat->Prop):Prop :=
 (∀x,V x->V' x)/\V' p/\(∀x,V' x->¬V x->Reach E p x)/\∀x y,V' x->¬V x->(x,y)∈E->V' y
def VisL(E:List (Nat×Nat))(p:Nat)(ns:List Nat)(V V':Nat->Prop):Prop :=
 (∀x,V x->V' x)/\V' p/\(∀x,V' x->¬V x->Reach E p x)/\(∀x y,V' x->¬V x->x≠p->(x,y)∈E->V' y)/\∀y,y∈ns->V' y
theorem Vis.had(h:V p):Vis E p V V:=⟨fun _ h=>h,h,fun _ a b=>absurd a b,fun _ _ a b=>absurd a b⟩
theorem VisL.start(E : List (Nat × Nat))(p : Nat)(V : Nat -> Prop): VisL E p [] V fun x=>V x\/x=p :=
 ⟨fun _ h => .inl h, .inr rfl, fun x a b => by rcases a with a|rfl
                                               .exact absurd a b
                                               exact .refl _, fun x y a b c => by rcases a with a|a
                                                                                  .exact absurd a b
                                                                                  exact absurd a c,fun y hy=>by simp at hy⟩
theorem VisL.step{ns:List Nat}(h:VisL E p ns V V1)(e:(p,q)∈E)(h2:Vis E q V1 V2):VisL E p (ns++[q]) V V2:=by
 obtain⟨a1,a2,a3,a4,a5⟩:=h;obtain⟨b1,b2,b3,b4⟩:=h2;refine⟨fun x hx=>b1 x (a1 x hx),b1 p a2,fun x hx hv=>?_,fun x y hx hv hp he=>?_,fun y hy=>?_⟩
 .by_cases c:V1 x
  .exact a3 x c hv
  exact(Reach.one e).trans (b3 x hx c)
 .by_cases c:V1 x
  .exact b1 y (a4 x y c hv hp he)
  exact b4 x y hx c he
 rcases List.mem_append.1 hy with hy|hy
 .exact b1 y (a5 y hy)
 rw[List.mem_singleton.1 hy];exact b2
theorem VisL.end{ns:List Nat}(h:VisL E p ns V V1)(d:∀q,(p,q)∈E->q∈ns):Vis E p V V1:=by
 obtain⟨a1,a2,a3,a4,a5⟩:=h;refine⟨a1,a2,a3,fun x y hx hv he=>?_⟩
 by_cases c:x=p
 .rw[c]at he;exact a5 y (d y he)
 exact a4 x y hx hv c he
theorem Vis.reach(h:Vis E p (fun _=>False) V1)(x:Nat):V1 x<->Reach E p x:=by
 obtain⟨_,a2,a3,a4⟩:=h;exact⟨fun hx=>a3 x hx fun h=>h,fun hr=>hr.closed a2 fun a b ha he=>a4 a b ha (fun h=>h) he⟩
open Classical
theorem FZ(k:Nat):ord E k []=[]:=by cases k<;>simp[ord,Fy]
theorem Ls:∀(k j:Nat)(left:List Nat),Left n E left->left.length<=k->left.length<=j->ord E k left=ord E j left:=by
 intro k
 induction k with
 |zero=>
  intro j left _ hk _;rw[List.length_eq_zero_iff.1 (Nat.le_zero.1 hk),FZ,FZ]
 |succ k ih=>
  intro j left h hk hj
  by_cases hne:left=[]
  .rw[hne,FZ,FZ]
  obtain⟨p,hp⟩:=HI h hne;obtain⟨h1,h2,_⟩:=Cz h hp;have h3:=wK h1;obtain⟨j,rfl⟩:∃i,j=i+1:=⟨j-1,by omega⟩;have h4:=xD h1
  conv=>lhs;unfold ord;rw[hp]
  conv=>rhs;unfold ord;rw[hp]
  dsimp only;rw[ih j _ (h.erase h1 h2) (by omega) (by omega)]
structure Stage(n:Nat)(E:List (Nat×Nat))(pre left:List Nat):Prop where
 ok:Left n E left
 all:∀x,x<n->(fst E x∈pre<->fst E x∉left)
 had:∀x,x∈pre->x<n/\fst E x=x/\x∉left
 eq:ords n E=pre++ord E left.length left
theorem C3:(leasts n E).length<=n:=by
 have:=zy (fun p=>decide (fst E p=p)) (List.range n);rw[yh]at this;exact this
theorem Stage.start(hE:InN n E):Stage n E [] (leasts n E) :=
 ⟨Left.start hE,fun x hx=>⟨fun h=>by simp at h,fun h=>absurd (Bw.2 ⟨G9 hx,FY⟩) h⟩,fun x hx=>by simp at hx,by
   rw[yM];exact Ls _ _ _ (Left.start hE) C3 (zB _)⟩
theorem Stage.step{pre left:List Nat}(h:Stage n E pre left)(hp:Fy E left=some p):Stage n E (pre++[p]) (left.erase p):=by
 obtain⟨h1,h2,_⟩:=Cz h.ok hp;have hd:=h.ok.nodup;refine⟨h.ok.erase h1 h2,fun x hx=>?_,fun x hx=>?_,?_⟩
 .rw [hd.mem_erase_iff,yc,h.all x hx,xE];constructor
  .rintro(c|c)
   .exact fun c2=>c c2.2
   exact fun c2=>c2.1 c
  intro c
  by_cases c2:fst E x=p
  .exact .inr c2
  exact .inl fun c3=>c ⟨c2,c3⟩
 .rcases List.mem_append.1 hx with hx|hx
  .obtain⟨a,b,c⟩:=h.had x hx;exact⟨a,b,fun d=>c (List.mem_of_mem_erase d)⟩
  rw[List.mem_singleton.1 hx];exact⟨(h.ok.own p h1).1,(h.ok.own p h1).2,fun d=>(hd.mem_erase_iff.1 d).1 rfl⟩
 have h3:=wK h1;have h4:=xD h1;rw[h.eq,xr]
 congr 1
 obtain⟨k,hk⟩:∃k,left.length=k+1:=⟨left.length-1,by omega⟩;rw[hk]
 conv=>lhs;unfold ord;rw[hp]
 dsimp only;rw[Ls k _ _ (h.ok.erase h1 h2) (by omega) (zB _)];rfl
theorem Stage.end{pre:List Nat}(h:Stage n E pre []):ords n E=pre:=by
 have:=h.eq
 rwa [FZ,xV]at this
theorem Lt{left:List Nat}(hE:InN n E):FF E left p<->∀q,q∈CR n E p->∀h,(h,q)∈E->fst E h∈left->fst E h=p:=by
 constructor
 .exact fun h q hq x e hl=>h x q (CL.1 hq).2 e hl
 exact fun h x q hm e hl=>h q (CL.2 ⟨(hE _ e).2,hm⟩) x e hl
end
end Ci
end
section
open Go.RowKit
namespace Nt
theorem Hb(w:World)(k:Nat):Below w.heap.size w (w.drewN k):=⟨rfl,rfl,rfl,zB _,fun _ _=>rfl⟩
theorem Ig(w:World)(os:Array Obj):Below w.heap.size w (Sort.grow w os) :=
 ⟨rfl,rfl,rfl,by simp[Sort.grow],fun k hk=>by simp[Sort.grow,Array.getElem?_append,hk]⟩
structure Env(w:World):Prop where
 tab:Lib.TabIs prog w "internal/strconv.uint64pow10" .u64 Lib.pow10Tab
 syn:∃tp p, w.var? prog "strconv.ErrSyntax"=some #[.iface tp p]
 rng:∃tp p, w.var? prog "strconv.ErrRange"=some #[.iface tp p]
theorem OA:prog.globalNamed "internal/strconv.uint64pow10"=some 2 := by kernel_rfl
theorem RD:prog.globalNamed "strconv.ErrSyntax"=some 0 := by kernel_rfl
theorem RE:prog.globalNamed "strconv.ErrRange"=some 1 := by kernel_rfl
theorem Ky{w:World}{n:String}{g:Nat}{cs:Array Value}(hg:prog.globalNamed n=some g)(h:w.var? prog n=some cs):g<w.heap.size:=by
 unfold World.var? at h;simp only[hg,Option.bind_some]at h
 by_cases hlt:g<w.heap.size
 .exact hlt
 rw[Array.getElem?_eq_none (by omega)]at h;simp at h
theorem Env.below{w w':World}(h:Env w)(hb:Below w.heap.size w w'):Env w':=by
 obtain⟨h1,⟨t2,p2,h2⟩,t3,p3,h3⟩:=h;exact⟨var?_below hb OA (Ky OA h1) h1,⟨t2,p2,var?_below hb RD (Ky RD h2) h2⟩,⟨t3,p3,var?_below hb RE (Ky RE h3) h3⟩⟩
theorem Env.pos{w:World}(h:Env w):0<w.heap.size:=by have:=Ky OA h.tab;omega
theorem RF(n:Int)(h0:-9223372036854775808<=n)(h1:n<=9223372036854775807)(w:World)(d:Lib.TabIs prog w "internal/strconv.uint64pow10" .u64 Lib.pow10Tab):
 Calls prog 107 #[.int .i64 n] w fun e w'=>e=.returned (.string ⟨(Lib.itoa n).toArray⟩)/\Below w.heap.size w w':=by
 refine(Tryz.strconv_Itoa n h0 h1 w d).mono ?_;rintro e w' ⟨rfl,k,os,rfl⟩;exact⟨rfl,(Hb w k).trans (Ig (w.drewN k) os)⟩
theorem Kz(s:ByteArray)(d:s.size<=1000000)(u:Nat)(h:Lib.parseUintB 64 s.data.toList=.ok u)(w:World):
 Calls prog 153 #[.string s,.int .i64 10,.int .i64 64] w fun e w'=>e=.returned (.tuple #[.int .u64 u,.nilIface])/\Below w.heap.size w w':=by
 refine(Tryz.strconv_ParseUint_10_at64_ok s (by omega) u h w).mono ?_;rintro e w' ⟨rfl,rfl|rfl⟩
 .exact⟨rfl,zI _ _⟩
 exact⟨rfl,Go.Joins.below_bytesWorld _ _ _ _ (zB _)⟩
theorem Lu(s:ByteArray)(w:World)(hs:s.size<=9223372036854775807):
 Calls prog 152 #[.string s,.string ⟨#[48,49,50,51,52,53,54,55,56,57]⟩] w fun e w'=>e=.returned (.string ⟨(Lib.trimS s.data.toList [48,49,50,51,52,53,54,55,56,57]).toArray⟩)/\Below w.heap.size w w' :=
 Any.strings_Trim_laid Tryz.lays160 (by kernel_rfl) s ⟨#[48,49,50,51,52,53,54,55,56,57]⟩ w hs (by decide) (ascii_of_all (by decide))
theorem DO(B b:Nat)(bs:List Value)(s:ByteArray)(w:World)(h:Lib.IsBuilderF 217 5 B b bs w)(d:bs.length+s.size<=140737488355328)(aa:B<=w.heap.size):
 Calls prog 161 #[.pointer (some ⟨b,0,none⟩),.string s] w fun e w'=>e=.returned (.tuple #[.int .i64 s.size,.nilIface])/\(Lib.IsBuilderF 217 5 B b (bs++Lib.strCells s) w'/\Below B w w'/\Lib.OthersKept 5 (some b) w w'):=by
 refine(Any.Builder_WriteString_k { Tryz.lays105 with } Tryz.Builder_Extra_105 B b bs s w h d aa).q fun w' ⟨h1,h2⟩=>?_;exact⟨rfl,.inr h1,h2⟩
def lv:List Nat->Nat
 | []=>0
 |x::xs=>x+1000000000*lv xs
def lim(xs:List Nat)(i:Nat):Nat:=xs.getD i 0
def XN:Value->Nat
 |.slice _ n _=>n
 |_=>0
def Canon(xs:List Nat):Prop:=(∀x∈xs,x<1000000000)/\xs.getLast?≠some 0
theorem De(xs ys:List Nat):lv (xs++ys)=lv xs+1000000000^xs.length*lv ys:=by
 induction xs with
 |nil=>simp[lv]
 |cons x xs ih=>
  simp only[yY,lv,ih,zZ,yy,xk];rw[yT (1000000000^xs.length) 1000000000,yw];omega
def Sl(w:World)(v:Value)(xs:List Nat):Prop :=
 ∃ a cap,v=.slice a xs.length cap/\(a=none->xs=[]/\cap=0) /\
  ∀ad,a=some ad->ad.spot=none/\ad.block<w.heap.size/\xs.length<=cap/\∀i,i<xs.length->w.cell? ⟨ad.block,ad.off+i,none⟩=some (.int .u64 (lim xs i))
theorem Sl.shape{w:World}{v:Value}{xs:List Nat}(h:Sl w v xs):
 (xs=[]/\v=.slice none 0 0) \/
 ∃b off cap,v=.slice (some ⟨b,off,none⟩) xs.length cap/\b<w.heap.size/\xs.length<=cap/\∀i,i<xs.length->w.cell? ⟨b,off+i,none⟩=some (.int .u64 (lim xs i)):=by
 obtain⟨a,cap,rfl,hn,hs⟩:=h
 cases a with
 |none=>exact .inl ⟨(hn rfl).1,by rw[(hn rfl).1,(hn rfl).2];rfl⟩
 |some ad=>
  obtain⟨aa,hb,d,hc⟩:=hs ad rfl;obtain⟨b,off,sp⟩:=ad
  cases aa
  exact .inr ⟨b,off,cap,rfl,hb,d,hc⟩
theorem Sl.addr{w:World}{v:Value}{xs:List Nat}(h:Sl w v xs):
 ∃a cap,v=.slice a xs.length cap/\(xs≠[]->∃b off,a=some ⟨b,off,none⟩/\b<w.heap.size/\∀i,i<xs.length->w.cell? ⟨b,off+i,none⟩=some (.int .u64 (lim xs i))):=by
 obtain⟨a,cap,rfl,hn,hs⟩:=h;refine⟨a,cap,rfl,fun d=>?_⟩
 cases a with
 |none=>exact absurd (hn rfl).1 d
 |some ad=>
  obtain⟨aa,hb,ae,hc⟩:=hs ad rfl;obtain⟨b,off,sp⟩:=ad
  cases aa
  exact⟨b,off,rfl,hb,hc⟩
theorem Sl.mk{w:World}{b off cap:Nat}{xs:List Nat}(hb:b<w.heap.size)(d:xs.length<=cap)
 (hc:∀i,i<xs.length->w.cell? ⟨b,off+i,none⟩=some (.int .u64 (lim xs i))):Sl w (.slice (some ⟨b,off,none⟩) xs.length cap) xs :=
 ⟨some ⟨b,off,none⟩,cap,rfl,(fun h=>by cases h),(fun ad h=>by cases h;exact⟨rfl,hb,d,hc⟩)⟩
theorem Sl.nil(w:World):Sl w (.slice none 0 0) []:=⟨none,0,rfl,(fun _=>⟨rfl,rfl⟩),(fun ad h=>by cases h)⟩
theorem Sl.below{w w':World}{v:Value}{xs:List Nat}(h:Sl w v xs)(hb:Below w.heap.size w w'):Sl w' v xs:=by
 obtain⟨a,cap,rfl,hn,hs⟩:=h;refine⟨a,cap,rfl,hn,fun ad e=>?_⟩;obtain⟨h1,h2,h3,h4⟩:=hs ad e;exact⟨h1,zJ h2 hb.size,h3,fun i hi=>(hb.cell (p:=⟨ad.block,ad.off+i,none⟩) h2).trans (h4 i hi)⟩
def From(B:Nat):Value->Prop
 |.slice (some ad) _ _=>B<=ad.block
 |_=>True
def Trimmed(xs:List Nat)(k:Nat):Prop:=k<=xs.length/\(∀j,k<=j->j<xs.length->lim xs j=0)/\(0<k->lim xs (k-1)≠0)
theorem Ih(xs:List Nat)(h:∀j,j<xs.length->lim xs j=0):lv xs=0:=by
 induction xs with
 |nil=>rfl
 |cons x xs ih=>
  have h0:=h 0 (by simp);have:=ih (fun j hj=>by have:=h (j+1) (by simp;omega);simpa [lim] using this);simp[lim]at h0;simp[lv,h0,this]
theorem RG(xs:List Nat)(k i:Nat)(h:i<k):lim (xs.take k) i=lim xs i:=by
 simp[lim,h]
theorem RH(xs:List Nat)(k i:Nat):lim (xs.drop k) i=lim xs (k+i):=by
 simp[lim,List.getElem?_drop]
theorem FH(xs:List Nat)(i:Nat)(h:i<xs.length):lim xs i=xs[i]:=by
 simp[lim,h]
theorem Trimmed.lv{xs:List Nat}{k:Nat}(h:Trimmed xs k):lv (xs.take k)=lv xs:=by
 obtain⟨h1,h2,_⟩:=h;have e:xs=xs.take k++xs.drop k:=(xP k xs).symm;have:Nt.lv (xs.drop k)=0:=Ih _ (fun j hj=>by rw[RH];simp at hj;exact h2 _ (by omega) (by omega))
 conv=>rhs;rw[e]
 rw[De,this];simp
theorem Trimmed.canon{xs:List Nat}{k:Nat}(h:Trimmed xs k)(hr:∀x∈xs,x<1000000000):Canon (xs.take k):=by
 obtain⟨h1,h2,h3⟩:=h;refine⟨fun x hx=>hr x (yE hx),?_⟩;rw[List.getLast?_eq_getElem?]
 by_cases hk:k=0
 .subst hk;simp
 have d:(xs.take k).length=k:=by simp;omega
 rw[d];have:=h3 (by omega);rw[FH _ _ (by omega)]at this;rw[List.getElem?_take,zF (by omega),ze (by omega)];intro e;exact this (Option.some.inj e)
def Row(t:TypeId)(w:World)(g:Nat)(zs:List Nat):Prop :=
 w.heap[g]? = some (.cells (zs.map fun x:Nat=>Value.int .u64 (x:Int)).toArray t (0,0))
theorem Row.lt{t:TypeId}{w:World}{g:Nat}{zs:List Nat}(h:Row t w g zs):g<w.heap.size :=
 (Array.getElem?_eq_some_iff.1 h).1
theorem Row.cell{t:TypeId}{w:World}{g:Nat}{zs:List Nat}(h:Row t w g zs){i:Nat}(hi:i<zs.length):
 w.cell? ⟨g,i,none⟩=some (.int .u64 (lim zs i)):=by
 unfold Row at h;simp only[World.cell?,h];simp[lim,hi]
theorem Row.frozen{t:TypeId}{w:World}{g:Nat}{zs:List Nat}(h:Row t w g zs)(i:Nat):w.frozen? ⟨g,i,none⟩=false:=by
 unfold Row at h;simp[World.frozen?,h]
theorem Row.set{t:TypeId}{w:World}{g:Nat}{zs:List Nat}(h:Row t w g zs)(i:Nat)(y:Nat):
 Row t (w.setCell ⟨g,i,none⟩ (.int .u64 (y:Int))) g (zs.set i y):=by
 unfold Row at h ⊢;simp only[World.setCell,xX,h];simp[List.map_set]
theorem Lw(n:Nat):madeCells #[.int .u64 0] n=((List.replicate n 0).map fun x:Nat=>Value.int .u64 (x:Int)).toArray:=by
 unfold madeCells;apply Array.ext
 .simp
 intro i h1 h2;have e:i%1=0:=qB i;simp[e]
theorem Row.made0(t:TypeId)(w:World)(n:Nat):Row t (w.alloc (.cells (madeCells #[.int .u64 0] n) t)) w.heap.size (List.replicate n 0):=by
 unfold Row;rw[ym,Lw]
theorem Row.sl{t:TypeId}{w:World}{g:Nat}{zs:List Nat}(h:Row t w g zs):Sl w (.slice (some ⟨g,0,none⟩) zs.length zs.length) zs :=
 Sl.mk h.lt (zB _) (fun i hi=>by rw[yS];exact h.cell hi)
def lo(xs:List Nat)(k:Nat):Nat:=lv (xs.take k)
theorem GA(xs:List Nat)(i:Nat)(h:xs.length<=i):lim xs i=0:=by
 simp[lim,h]
theorem Cf(xs:List Nat)(k:Nat):lo xs (k+1)=lo xs k+1000000000^k*lim xs k:=by
 unfold lo
 by_cases h:k<xs.length
 .rw[zP h,De];simp only[lv,xI,Nat.min_eq_left (xF h),FH _ _ h,qC,xM]
 rw[xA (by omega),xA (by omega),GA _ _ (by omega)];simp
theorem DE(xs:List Nat):lo xs 0=0:=by simp[lo,lv]
theorem DP(xs:List Nat)(k:Nat)(h:xs.length<=k):lo xs k=lv xs:=by
 unfold lo;rw[xA h]
theorem WE(xs:List Nat)(k y:Nat):lo (xs.set k y) k=lo xs k:=by
 unfold lo;rw[List.take_set_of_le (zB _)]
theorem UL(xs:List Nat)(k y:Nat)(h:k<xs.length):lim (xs.set k y) k=y:=by
 simp[lim,h]
theorem FI(xs:List Nat)(k j y:Nat)(h:j≠k):lim (xs.set k y) j=lim xs j:=by
 simp[lim,Ne.symm h]
theorem Fi(n j:Nat):lim (List.replicate n 0) j=0:=by
 by_cases h:j<n
 .simp[lim,h]
 exact GA _ _ (by simp;omega)
def InR(xs:List Nat):Prop:=∀x∈xs,x<1000000000
theorem InR.lim{xs:List Nat}(h:InR xs)(i:Nat):lim xs i<1000000000:=by
 by_cases hi:i<xs.length
 .rw[FH _ _ hi];exact h _ (zO hi)
 rw[GA _ _ (by omega)];omega
theorem InR.set{xs:List Nat}(h:InR xs)(k y:Nat)(hy:y<1000000000):InR (xs.set k y):=by
 intro x hx
 rcases List.mem_or_eq_of_mem_set hx with h' | rfl
 .exact h x h'
 exact hy
theorem InR.zeros(n:Nat):InR (List.replicate n 0):=by
 intro x hx;rw[List.eq_of_mem_replicate hx];omega
theorem Lx{xs:List Nat}(h:InR xs):lv xs<1000000000^xs.length:=by
 induction xs with
 |nil=>simp[lv]
 |cons x xs ih=>
  have h1:=h x (by simp);have h2:=ih (fun y hy=>h y (by simp[hy]));simp only[lv,zZ,yy];generalize 1000000000^xs.length=B at *;omega
theorem Wm{xs:List Nat}(h:InR xs)(k:Nat):lo xs k<1000000000^k:=by
 have:=Lx (xs:=xs.take k) (fun x hx=>h x (yE hx));unfold lo;have h2:(xs.take k).length<=k:=by simp;omega
 exact zJ this (zj (by omega) h2)
theorem Canon.ge{xs:List Nat}(h:Canon xs)(h0:xs≠[]):1000000000^(xs.length-1)<=lv xs:=by
 obtain⟨ys,y,rfl⟩:∃ys y,xs=ys++[y]:=⟨xs.dropLast,xs.getLast h0,(vD h0).symm⟩;have hy:y≠0:=by have:=h.2;simp at this;exact this
 rw[De];simp only[zX,zZ,yR,lv];have:1000000000^ys.length*1<=1000000000^ys.length*(y+1000000000*0):=yr _ (by omega);simp at this ⊢;omega
theorem Canon.len_le{xs:List Nat}(h:Canon xs){k:Nat}(hk:lv xs<1000000000^k):xs.length<=k:=by
 by_cases h0:xs=[]
 .simp[h0]
 have:=h.ge h0;have h1:1000000000^(xs.length-1)<1000000000^k:=by omega
 have:=(Nat.pow_lt_pow_iff_right (by omega:1<1000000000)).1 h1;omega
theorem Canon.len_mono{xs ys:List Nat}(h:Canon xs)(hy:Canon ys)(d:lv xs<=lv ys):xs.length<=ys.length :=
 h.len_le (zn d (Lx hy.1))
def Cj(xs:List Nat):List Value:=xs.map fun x:Nat=>Value.int .u64 (x:Int)
def Own(t:TypeId)(B:Nat)(w:World)(v:Value)(n:Nat)(xs:List Nat):Prop:=w.ownsRow B t 1 v n (Cj xs)
theorem FJ(xs:List Nat)(x:Nat):Cj xs++[Value.int .u64 (x:Int)]=Cj (xs++[x]):=by simp[Cj]
theorem Own.len{t:TypeId}{B:Nat}{w:World}{v:Value}{n:Nat}{xs:List Nat}(h:Own t B w v n xs):xs.length=n:=by
 have:=h.1
 simpa [Cj] using this
theorem Own.sl{t:TypeId}{B:Nat}{w:World}{v:Value}{n:Nat}{xs:List Nat}(h:Own t B w v n xs):Sl w v xs:=by
 have hl:=h.len;subst hl
 rcases h.2 with⟨rfl,h0⟩|⟨g,cap,cur,rfl,hg,hh,hn,d,aa,ht⟩
 .have:xs=[]:=List.length_eq_zero_iff.1 h0;subst this;exact Sl.nil _
 refine Sl.mk (Array.getElem?_eq_some_iff.1 hh).1 hn (fun i hi=>?_);have:=World.ownsRow.cellAt h i (by omega);rw[yS,this];simp[Cj,lim,hi]
theorem Own.from{t:TypeId}{B:Nat}{w:World}{v:Value}{n:Nat}{xs:List Nat}(h:Own t B w v n xs):From B v:=by
 rcases h.2 with⟨rfl,h0⟩|⟨g,cap,cur,rfl,hg,_⟩
 .trivial
 exact hg
theorem Own.below{t:TypeId}{B:Nat}{w w':World}{v:Value}{n:Nat}{xs:List Nat}(h:Own t B w v n xs)(hb:Below w.heap.size w w'):Own t B w' v n xs:=by
 obtain⟨h1,h2⟩:=h;refine⟨h1,?_⟩
 rcases h2 with h2|⟨g,cap,cur,hv,hg,hh,r⟩
 .exact Or.inl h2
 exact Or.inr ⟨g,cap,cur,hv,hg,by rw[hb.block g (Array.getElem?_eq_some_iff.1 hh).1];exact hh,r⟩
theorem DF(w:World)(v:Value)(t:TypeId):∀j u,[v][j]? = some u->(w.alloc (.cells #[v] t)).cell? (Addr.add ⟨w.heap.size,0,none⟩ j)=some u:=by
 intro j u hj
 match j,hj with
 |0,hj=>
  simp at hj;subst hj;simp[Addr.add]
theorem Dp(k:IntKind)(x:Int):∀u∈[Value.int k x],u.oneCell'=true:=by
 intro u hu;simp at hu;subst hu;rfl
def BK(n:Nat):Prop:=n<1000000000^200
theorem MR(zs:List Nat)(p y:Nat)(h:p<zs.length):lv (zs.set p y)+1000000000^p*lim zs p=lv zs+1000000000^p*y:=by
 induction zs generalizing p with
 |nil=>simp at h
 |cons z zs ih=>
  cases p with
  |zero=>simp[lv,lim];omega
  |succ p=>
   have:=ih p (by simpa using h);have e:lim (z::zs) (p+1)=lim zs p:=by simp[lim]
   rw[e];simp only[zC,lv,yy];rw[yT (1000000000^p) 1000000000,yw,yw];omega
def Num(w:World)(v:Value)(n:Nat):Prop:=∃xs,Canon xs/\lv xs=n/\Sl w v xs
theorem Num.below{w w':World}{v:Value}{n:Nat}(h:Num w v n)(hb:Below w.heap.size w w'):Num w' v n:=by
 obtain⟨xs,h1,h2,h3⟩:=h;exact⟨xs,h1,h2,h3.below hb⟩
def AN(l:List UInt8):Nat:=l.foldl (fun a c=>a*10+(c.toNat-48)) 0
def CM(c:UInt8):Prop:=48<=c.toNat/\c.toNat<=57
theorem MS(l:List UInt8)(a:Nat):l.foldl (fun a c=>a*10+(c.toNat-48)) a=a*10^l.length+AN l:=by
 induction l generalizing a with
 |nil=>simp[AN]
 |cons c l ih=>
  simp only[List.foldl_cons,zZ,AN];rw[ih,ih (0*10+(c.toNat-48)),yy,wA,yS,yo,yw,yT 10];omega
theorem CN(l m:List UInt8):AN (l++m)=AN l*10^m.length+AN m:=by
 unfold AN;rw[vr,MS];rfl
theorem Ga:AN []=0:=rfl
theorem DY(c:UInt8)(l:List UInt8):AN (c::l)=(c.toNat-48)*10^l.length+AN l:=by
 rw[show c::l=[c]++l from rfl,CN];simp[AN]
theorem HJ{l:List UInt8}(h:∀c∈l,CM c):AN l<10^l.length:=by
 induction l with
 |nil=>simp[AN]
 |cons c l ih=>
  have h1:=h c (by simp);have h2:=ih (fun d hd=>h d (by simp[hd]));rw[DY,zZ,yy];have h3:(c.toNat-48)*10^l.length<=9*10^l.length:=xB _ (by have:=h1.2;omega);omega
theorem Ly{l:List UInt8}(h:∀c∈l,CM c)(h0:l≠[])(hl:l.length<=9):Lib.parseUintB 64 l=.ok (AN l):=by
 have key:∀(m:List UInt8)(a:Nat),(∀c∈m,CM c)->a*10^m.length+10^m.length<=1000000000->Lib.parseUintM (2^64-1) a m=.ok (a*10^m.length+AN m):=by
  intro m
  induction m with
  |nil=>intro a _ _;simp[Lib.parseUintM,AN]
  |cons c m ih=>
   intro a hm hb;have h1:=hm c (by simp);rw[zZ,yy]at hb;have hp:0<10^m.length:=wC (by omega)
   have ha:a*10^m.length<=100000000:=by
    rw[<-yw]at hb;omega
   have aa:a<=100000000:=zQ (wn a hp) ha;have hc:=h1.2;unfold Lib.parseUintM;rw[zF (show 48<=c.toNat/\c.toNat<=57 from h1),zE (by omega),zE (by omega),ih _ (fun d hd=>hm d (by simp[hd])) ?_]
   .rw[DY,zZ,yy,yo,yw,yT 10]
    congr 1;omega
   have h3:(c.toNat-48)*10^m.length<=9*10^m.length:=xB _ (by omega);have h4:a*(10^m.length*10)=a*10*10^m.length:=by rw[yT (10^m.length),yw]
   rw[yo];omega
 unfold Lib.parseUintB;rw[zE h0,key l 0 h ?_]
 .rw[wA,yS]
 rw[wA,yS];exact zQ (zj (by omega) hl) (by decide)
theorem Df(d:Nat)(h:d<10):(UInt8.ofNat (48+d)).toNat=48+d:=by
 rw[UInt8.toNat_ofNat'];omega
theorem BG(u:Nat):∀c∈Lib.decDigits u,CM c:=by
 induction u using Nat.strongRecOn with
 |_ u ih=>
  rw[Lib.decDigits]
  split
  .intro c hc;simp only[xC,yZ,wk]at hc;subst hc;unfold CM;rw[Df _ (by omega)];omega
  intro c hc
  rcases List.mem_append.1 hc with h|h
  .exact ih (u/10) (by omega) c h
  simp only[xC,yZ,wk]at h;subst h;unfold CM;rw[Df _ (by omega)];omega
theorem AJ(u:Nat):AN (Lib.decDigits u)=u:=by
 induction u using Nat.strongRecOn with
 |_ u ih=>
  rw[Lib.decDigits]
  split
  .simp only[AN,List.foldl_cons,List.foldl_nil,Df u (by omega)];omega
  rw[CN,ih (u/10) (by omega)];simp only[zZ,yR,AN,List.foldl_cons,List.foldl_nil,Df _ (vw u (show 0<10 by omega))];omega
theorem BE(u:Nat):Lib.decDigits u≠[]:=by
 rw[Lib.decDigits]
 split<;>simp
theorem Hc(l m:List UInt8)(h:l≠[]):(l++m).head? = l.head?:=by
 cases l with
 |nil=>exact absurd rfl h
 |cons a l=>rfl
theorem EI(u:Nat)(h:0<u):(Lib.decDigits u).head?≠some 48:=by
 induction u using Nat.strongRecOn with
 |_ u ih=>
  rw[Lib.decDigits]
  split
  .intro e;simp only[List.head?_cons,Option.some.injEq]at e;have:=congrArg UInt8.toNat e;rw[Df _ (by omega)]at this;simp at this;omega
  rw[Hc _ _ (BE _)];exact ih (u/10) (by omega) (by omega)
theorem EJ:∀(n:Nat)(l:List UInt8),l.length=n->l≠[]->(∀c∈l,CM c)->(l.length=1\/l.head?≠some 48)->Lib.decDigits (AN l)=l:=by
 intro n
 induction n with
 |zero=>intro l hl h0;exact absurd (List.length_eq_zero_iff.1 hl) h0
 |succ n ih=>
  intro l hl h0 hd hh;obtain⟨m,c,rfl⟩:∃m c,l=m++[c]:=⟨l.dropLast,l.getLast h0,(vD h0).symm⟩;have hc:=hd c (by simp)
  have ad:UInt8.ofNat (48+(c.toNat-48))=c:=by
   apply UInt8.toNat_inj.1;rw[Df _ (by have:=hc.2;omega)];have:=hc.1;omega
  have hv:AN (m++[c])=AN m*10+(c.toNat-48):=by rw[CN];simp[AN]
  have af:c.toNat-48<10:=by have:=hc.2;omega
  cases m with
  |nil=>
   rw[hv];simp only[Ga,wA,yS,yM];rw[vk af,ad]
  |cons a m=>
   have ae:(a::m).length=n:=by simp at hl ⊢;omega
   have aa:a≠48:=by
    rcases hh with h|h
    .simp at h
    simpa using h
   have ha:=hd a (by simp)
   have ag:0<AN (a::m):=by
    rw[DY]
    have h1:1<=a.toNat-48:=by
     have:a.toNat≠48:=fun e=>aa (UInt8.toNat_inj.1 e);have:=ha.1;omega
    have h2:1*10^m.length<=(a.toNat-48)*10^m.length:=xB _ h1;have h3:0<10^m.length:=wC (by omega);omega
   have hi:=ih (a::m) ae (by simp) (fun d h=>hd d (by simp at h ⊢;rcases h with h|h<;>simp[h])) (.inr (by simpa using aa));rw[hv,Lib.decDigits,dif_neg (by omega),show (AN (a::m)*10+(c.toNat-48))/10=AN (a::m) by omega,show (AN (a::m)*10+(c.toNat-48))%10=c.toNat-48 by omega,hi,ad]
theorem MT(n:Nat)(l:List UInt8):AN (List.replicate n 48++l)=AN l:=by
 induction n with
 |zero=>simp
 |succ n ih=>rw[List.replicate_succ,yY,DY,ih];simp
theorem CG{u k:Nat}(h:u<10^k)(hk:0<k):(Lib.decDigits u).length<=k:=by
 induction k generalizing u with
 |zero=>omega
 |succ k ih=>
  rw[Lib.decDigits]
  split
  .simp
  rename_i h10;have hu:u/10<10^k:=by rw[yy]at h;omega
  have d:0<k:=by
   rcases xe k with e|e
   .subst e;simp at h;omega
   exact e
  have:=ih hu d;simp;omega
theorem Cn(u k:Nat)(hk:0<k):(Lib.decDigits u).length<=k<->u<10^k:=by
 constructor
 .intro h;have h1:=HJ (BG u);rw[AJ]at h1;exact zJ h1 (zj (by omega) h)
 intro h;exact CG h hk
def Lz(x:Nat):List UInt8:=List.replicate (9-(Lib.decDigits x).length) 48++Lib.decDigits x
theorem L0{x:Nat}(h:x<1000000000):(Lz x).length=9:=by
 have:=CG (k:=9) (u:=x) (by simpa using h) (by omega);simp[Lz];omega
theorem Ii(u x:Nat)(hu:0<u)(hx:x<1000000000):Lib.decDigits (u*1000000000+x)=Lib.decDigits u++Lz x:=by
 have hl:=L0 hx
 have hv:AN (Lib.decDigits u++Lz x)=u*1000000000+x:=by
  rw[CN,hl,AJ,Lz,MT,AJ]
 rw[<-hv];refine EJ _ _ rfl (by simp[BE]) ?_ (.inr ?_)
 .intro c hc
  rcases List.mem_append.1 hc with h|h
  .exact BG u c h
  rcases List.mem_append.1 h with h|h
  .rw[List.eq_of_mem_replicate h];exact⟨by decide,by decide⟩
  exact BG x c h
 rw[Hc _ _ (BE _)];exact EI u hu
end Nt
end
section
open Go.RowKit Go.Shelf
namespace Nt
def UM(l:List UInt8):Bool:=!l.isEmpty&&(decide (l.length<=300)&&(l.all (fun c=>decide (48<=c.toNat/\c.toNat<=57))&&(decide (l.length=1)||decide (l.head?≠some 48))))
def isN(s:ByteArray):Bool:=UM s.data.toList
def num(n:Nat):ByteArray:=⟨(Lib.decDigits n).toArray⟩
@[irreducible] def mxd:Nat:=300
theorem Et:mxd=300:=by unfold mxd;rfl
def Lim:Nat:=10^mxd
def GB:List UInt8:=[48,49,50,51,52,53,54,55,56,57]
theorem DZ(l:List UInt8):UM l=true<->l≠[]/\l.length<=300/\(∀c∈l,CM c)/\(l.length=1\/l.head?≠some 48):=by
 unfold UM CM;simp
theorem K0{n:Nat}(h:n<Lim):isN (num n)=true:=by
 unfold isN num;rw[DZ];refine⟨BE n,by rw[<-Et];exact CG (k:=mxd) h (by rw[Et];omega),BG n,?_⟩
 rcases xe n with e|e
 .subst e;left;rw[vk (by omega)];rfl
 right;exact EI n e
theorem Ch{s:ByteArray}(h:isN s=true):∃n,n<Lim/\s=num n:=by
 unfold isN at h;rw[DZ]at h;obtain⟨h1,h2,h3,h4⟩:=h;refine⟨AN s.data.toList,?_,?_⟩
 .exact zJ (HJ h3) (zj (by omega) (by rw[Et];exact h2))
 unfold num;rw[EJ _ _ rfl h1 h3 h4]
theorem RI(l:List UInt8):Lib.trimS l GB=[]<->∀c∈l,CM c:=by
 have hd:∀c:UInt8,GB.contains c=true<->CM c:=by
  intro c;unfold GB CM;simp only[List.contains_eq_mem,xC,yZ,wk,yC,<-UInt8.toNat_inj];simp only[UInt8.reduceToNat];omega
 unfold Lib.trimS Lib.trimLeftS Lib.trimRightS;constructor
 .intro h
  have key:∀m:List UInt8,m.dropWhile (GB.contains ·)=[]->∀c∈m,CM c:=by
   intro m
   induction m with
   |nil=>intro _ c hc;exact absurd hc (by simp)
   |cons a m ih=>
    intro h c hc;rw[List.dropWhile_cons]at h
    split at h
    .rename_i ha
     rcases List.mem_cons.1 hc with e|e
     .rw[e];exact(hd a).1 ha
     exact ih h c e
    cases h
  by_cases hr:(l.reverse.dropWhile (GB.contains ·))=[]
  .intro c hc;exact key _ hr c (by simpa using hc)
  exfalso;have d:(l.reverse.dropWhile (GB.contains ·)).reverse≠[]:=by simpa using hr
  have h1:=key _ h
  obtain ⟨a,m,e⟩:∃a m,l.reverse.dropWhile (GB.contains ·)=a::m:=by
   cases hh:l.reverse.dropWhile (GB.contains ·) with
   |nil=>exact absurd hh hr
   |cons a m=>exact⟨a,m,rfl⟩
  have h2:=h1 a (by rw[e];simp)
  have h3:GB.contains a=false:=by
   have:=List.head?_dropWhile_not (GB.contains ·) l.reverse;rw[e]at this
   simpa using this
  rw[(hd a).2 h2]at h3
  cases h3
 intro h
 have h1:l.reverse.dropWhile (GB.contains ·)=[]:=by
  have key:∀m:List UInt8,(∀c∈m,CM c)->m.dropWhile (GB.contains ·)=[]:=by
   intro m
   induction m with
   |nil=>intro _;rfl
   |cons a m ih=>
    intro h;rw[List.dropWhile_cons,zF ((hd a).2 (h a (by simp)))];exact ih (fun c hc=>h c (by simp[hc]))
  exact key _ (fun c hc=>h c (by simpa using hc))
 rw[h1];rfl
theorem P5(s:ByteArray):isN s=true<->s.toList.isEmpty=false/\s.size<=300/\Lib.trimS s.data.toList [48,49,50,51,52,53,54,55,56,57]=[]/\(s.size=1\/∀h:0<s.size,s[0].toNat≠48):=by
 unfold isN;rw[DZ,show ([48,49,50,51,52,53,54,55,56,57]:List UInt8)=GB from rfl,RI,ya];have hl:s.data.toList.length=s.size:=by simp
 rw[hl];constructor
 .rintro⟨h1,h2,h3,h4⟩;refine⟨by simpa using h1,h2,h3,?_⟩
  rcases h4 with h4|h4
  .exact .inl h4
  right;intro h e;apply h4;rw[List.head?_eq_getElem?,ze (by omega)];refine congrArg some (UInt8.toNat_inj.1 ?_);rw[Array.getElem_toList];exact e
 rintro⟨h1,h2,h3,h4⟩;refine⟨by simpa using h1,h2,h3,?_⟩
 rcases h4 with h4|h4
 .exact .inl h4
 right;intro e
 have h0:0<s.data.toList.length:=by
  rcases xe s.data.toList.length with h|h
  .rw[List.length_eq_zero_iff.1 h]at e;simp at e
  exact h
 rw[List.head?_eq_getElem?,ze h0]at e;refine h4 (by omega) ?_;have:=congrArg UInt8.toNat (Option.some.inj e);rw[Array.getElem_toList]at this;exact this
theorem Ad{a b:Bool}(h:a=b):Ending.returned (.bool a)=.returned (.bool b):=by rw[h]
theorem By(s:ByteArray)(w:World)(hs:s.size<=9223372036854775807):
 Calls prog 128 #[.string s] w fun e w'=>e=.returned (.bool (isN s))/\Below w.heap.size w w':=by
 have d:=Lu s w hs;have HP:=zh (P5 s)
 have aa:¬(s.toList.isEmpty=false/\s.size<=300/\Lib.trimS s.data.toList [48,49,50,51,52,53,54,55,56,57]=[]/\(s.size=1\/∀h:0<s.size,s[0].toNat≠48))->isN s=false:=fun h=>by
  cases hh:isN s with
  |false=>rfl
  |true=>exact absurd (HP.o.1 hh) h
 have HF:=zh aa;clear aa;generalize isN s=r at HP HF ⊢
 cases h0:s.toList.isEmpty with
 |true=>
  obtain rfl:r=false:=HF.o (by rw[h0];simp);go_enter func128,ntmps128;go_wp2;go_ret;exact⟨Ad (by simp),zI _ _⟩
 |false=>
  have ad:0<s.size:=by
   rcases xe s.size with h|h
   .have:s.toList=[]:=by rw[ya];exact List.length_eq_zero_iff.1 (by simpa using h)
    rw[this]at h0;cases h0
   exact h
  by_cases h1:s.size<=300
  .by_cases ht:Lib.trimS s.data.toList [48,49,50,51,52,53,54,55,56,57]=[]
   .by_cases h2:s.size=1
    .obtain rfl:r=true:=HP.o.2 ⟨h0,h1,ht,.inl h2⟩;rw[ht]at d;have ae:((s.size:Int)==1)=true:=by rw[xQ];omega
     clear ht h2;go_enter func128,ntmps128
     go_wp2_with (go_at_call 152;refine d.q fun w' hb=>?_)
     go_ret;exact⟨Ad (by simp),hb⟩
    have ae:((s.size:Int)==1)=false:=by rw[zN];omega
    rw[ht]at d
    by_cases h3:s[0].toNat=48
    .obtain rfl:r=false:=HF.o (fun h=>by rcases h.2.2.2 with h|h;(· exact h2 h);(· exact h ad h3));have af:((s[0].toNat:Int) != 48)=false:=by rw[h3];rfl
     clear ht h2 h3;go_enter func128,ntmps128
     go_wp2_with (go_at_call 152;refine d.q fun w' hb=>?_)
     go_ret;exact⟨Ad (by simp),hb⟩
    obtain rfl:r=true:=HP.o.2 ⟨h0,h1,ht,.inr (fun _=>h3)⟩;have af:((s[0].toNat:Int) != 48)=true:=by rw[zm];omega
    clear ht h2 h3;go_enter func128,ntmps128
    go_wp2_with (go_at_call 152;refine d.q fun w' hb=>?_)
    go_ret;exact⟨Ad (by simp),hb⟩
   obtain rfl:r=false:=HF.o (fun h=>ht h.2.2.1);have ag:(Lib.trimS s.data.toList [48,49,50,51,52,53,54,55,56,57]).isEmpty=false:=by simpa using ht
   clear ht;generalize Lib.trimS s.data.toList [48,49,50,51,52,53,54,55,56,57]=tl at d ag;go_enter func128,ntmps128
   go_wp2_with (go_at_call 152;refine d.q fun w' hb=>?_)
   go_ret;exact⟨Ad (by simp),hb⟩
  obtain rfl:r=false:=HF.o (fun h=>h1 h.2.1);go_enter func128,ntmps128;go_wp2;go_ret;exact⟨Ad (by simp),zI _ _⟩
end Nt
end
section
open Go.RowKit
namespace Nt
def RJ(b off cap:Nat)(xs:List Nat)(w:World)(e:Ending)(w':World):Prop :=
 ∃k,e=.returned (.slice (some ⟨b,off,none⟩) k cap)/\Trimmed xs k/\w=w'
theorem P6(w:World)(b off cap:Nat)(xs:List Nat)(hl:xs.length<=1000000)(aa:xs.length<=cap)
 (hc:∀i,i<xs.length->w.cell? ⟨b,off+i,none⟩=some (.int .u64 (lim xs i))):
 Calls prog 154 #[.slice (some ⟨b,off,none⟩) xs.length cap] w (RJ b off cap xs w):=by
 go_enter func154,ntmps154;go_wp2
 go_loop [0] (fun v=>∃k,k<=xs.length/\v=.slice (some ⟨b,off,none⟩) k cap/\(∀j,k<=j->j<xs.length->lim xs j=0)) (fun v=>XN v)
 case atStart=>exact⟨_,zB _,rfl,fun j h h'=>by omega⟩
 case round=>
  obtain⟨k,hk,rfl,hz⟩:=hrel;have HZ:=zh hz;clear hz
  by_cases h0:0<k
  .have d:=hc (k-1) (by omega)
   by_cases hx:lim xs (k-1)=0
   .have HX:=zh hx;rw[hx]at d;clear hx hc;go_wp2;refine⟨⟨k-1,by omega,rfl,fun j h h'=>?_⟩,by simp only[XN];omega⟩
    by_cases e:j=k-1
    .rw[e];exact HX.o
    exact HZ.o j (by omega) h'
   have ad:((lim xs (k-1):Int)==0)=false:=by simp;exact hx
   have HX:=zh hx;clear hx hc;go_wp2;go_ret;exact⟨k,rfl,⟨hk,HZ.o,fun _=>HX.o⟩,rfl⟩
  clear hc;go_wp2;go_ret;exact⟨k,rfl,⟨hk,HZ.o,fun h=>by omega⟩,rfl⟩
theorem RK(w:World):
 Calls prog 154 #[.slice none 0 0] w fun e w'=>e=.returned (.slice none 0 0)/\w=w':=by
 go_enter func154,ntmps154;go_wp2;refine wp_loop_rounds 1 ?_;rw[rounds_succ];go_wp2;go_ret;exact⟨rfl,rfl⟩
def UN(w:World)(u:Value)(xs:List Nat)(e:Ending)(w':World):Prop :=
 ∃v k,e=.returned v/\Trimmed xs k/\Sl w v (xs.take k)/\(∀B,From B u->From B v)/\w=w'
theorem Dr(w:World)(v:Value)(xs:List Nat)(hl:xs.length<=1000000)(hs:Sl w v xs):
 Calls prog 154 #[v] w (UN w v xs):=by
 rcases hs.shape with⟨rfl,rfl⟩|⟨b,off,cap,rfl,hb,aa,hc⟩
 .refine(RK w).mono ?_;rintro e w' ⟨rfl,rfl⟩;exact⟨_,0,rfl,⟨zB _,fun j _ h=>absurd h (by simp),fun h=>by omega⟩,Sl.nil _,fun _ h=>h,rfl⟩
 refine(P6 w b off cap xs hl aa hc).mono ?_;rintro e w' ⟨k,rfl,ht,rfl⟩;have d:(xs.take k).length=k:=by have:=ht.1;simp;omega
 refine⟨_,k,rfl,ht,?_,fun _ h=>h,rfl⟩;have:=Sl.mk (w:=w) (b:=b) (off:=off) (cap:=cap) (xs:=xs.take k) hb (by have:=ht.1;omega) (fun i hi=>by rw[d]at hi;rw[RG _ _ _ hi];exact hc i (by have:=ht.1;omega));rw[d]at this;exact this
end Nt
end
section
open Go.RowKit Go.Shelf
attribute [local go_sem] wG
namespace Nt
abbrev B4(n:Nat):={ i:Nat // i<n }
def C4(n k:Nat):List (B4 n):=((List.range k).filterMap fun j=>if h:n-1-j<n then some ⟨n-1-j,h⟩ else none)
theorem Dh(n:Nat):C4 n 0=[]:=rfl
theorem C5(n k:Nat)(h:k<n):C4 n (k+1)=C4 n k++[⟨n-1-k,by omega⟩]:=by
 simp only[C4,xo,List.filterMap_append,List.filterMap_cons,List.filterMap_nil];rw[dif_pos (by omega)]
theorem He(n k:Nat)(h:k<=n):(C4 n k).length=k:=by
 induction k with
 |zero=>rfl
 |succ k ih=>rw[C5 n k (by omega),zX,ih (by omega)];rfl
def Keep2(b c:Nat)(W W':World):Prop:=W'.heap[b]? = W.heap[b]?/\W'.heap[c]? = W.heap[c]?
theorem Keep2.refl(b c:Nat)(W:World):Keep2 b c W W:=⟨rfl,rfl⟩
theorem Keep2.trans{b c:Nat}{A B C:World}(h:Keep2 b c A B)(k:Keep2 b c B C):Keep2 b c A C:=⟨k.1.trans h.1,k.2.trans h.2⟩
theorem Keep2.of_below{b c n:Nat}{A B:World}(h:Below n A B)(hb:b<n)(hc:c<n):Keep2 b c A B:=⟨h.block b hb,h.block c hc⟩
theorem Keep2.setCell{b c:Nat}(W:World)(p:Addr)(v:Value)(hb:b≠p.block)(hc:c≠p.block):Keep2 b c W (W.setCell p v) :=
 ⟨zg _ _ _ _ hb,zg _ _ _ _ hc⟩
def SlAt(W:World)(b:Nat)(sv:Value)(xs:List Nat):Prop :=
 (xs=[]/\∃cap,sv=.slice none 0 cap)\/∃off cap,sv=.slice (some ⟨b,off,none⟩) xs.length cap/\∀j,j<xs.length->W.cell? ⟨b,off+j,none⟩=some (.int .u64 (lim xs j))
theorem SlAt.keep{W W':World}{b c:Nat}{sv:Value}{xs:List Nat}(h:SlAt W b sv xs)(hk:Keep2 b c W W'):SlAt W' b sv xs:=by
 rcases h with h|⟨off,cap,h,hc⟩
 .exact .inl h
 exact .inr ⟨off,cap,h,fun j hj=>(zU (w:=W) hk.1).trans (hc j hj)⟩
theorem P7(F:Fence)(n:Nat)(hf:F.fn 193)(ai:F.round=none)(hn:1<=n)(l Bs b off cap:Nat)(xs:List Nat)(hl:xs.length<=1000000)(J Jx:List (B4 xs.length)->World->Prop)
 (hY:∀pre (x:B4 xs.length) W,J pre W->pre.length<xs.length->YieldAt F (n-1) prog l #[.int .i64 (x.1:Int),.int .u64 (lim xs x.1)] W fun e W' =>
   (e=.returned (.bool true)/\J (pre++[x]) W'/\Keep2 b Bs W W')\/(e=.returned (.bool false)/\Jx (pre++[x]) W'))
 (W:World)(ae:W.cell? ⟨Bs,0,none⟩=some (.slice (some ⟨b,off,none⟩) xs.length cap))(hc:∀j,j<xs.length->W.cell? ⟨b,off+j,none⟩=some (.int .u64 (lim xs j)))(h0:J [] W):
 CallsIn F n prog 193 #[.func (.yield l) #[] #[],.pointer (some ⟨Bs,0,none⟩)] W fun e W'=>(∃v,e=.returned v) /\
  ((∃ys,ys=C4 xs.length xs.length/\J ys W')\/(∃pre,(∃k,k<=xs.length/\pre=C4 xs.length k)/\Jx pre W')):=by
 refine vW func193 rfl hf ?_ ai;simp only[ntmps193,yq,zZ,yR,Nat.reduceAdd,Nat.reduceSub,yW,yX,yv,yj,yM,yY]
 gi_wp2
 gi_loopw [3] (fun i wr=>∃k:Nat,k<=xs.length/\i=.int .i64 ((xs.length:Int)-1-k)/\J (C4 xs.length k) wr/\Keep2 b Bs W wr)
  (fun i _=>((intOf i)+1).toNat)
 case atStart=>exact⟨0,zS _,by simp,h0,Keep2.refl _ _ _⟩
 case round=>
  obtain⟨k,hk,rfl,aa,h⟩:=hrel
  by_cases hlt:k<xs.length
  .have ag:=(zU (w:=W) (a:=⟨b,off+(xs.length-1-k),none⟩) h.1).trans (hc (xs.length-1-k) (by omega));have aj:=(zU (w:=W) (a:=⟨Bs,0,none⟩) h.2).trans ae;obtain⟨fn,tmps,assign,body,hy,hR⟩:=hY _ ⟨xs.length-1-k,by omega⟩ wr aa (by rw[He _ _ hk];exact hlt);dsimp only at hy;have ei:(xs.length:Int)-1-k=((xs.length-1-k:Nat):Int):=by omega
   rw[ei];obtain⟨q,d⟩:∃q,q=xs.length-1-k:=⟨_,rfl⟩;have hq:q<xs.length:=by omega
   have HB:(C4 xs.length (k+1)=C4 xs.length k++[⟨q,hq⟩]):=by rw[C5 _ _ hlt];subst d;rfl
   replace HB:=zh HB;have HQ:Hid (q+k+1=xs.length):=by unfold Hid;omega
   have hx:(⟨xs.length-1-k,by omega⟩:B4 xs.length)=⟨q,hq⟩:=by subst d;rfl
   rw[<-d]at ag hy ⊢;rw[hx]at hR;clear d hx ei
   gi_wp2
   refine hR.mono ?_;rintro e W3 (⟨rfl,af,ah⟩|⟨rfl,ad⟩)
   .gi_wp2
    have ak:=HQ.o
    go_roundw
    case rel=>exact⟨k+1,by omega,congrArg (Value.int .i64) (by omega),by rw[HB.o];exact af,h.trans ah⟩
    case measure=>simp only[intOf];omega
   gi_wp2
   refine zo (results_none rfl _ _ _) rfl ?_;exact⟨⟨_,rfl⟩,.inr ⟨_,⟨k+1,by omega,HB.o.symm⟩,ad⟩⟩
  obtain rfl:k=xs.length:=by omega
  have ei:(xs.length:Int)-1-xs.length=-1:=by omega
  rw[ei]
  gi_wp2
  go_end0;exact⟨⟨_,rfl⟩,.inl ⟨_,rfl,aa⟩⟩
theorem Jj(F:Fence)(n:Nat)(hf:F.fn 193)(h:F.round=none)(l Bs cap:Nat)(J:List (B4 0)->World->Prop)(W:World)(aa:W.cell? ⟨Bs,0,none⟩=some (.slice none 0 cap))(h0:J [] W):
 CallsIn F n prog 193 #[.func (.yield l) #[] #[],.pointer (some ⟨Bs,0,none⟩)] W fun e W'=>(∃v,e=.returned v)/\J [] W':=by
 refine vW func193 rfl hf ?_ h;simp only[ntmps193,yq,zZ,yR,Nat.reduceAdd,Nat.reduceSub,yW,yX,yv,yj,yM,yY]
 gi_wp2
 gi_loopw [3] (fun i wr=>i=.int .i64 (-1)/\J [] wr) (fun _ _=>0)
 case atStart=>exact⟨rfl,h0⟩
 case round=>
  obtain⟨rfl,d⟩:=hrel
  gi_wp2
  go_end0;exact⟨⟨_,rfl⟩,d⟩
theorem Di(F:Fence)(n:Nat)(hf:F.fn 155)(d:F.round=none)(a:Option Addr)(len cap:Nat)(w:World):
 CallsIn F n prog 155 #[.slice a len cap] w fun e w'=>e=.returned (.func (.func 193) #[] #[.pointer (some ⟨w.heap.size,0,none⟩)])/\w'=w.alloc (.cells #[.slice a len cap] 186):=by
 refine vW func155 rfl hf ?_ d;simp only[ntmps155,yq,zZ,yR,Nat.reduceAdd,Nat.reduceSub,yW,yX,yv,yj,yM,yY]
 gi_wp2
 go_ret;exact⟨rfl,rfl⟩
theorem FK(F:Fence)(n:Nat)(hf:F.fn 193)(ad:F.round=none)(hn:1<=n)(Bs b:Nat)(sv:Value)(xs:List Nat)(hl:xs.length<=1000000)(w:World)(d:Bs<w.heap.size)(hb:b<w.heap.size)
 (hc:w.cell? ⟨Bs,0,none⟩=some sv)(hI:SlAt w b sv xs):
 SeqStopsK F n prog 193 #[.pointer (some ⟨Bs,0,none⟩)] (fun x:B4 xs.length=>#[Value.int .i64 (x.1:Int),.int .u64 (lim xs x.1)]) (Keep2 b Bs)
  (fun ys=>ys=C4 xs.length xs.length) (fun pre=>∃k,k<=xs.length/\pre=C4 xs.length k) xs.length w:=fun l J Jx W hW _ _ hY h0=>by
 have aa:=(hW.cell (p:=⟨Bs,0,none⟩) d).trans hc
 rcases hI.keep (Keep2.of_below hW hb d) with⟨rfl,cap,rfl⟩|⟨off,cap,rfl,ae⟩
 .exact(Jj F n hf ad l Bs cap J W aa h0).mono fun e W' ⟨he,hj⟩=>⟨he,.inl ⟨_,rfl,hj⟩⟩
 exact(P7 F n hf ad hn l Bs b off cap xs hl J Jx hY W aa ae h0).mono fun e W' h=>h
end Nt
end
section
open Go.RowKit Go.Sort Go.Lib Go.Shelf
namespace Nt
theorem L3(w:World)(T:TypeId)(nd:Nat)(hs:nd<=24):Holds (fun(b:UInt8)=>Value.int .u8 (b.toNat:Int)) (w.alloc (.cells zeros24 T)) w.heap.size 0 (Array.replicate nd (0:UInt8)):=fun j hj=>by
 have d:j<nd:=by simpa using hj
 refine⟨?_,World.frozen?_alloc_new _ _ _ _⟩;rw[World.cell?_alloc_new,yS,zeros24_at _ (by omega),getElem!_pos _ j hj];simp
theorem K1(w:World)(o:Obj)(dk:Array UInt8)(k:Nat):Below w.heap.size w ((putRow (fun(b:UInt8)=>Value.int .u8 (b.toNat:Int)) (w.alloc o) w.heap.size 0 dk).drewN k):=by
 rw[alloc_eq_grow];obtain⟨os',_,e⟩:=putRow_grow_new (fun(b:UInt8)=>Value.int .u8 (b.toNat:Int)) w #[o] w.heap.size 0 dk (zB _);rw[e];exact(Ig w os').trans (by have:=Hb (grow w os') k;exact this.mono (by simp[grow]))
theorem GC(u:Nat)(d:u<18446744073709551616)(w:World)(af:Lib.TabIs prog w "internal/strconv.uint64pow10" .u64 Lib.pow10Tab):
 Calls prog 195 #[.int .u64 u,.int .i64 10] w fun e w'=>e=.returned (.string ⟨(Lib.decDigits u).toArray⟩)/\Below w.heap.size w w':=by
 by_cases hs:u<100
 .go_enter func195,ntmps195
  go_wp2_with (go_at_call 199;refine(Tryz.internal_strconv_small u hs _).mono ?_;rintro e w' ⟨rfl,rfl⟩)
  go_ret;exact⟨rfl,zI _ _⟩
 have ag:1<=u:=by omega
 have ah:Lib.nDigits u<=20:=by have:=Lib.numDigits_eq u ag d;split at this<;>omega
 have ae:prog.arrayLen 251=24:=by kernel_rfl
 have aj:∀W,(Instr.sliceAt 251 (.pointer (some ⟨w.heap.size,0,none⟩)) none (some (.int .i64 (Lib.nDigits u:Int))) none).run prog W=.ok (.slice (some ⟨w.heap.size,0,none⟩) (Lib.nDigits u) 24) W:=fun W=>by
  rw[run_sliceAt_array_h W 251 ⟨w.heap.size,0,none⟩ (by kernel_rfl) .i64 (Lib.nDigits u:Int) (by omega) (by rw[ae];omega)];go_simp
 have ad:=L3 w 251 (Lib.nDigits u) (by omega);have aa:=Tryz.internal_strconv_formatBase10 w.heap.size 0 24 u (Array.replicate (Lib.nDigits u) 0) (w.alloc (.cells zeros24 251)) ad (by rw[vM];exact Lib.lt_pow_nDigits u) d (by rw[vM];omega);rw[vM]at aa;have HH0:=zh ad;clear ad ae;go_enter func195,ntmps195
 go_wp2_with (first
  |(go_at_call 200;refine(Tryz.internal_strconv_numDigits u ag d _ (Lib.tabIs_alloc af _)).mono ?_;rintro e w' ⟨rfl,rfl⟩))
 go_at_call 201;refine aa.mono ?_;rintro e w' ⟨rfl,k,v',dk,rfl,hF⟩
 have ai:(convert 215 9 (.slice (some ⟨w.heap.size,0,none⟩) (Lib.nDigits u) 24)).run prog ((putRow (fun(b:UInt8)=>Value.int .u8 (b.toNat:Int)) (w.alloc (.cells zeros24 251)) w.heap.size 0 dk).drewN k)=.ok (.string ⟨(Lib.decDigits u).toArray⟩) ((putRow (fun(b:UInt8)=>Value.int .u8 (b.toNat:Int)) (w.alloc (.cells zeros24 251)) w.heap.size 0 dk).drewN k):=by
  have h:=run_convert_bytes_back (P:=prog) ((putRow (fun(b:UInt8)=>Value.int .u8 (b.toNat:Int)) (w.alloc (.cells zeros24 251)) w.heap.size 0 dk).drewN k) 215 9 5 ⟨w.heap.size,0,none⟩ 24 (Lib.decDigits u) underlying215 underlying5 underlying9 (fun j hj=>by
   rw[Lib.row_is_numeral hF j hj,Lib.add_plain,World.cell?_drewN];exact cell?_putRow (fun(b:UInt8)=>Value.int .u8 (b.toNat:Int)) _ w.heap.size 0 _ dk HH0.o (by rw[hF.size,vM]) j (by rw[hF.size];rw[Lib.decDigits_length]at hj;exact hj))
  rw[Lib.decDigits_length]at h;exact h
 go_wp2;go_ret;exact⟨rfl,K1 _ _ _ _⟩
theorem MU(u:Nat)(h:u<18446744073709551616)(w:World)(d:Lib.TabIs prog w "internal/strconv.uint64pow10" .u64 Lib.pow10Tab):
 Calls prog 160 #[.int .u64 u,.int .i64 10] w fun e w'=>e=.returned (.string ⟨(Lib.decDigits u).toArray⟩)/\Below w.heap.size w w':=by
 go_enter func160,ntmps160
 go_wp2_with (go_at_call 195;refine(GC u h _ d).q fun w' hb=>?_)
 go_ret;exact⟨rfl,hb⟩
end Nt
end
section
open Go.RowKit Go.Shelf
attribute [local go_sem] wG
namespace Nt
def F8(xs:List Nat)(x:B4 xs.length):List UInt8:=if x.1<xs.length-1 then Lz (lim xs x.1) else Lib.decDigits (lim xs x.1)
def txt(xs:List Nat)(pre:List (B4 xs.length)):List UInt8:=pre.foldl (fun a x=>a++F8 xs x) []
theorem Ij(xs:List Nat)(pre:List (B4 xs.length))(x:B4 xs.length):txt xs (pre++[x])=txt xs pre++F8 xs x:=by
 simp[txt,List.foldl_append]
theorem XO{x:Nat}(h:x<1000000000):(Lib.decDigits x).length<=9:=CG (by simpa using h) (by omega)
theorem P8{xs:List Nat}(hx:InR xs)(x:B4 xs.length):(F8 xs x).length<=9:=by
 unfold F8
 split
 .rw[L0 (hx.lim _)];omega
 exact XO (hx.lim _)
theorem OB{xs:List Nat}(hx:InR xs)(pre:List (B4 xs.length)):(txt xs pre).length<=9*pre.length:=by
 have key:∀(pre:List (B4 xs.length)) (a:List UInt8),(pre.foldl (fun a x=>a++F8 xs x) a).length<=a.length+9*pre.length:=by
  intro pre
  induction pre with
  |nil=>intro a;simp
  |cons x pre ih=>
   intro a;have h1:=ih (a++F8 xs x);have h2:=P8 hx x;simp only[List.foldl_cons,zZ,zX]at h1 ⊢;omega
 have:=key pre []
 simpa [txt] using this
theorem RL{xs:List Nat}(hx:Canon xs)(_h0:xs≠[])(k:Nat)(hk:k<xs.length):
 txt xs (C4 xs.length (k+1))=Lib.decDigits ((lv (xs.drop (xs.length-1-k))))/\0<lv (xs.drop (xs.length-1-k)):=by
 have d:0<xs.length:=by omega
 induction k with
 |zero=>
  have hd:xs.drop (xs.length-1-0)=[lim xs (xs.length-1)]:=by
   rw[Nat.sub_zero,wR (by omega),FH _ _ (by omega),List.drop_of_length_le (by omega)]
  have h:lim xs (xs.length-1)≠0:=by
   have:=hx.2;rw[List.getLast?_eq_getElem?,ze (by omega)]at this;rw[FH _ _ (by omega)];intro e;exact this (congrArg some e)
  rw[hd];simp only[lv,qC,xM];refine⟨?_,by omega⟩;rw[C5 _ _ d,Dh,Ij];simp[txt,F8]
 |succ k ih=>
  obtain⟨h1,h2⟩:=ih (by omega)
  have hd:xs.drop (xs.length-1-(k+1))=lim xs (xs.length-1-(k+1))::xs.drop (xs.length-1-k):=by
   rw[wR (by omega),FH _ _ (by omega),show xs.length-1-(k+1)+1=xs.length-1-k by omega]
  rw[hd];simp only[lv];refine⟨?_,by omega⟩;rw[C5 _ _ hk,Ij,h1,F8,zF (by dsimp only;omega)];dsimp only;rw[Nat.add_comm (lim xs (xs.length-1-(k+1))),yT 1000000000];exact(Ii _ _ h2 (InR.lim hx.1 _)).symm
theorem UO{xs:List Nat}(hx:Canon xs)(h0:xs≠[]):txt xs (C4 xs.length xs.length)=Lib.decDigits (lv xs):=by
 have d:0<xs.length:=List.length_pos_iff.2 h0;have:=(RL hx h0 (xs.length-1) (by omega)).1;rw[Nat.sub_self,List.drop_zero,Nat.sub_add_cancel d]at this;exact this
theorem P9(w:World)(a:Option Addr)(cap:Nat):
 Calls prog 133 #[.slice a 0 cap] w fun e w'=>e=.returned (.tuple #[.string ⟨#[48]⟩,.int .i64 0])/\Below w.heap.size w w':=by
 go_enter func133,ntmps133;go_wp2;go_ret2;exact⟨rfl,(zI _ w).alloc (zB _) _⟩
def Wn(w W1:World)(sv:Value)(xs:List Nat)(pre:List (B4 xs.length))(W:World):Prop :=
 Lib.IsBuilderF 217 5 (w.heap.size+1) (w.heap.size+1) (Lib.byteCells (txt xs pre)) W/\Below (w.heap.size+1) W1 W/\W.heap[w.heap.size+1+1]? = some (.cells #[sv] 186 (0,0))
theorem Dt{A B:World}{row:Option Nat}{b:Nat}{c:Array Value}{t:TypeId}{f:Nat×Nat}(h:A.heap[b]? = some (.cells c t f))(hg:A.grownBy B row)(hr:∀r,row=some r->∃o:Obj,A.heap[r]? = some o/\o.isCells=false):
 B.heap[b]? = some (.cells c t f):=by
 rw[hg.block b (Array.getElem?_eq_some_iff.1 h).1 (fun e=>?_)]
 .exact h
 obtain⟨o,ho,hc⟩:=hr b e.symm;rw[h]at ho
 cases ho
 cases hc
theorem EK{A B:World}{row:Option Nat}{T e:TypeId}{n b:Nat}{p:Value}{bs:List Value}(h:Lib.BuilderAtF T e n b p bs A)(hg:A.grownBy B row)(hr:∀r,row=some r->∃o:Obj,A.heap[r]? = some o/\o.isCells=false):
 Lib.BuilderAtF T e n b p bs B:=by
 obtain⟨h1,v,h2,h3,h4⟩:=h;refine⟨h1,v,Dt h2 hg hr,?_,h4⟩;obtain⟨h5,h6⟩:=h3;refine⟨h5,?_⟩
 rcases h6 with h6|⟨g,cap,cur,fz,k1,k2,k3,k4⟩
 .exact .inl h6
 exact .inr ⟨g,cap,cur,fz,k1,k2,Dt k3 hg hr,k4⟩
theorem K2{A B:World}{row:Option Nat}{T e:TypeId}{n b:Nat}{bs:List Value}(h:Lib.IsBuilderF T e n b bs A)(hg:A.grownBy B row)(hr:∀r,row=some r->∃o:Obj,A.heap[r]? = some o/\o.isCells=false):
 Lib.IsBuilderF T e n b bs B:=h.elim (fun k=>.inl (EK k hg hr)) (fun k=>.inr (EK k hg hr))
theorem E9{A B:World}{T e:TypeId}{n b:Nat}{p:Value}{bs:List Value}(h:Lib.BuilderAtF T e n b p bs A)(hb:Below A.heap.size A B):Lib.BuilderAtF T e n b p bs B:=by
 obtain⟨h1,v,h2,h3,h4⟩:=h;have key:∀{g:Nat} {o:Obj},A.heap[g]? = some o->B.heap[g]? = some o:=fun h=>(hb.block _ (Array.getElem?_eq_some_iff.1 h).1).trans h;refine⟨h1,v,key h2,?_,h4⟩;obtain⟨h5,h6⟩:=h3;refine⟨h5,?_⟩
 rcases h6 with h6|⟨g,cap,cur,fz,k1,k2,k3,k4⟩
 .exact .inl h6
 exact .inr ⟨g,cap,cur,fz,k1,k2,key k3,k4⟩
theorem F9{A B:World}{T e:TypeId}{n b:Nat}{bs:List Value}(h:Lib.IsBuilderF T e n b bs A)(hb:Below A.heap.size A B):Lib.IsBuilderF T e n b bs B :=
 h.elim (fun k=>.inl (E9 k hb)) (fun k=>.inr (E9 k hb))
theorem KeepsOthers.of_others{W W':World}{t:TypeId}{b:Nat}{cs:Array Value}{T:TypeId}{fz:Nat×Nat}(h:Lib.OthersKept t (some b) W W')(hs:W.heap.size<=W'.heap.size)(hb:W.heap[b]? = some (.cells cs T fz)):KeepsOthers W W' :=
 ⟨hs,fun k o hk ho=>h k o hk (fun e=>by cases e;rw[hb]at hk;cases hk;cases ho) (fun c f e=>by subst e;cases ho)⟩
theorem RM(c:Nat):Lib.repeatL (⟨#[48]⟩:ByteArray).data.toList c=List.replicate c 48:=by
 induction c with
 |zero=>rfl
 |succ c ih=>rw[Lib.repeatL,ih];rfl
theorem Eu(l:List UInt8):Lib.strCells ⟨l.toArray⟩=Lib.byteCells l:=rfl
theorem XP(w:World)(o1 o2 o3:Obj):
 (((w.alloc o1).alloc o2).alloc o3).heap[w.heap.size]? = some o1/\(((w.alloc o1).alloc o2).alloc o3).heap[w.heap.size+1]? = some o2 /\
 (((w.alloc o1).alloc o2).alloc o3).heap[w.heap.size+1+1]? = some o3/\(((w.alloc o1).alloc o2).alloc o3).heap.size=w.heap.size+3/\Below w.heap.size w (((w.alloc o1).alloc o2).alloc o3) :=
 ⟨(yP _ _ _ (by simp;omega)).trans ((yP _ _ _ (by simp)).trans (ym _ _)),
  (yP _ _ _ (by simp)).trans (by have:=ym (w.alloc o1) o2;simpa using this),
  by have:=ym ((w.alloc o1).alloc o2) o3;simpa using this,by simp,
  (((zI _ w).alloc (zB _) _).alloc (by simp) _).alloc (by simp;omega) _⟩
def Da(l:List UInt8):Value:=if 300<l.length then .tuple #[.string ⟨#[]⟩,.int .i64 2] else .tuple #[.string ⟨l.toArray⟩,.int .i64 0]
def L4(l:List UInt8)(w:World)(e:Ending)(w':World):Prop:=e=.returned (Da l)/\Below w.heap.size w w'
theorem EA{W W':World}{e:TypeId}{b:Option Nat}(h:Below W.heap.size W W'):Lib.OthersKept e b W W' :=
 fun k _ hk _ _=>(h.block k (Array.getElem?_eq_some_iff.1 hk).1).trans hk
theorem Ik{w W1 W W':World}{sv:Value}{xs:List Nat}{pre:List (B4 xs.length)}{x:B4 xs.length}{b:Nat}{bs:List UInt8}{a:Act}{Ix:Code->List (B4 xs.length)->World->Prop}
 (s1:Lib.IsBuilderF 217 5 (w.heap.size+1) (w.heap.size+1) (Lib.byteCells (txt xs pre)) W)(s2:Below (w.heap.size+1) W1 W)(s3:W.heap[w.heap.size+1+1]? = some (.cells #[sv] 186 (0,0)))
 (hI:Lib.IsBuilderF 217 5 (w.heap.size+1) (w.heap.size+1) (Lib.byteCells (txt xs pre++bs)) W')(hb:Below (w.heap.size+1) W W')(ho:Lib.OthersKept 5 (some (w.heap.size+1)) W W')(d:b<w.heap.size)
 (hp:F8 xs x=bs):
 ownPostK (Keep2 b (w.heap.size+1+1)) (Wn w W1 sv xs) Ix (pre++[x]) W .normal a W':=by
 have k3:W'.heap[w.heap.size+1+1]? = some (.cells #[sv] 186 (0,0)):=ho _ _ s3 (by intro e;injection e with e;omega) (by intro c f e;injection e with e1 e2;cases e2);refine⟨?_,⟨hb.block b (by omega),k3.trans s3.symm⟩,?_,s2.trans hb,k3⟩
 .rcases s1 with⟨_,v,h,_⟩|⟨_,v,h,_⟩
  .exact KeepsOthers.of_others ho hb.size h
  exact KeepsOthers.of_others ho hb.size h
 rw[Ij,hp];exact hI
theorem PA(w:World)(a:Option Addr)(cap:Nat)(xs:List Nat)(hl:xs.length<=200)(hx:Hid (Canon xs))(h0:0<xs.length)(b:Nat)(hb:b<w.heap.size)
 (ha:Hid (SlAt w b (.slice a xs.length cap) xs))(hE:Hid (Env w)):
 Calls prog 133 #[.slice a xs.length cap] w (L4 (Lib.decDigits (lv xs)) w):=by
 have aM:((xs.length:Int)==0)=false:=by rw[zN];omega
 refine(wJ (n:=9)).1 ?_;refine xW func133 rfl trivial ?_ rfl;simp only[ntmps133,yq,zZ,yR,Nat.reduceAdd,Nat.reduceSub,yW,yX,yv,yj,yM,yY]
 gi_wp2_with (first
  |(refine⟨trivial,?_⟩;gi_at_call 155;refine(Di Fence.wide _ trivial rfl _ _ _ _).mono ?_;rintro e w' ⟨rfl,rfl⟩)
  |(gi_at_call 155;refine(Di Fence.wide _ trivial rfl _ _ _ _).mono ?_;rintro e w' ⟨rfl,rfl⟩))
 obtain⟨f1,f2,f3,f4,f5⟩:=XP w (.cells #[.slice a xs.length cap] 186) (.cells #[.pointer none,.slice none 0 0] 217) (.cells #[.slice a xs.length cap] 186);generalize ((w.alloc (.cells #[.slice a xs.length cap] 186)).alloc (.cells #[.pointer none,.slice none 0 0] 217)).alloc (.cells #[.slice a xs.length cap] 186)=W1 at f1 f2 f3 f4 f5 ⊢;have ap:W1.cell? ⟨w.heap.size+1+1,0,none⟩=some (.slice a xs.length cap):=by simp[World.cell?,f3]
 have ao:W1.cell? ⟨w.heap.size,0,none⟩=some (.slice a xs.length cap):=by simp[World.cell?,f1]
 have au:SlAt W1 b (.slice a xs.length cap) xs:=ha.o.keep (c:=b) (Keep2.of_below f5 hb hb)
 refine wpIn_rangeFunc_ownF rfl (by decide) (gf:=193) (lb:=#[.pointer (some ⟨w.heap.size+1+1,0,none⟩)]) rfl trivial (enters_of func193 (by kernel_rfl) rfl)
  (FK Fence.wide _ trivial rfl (by decide) (w.heap.size+1+1) b _ xs (by omega) W1 (by omega) (by omega) ap au) (fun h k=>h.trans k)
  (fun W l o o' hl h ho hw=>?kb) (zI _ _) (fun _=>rfl)
  (Wn w W1 (.slice a xs.length cap) xs) (fun _ _ _=>False)
  (fun s A B row hs hg hr=>?own)
  (fun _ _ _ _ _ hs _ _=>hs)
  ⟨.inl ⟨zB _,.slice none 0 0,f2,World.ownsRowF_nil _ _ _ _,by simp[Value.ownBlock]⟩,zI _ _,f3⟩
  (fun x=>{ tmps:=#[.slice a xs.length cap,.pointer (some ⟨w.heap.size,0,none⟩),.string ⟨#[]⟩,.int .i64 0,.pointer (some ⟨w.heap.size+1,0,none⟩),.int .i64 (x.1:Int),.int .u64 (lim xs x.1),undef,.slice a xs.length cap,
    .int .i64 xs.length,.bool false,.slice a xs.length cap,.func (.func 193) #[] #[.pointer (some ⟨w.heap.size+1+1,0,none⟩)],.int .i64 (x.1:Int),.int .u64 (lim xs x.1),
    undef,undef,undef,undef,undef,undef,undef,undef,undef,undef,undef,undef,undef,undef,undef,undef,undef],defers:=[] })
  ?assign ?body ?done ?stop
 case kb=>
  have h1:=(Array.getElem?_eq_some_iff.1 h).1;exact⟨yU (by omega),yU (by omega)⟩
 case own=>
  obtain⟨s1,s2,s3⟩:=hs;have aH:=fun r e=>(hr r e).2;exact⟨K2 s1 hg aH,s2.grown hg (by have:=s2.size;omega) (fun k e=>by have:=(hr k e).1;omega),Dt s3 hg aH⟩
 case assign=>
  intro l x W K hK
  gi_wp2
  exact hK
 case body=>
  rintro l pre x W ⟨s1,s2,s3⟩ aa;have aD:=InR.lim hx.o.1 x.1;have h9:=XO aD;have aR:=x.2;have ax:Env W:=hE.o.below (f5.trans (s2.mono (by omega)));have ag:=MU (lim xs x.1) (by omega) W ax.tab;have aA:=(s2.cell (p:=⟨w.heap.size,0,none⟩) (by simp)).trans ao;have ak:=OB hx.o.1 pre;have aF:F8 xs x=if x.1<xs.length-1 then Lz (lim xs x.1) else Lib.decDigits (lim xs x.1):=rfl
  have aG:Lz (lim xs x.1)=List.replicate (9-(Lib.decDigits (lim xs x.1)).length) 48++Lib.decDigits (lim xs x.1):=rfl;have HP:=zh aF;have HPD:=zh aG;replace s1:=zh s1;replace s2:=zh s2;replace s3:=zh s3;replace ak:=zh ak;have F4:=zh f4;clear aF aG au f1 f2 f3 ap ao f4 ax;generalize al:Lib.decDigits (lim xs x.1)=dl at h9 ag HP HPD;clear al;have ar:=s2.o.size;have aN:w.heap.size+2<W.heap.size:=by have:=F4.o;omega
  replace ar:=zh ar
  by_cases hq:x.1<xs.length-1
  .obtain ⟨c,hc⟩:∃c:Nat,(9:Int)-(dl.length:Int)=(c:Int):=⟨9-dl.length,by omega⟩;have HC:Hid (c=9-dl.length):=by unfold Hid;omega
   have aL:(x.1:Int)<(xs.length:Int)-1:=by omega
   gi_wp2_with (first
    |(refine⟨trivial,?_⟩;gi_at_call 160;refine(yt l (callsIn_wide.2 ag)).q fun w2 d=>?_;have aB:=(d.cell (p:=⟨w.heap.size,0,none⟩) (by simp;omega)).trans aA;replace d:=zh d))
   refine⟨trivial,?_⟩;refine(yt l (callsIn_wide.2 (Tryz.strings_Repeat ⟨#[48]⟩ c w2 (by omega) (by simp[ByteArray.size];omega)))).q fun w3 ad=>?_;have ae:Below W.heap.size W w3:=d.o.trans (ad.mono d.o.size);have aP:=ae.size;have aj:Lib.repeatL (⟨#[48]⟩:ByteArray).data.toList c=List.replicate c 48:=RM c;rw[aj];clear aj ad d;have av:=DO (w.heap.size+1) (w.heap.size+1) (Lib.byteCells (txt xs pre)) ⟨(List.replicate c 48).toArray⟩ w3 (F9 s1.o ae) (by rw[vN];have:=ak.o;simp[ByteArray.size];omega) (by omega);generalize aj:List.replicate c (48:UInt8)=rl at av ⊢;have HRL:=zh aj;replace ae:=zh ae;clear aj
   gi_wp2_with (first
    |(refine⟨trivial,?_⟩;gi_at_call 161;refine(yt l (callsIn_wide.2 av)).q fun w4 ⟨aJ,az,aK⟩=>?_;clear av))
   refine⟨trivial,?_⟩;have aQ:=az.size;refine(yt l (callsIn_wide.2 (DO (w.heap.size+1) (w.heap.size+1) _ ⟨dl.toArray⟩ w4 aJ (by rw[zX,vN,Lib.strCells_length];have:=ak.o;have:=HRL.o;subst this;simp[ByteArray.size];omega) (by omega)))).q fun w5 ⟨af,an,aq⟩=>?_
   gi_wp2
   refine Ik s1.o s2.o s3.o (bs:=rl++dl) ?_ (by have:=ae.o.mono (show w.heap.size+1<=W.heap.size by omega);exact(this.trans az).trans an) (((EA ae.o).trans aK).trans aq) (by omega) ?_
   .rw[Eu,Eu]at af;rw[Lib.byteCells_append,Lib.byteCells_append,<-xr];exact af
   rw[HP.o,zF hq,HPD.o,<-HRL.o,HC.o]
  .have aL:¬(x.1:Int)<(xs.length:Int)-1:=by omega
   gi_wp2_with (first
    |(refine⟨trivial,?_⟩;gi_at_call 160;refine(yt l (callsIn_wide.2 ag)).q fun w2 d=>?_;have aB:=(d.cell (p:=⟨w.heap.size,0,none⟩) (by simp;omega)).trans aA;replace d:=zh d))
   refine⟨trivial,?_⟩;have aO:=d.o.size;refine(yt l (callsIn_wide.2 (DO (w.heap.size+1) (w.heap.size+1) (Lib.byteCells (txt xs pre)) ⟨dl.toArray⟩ w2 (F9 s1.o d.o) (by rw[vN];have:=ak.o;simp[ByteArray.size];omega) (by omega)))).q fun w5 ⟨af,an,aq⟩=>?_
   gi_wp2
   refine Ik s1.o s2.o s3.o (bs:=dl) ?_ (by have:=d.o.mono (show w.heap.size+1<=W.heap.size by omega);exact this.trans an) ((EA d.o).trans aq) (by omega) ?_
   .rw[Eu]at af;rw[Lib.byteCells_append];exact af
   .rw[HP.o,zE hq]
 case done=>
  rintro D zs W hD rfl ⟨s1,s2,s3⟩ hK;have aI:=UO hx.o (List.length_pos_iff.1 h0)
  have ah:(txt xs (C4 xs.length xs.length)).length<=1800:=by
   have:=OB (xs:=xs) hx.o.1 (C4 xs.length xs.length);rw[He _ _ (zB _)]at this;omega
  rw[aI]at s1 ah;have aC:=BE (lv xs);generalize al:Lib.decDigits (lv xs)=dl at s1 ah aC;have HDL:=zh al;clear al;have ar:=s2.size;have hS:=s1;have aw:Below w.heap.size w W:=f5.trans (s2.mono (by omega));replace s1:=zh s1;replace s2:=zh s2;replace s3:=zh s3;have HK:=zh hK;have HBW:=zh aw;have F4:=zh f4;clear au f1 f2 f3 ap ao f4 hK aw aI;have aa:=Tryz.Builder_Len_f (w.heap.size+1) (w.heap.size+1) (Lib.byteCells dl) W hS;rw[vN]at aa;clear hS
  by_cases h300:300<dl.length
  .have ai:Da dl=.tuple #[.string ⟨#[]⟩,.int .i64 2]:=by unfold Da;rw[zF h300]
   have HLV:=zh ai;clear ai
   gi_wp2_with (first
    |(refine⟨trivial,?_⟩;gi_at_call 163;refine(callsIn_wide.2 aa).mono ?_;rintro e w2 ⟨rfl,rfl⟩))
   refine⟨by simp,.inl ⟨_,_,rfl,xy HK.o,?_⟩⟩;refine⟨.tuple #[.string ⟨#[]⟩,.int .i64 2],by simp[results,results133,go_sem],by rw[HDL.o,HLV.o],?_⟩;exact HBW.o.grown (xv _ D (.deferred none)) HBW.o.size (fun k e=>by cases e;have:=F4.o;omega)
  .have ai:Da dl=.tuple #[.string ⟨dl.toArray⟩,.int .i64 0]:=by unfold Da;rw[zE h300]
   have HLV:=zh ai;clear ai
   gi_wp2_with (first
    |(refine⟨trivial,?_⟩;gi_at_call 163;refine(callsIn_wide.2 aa).mono ?_;rintro e w2 ⟨rfl,rfl⟩))
   have am:=Any.Builder_String_k Tryz.lays169 Tryz.Builder_Extra_169 (w.heap.size+1) (w.heap.size+1) dl w2 s1.o aC;refine⟨trivial,?_⟩;refine(callsIn_wide.2 am).q fun w3 ⟨_,ad,aE⟩=>?_;have ay:w3.heap[D]? = some (.deferred (some [])):=aE D _ HK.o (by intro e;injection e with e;have:=F4.o;omega) (by intro c f e;cases e);have HK3:=zh ay;replace ad:=zh ad;clear aa am ay aE
   gi_wp2
   refine⟨by simp,.inl ⟨_,_,rfl,xy HK3.o,?_⟩⟩;refine⟨.tuple #[.string ⟨dl.toArray⟩,.int .i64 0],by simp[results,results133,go_sem],by rw[HDL.o,HLV.o],?_⟩;exact(HBW.o.trans (ad.o.mono (by omega))).grown (xv _ D (.deferred none)) (by have:=ad.o.size;have:=HBW.o.size;omega) (fun k e=>by cases e;have:=F4.o;omega)
 case stop=>
  rintro D c pre W _ _ h _;exact h.elim
theorem Ea(w:World)(v:Value)(n:Nat)(hn:Num w v n)(ad:BK n)(hE:Env w):
 Calls prog 133 #[v] w (L4 (Lib.decDigits n) w):=by
 obtain⟨xs,hx,rfl,d⟩:=hn;have hl:=hx.len_le (k:=200) ad
 obtain ⟨b,hb,h⟩:∃b,b<w.heap.size/\SlAt w b v xs:=by
  rcases d.shape with⟨rfl,rfl⟩|⟨b,off,cap,rfl,hb,_,hc⟩
  .exact⟨0,hE.pos,.inl ⟨rfl,0,rfl⟩⟩
  exact⟨b,hb,.inr ⟨off,cap,rfl,hc⟩⟩
 obtain⟨a,cap,rfl,_⟩:=d.addr
 by_cases h0:xs=[]
 .subst h0;refine(P9 w a cap).q fun w' aa=>?_;refine⟨?_,aa⟩;rw[lv,vk (by omega)];rfl
 exact PA w a cap xs hl hx (List.length_pos_iff.2 h0) b hb h hE
end Nt
end
section
open Go.RowKit
namespace Nt
theorem L5:(prog.info? 202).map (fun i=>(i.zero,i.size,i.bytes))=some (some (.int .u64 0),1,8):=by kernel_rfl
theorem Ev(n:Nat)(hn:n<=1000000)(w:World):
 (Instr.makeSlice 186 (.int .i64 (n:Int)) (.int .i64 (n:Int))).run prog w =
   .ok (.slice (some ⟨w.heap.size,0,none⟩) n n) (w.alloc (.cells (madeCells #[.int .u64 0] n) 202)) :=
 vE 186 202 (.int .u64 0) 8 underlying186 L5 rfl .i64 .i64 n (by omega) (by omega) w
theorem RN{X Y Z B x y br z br':Nat}(h:Z+Y=X+br*B)(e:z+(y+br)=x+br'*1000000000):
 (Z+B*z)+(Y+B*y)=(X+B*x)+br'*(B*1000000000):=by
 have e2:B*z+(B*y+B*br)=B*x+B*(br'*1000000000):=by
  rw[<-xk,<-xk,<-xk,e]
 have e3:br*B=B*br:=yT _ _;have e4:B*(br'*1000000000)=br'*(B*1000000000):=by rw[<-yw,yT B br',yw]
 omega
def RelSub(B:Nat)(w:World)(xs ys:List Nat)(g:Nat)(k br:Nat)(wr:World):Prop :=
 ∃zs,zs.length=xs.length/\InR zs/\Row 202 wr g zs/\br<=1/\lo zs k+lo ys k=lo xs k+br*1000000000^k/\Below B w wr
theorem RelSub.step{B:Nat}{w wr:World}{xs ys:List Nat}{g k br:Nat}(h:RelSub B w xs ys g k br wr)(hB:B<=g)(hk:k<xs.length){z br':Nat}
 (hz:z<1000000000)(d:br'<=1)(e:z+(lim ys k+br)=lim xs k+br'*1000000000):
 RelSub B w xs ys g (k+1) br' (wr.setCell ⟨g,k,none⟩ (.int .u64 (z:Int))):=by
 obtain⟨zs,h1,h2,h3,h4,h5,h6⟩:=h;refine⟨zs.set k z,by simpa using h1,h2.set k z hz,h3.set k z,d,?_,h6.setCell hB _⟩;rw[Cf,Cf,Cf,WE,UL _ _ _ (by omega),yy];exact RN h5 e
theorem RelSub.step'{B:Nat}{w wr:World}{xs ys:List Nat}{g k br:Nat}(h:RelSub B w xs ys g k br wr)(hB:B<=g)(hk:k<xs.length){z br':Nat}{y:Int}
 (hz:z<1000000000)(d:br'<=1)(e:z+(lim ys k+br)=lim xs k+br'*1000000000)(hy:y=(z:Int)):
 RelSub B w xs ys g (k+1) br' (wr.setCell ⟨g,k,none⟩ (.int .u64 y)):=by
 subst hy;exact h.step hB hk hz d e
def Cp(B:Nat)(w:World)(n:Nat)(e:Ending)(w':World):Prop :=
 ∃v,e=.returned v/\Num w' v n/\From B v/\Below B w w'
theorem RO(w:World)(a:Option Addr)(cap:Nat)(xs:List Nat)(c:Option Addr)(cap':Nat)(ys:List Nat)(hl:xs.length<=100000)(aq:ys.length<=xs.length)
 (hx:InR xs)(hy:InR ys)(ao:lv ys<=lv xs)
 (ha:xs≠[]->∃b off,a=some ⟨b,off,none⟩/\b<w.heap.size/\∀i,i<xs.length->w.cell? ⟨b,off+i,none⟩=some (.int .u64 (lim xs i)))
 (hc:ys≠[]->∃b off,c=some ⟨b,off,none⟩/\b<w.heap.size/\∀i,i<ys.length->w.cell? ⟨b,off+i,none⟩=some (.int .u64 (lim ys i))):
 Calls prog 159 #[.slice a xs.length cap,.slice c ys.length cap'] w (Cp w.heap.size w (lv xs-lv ys)):=by
 have af:=Ev xs.length (by omega);go_enter func159,ntmps159;go_wp2
 go_loopw [6,15] (fun br i wr=>∃k b:Nat,k<=xs.length/\i=.int .i64 k/\br=.int .u64 b/\RelSub w.heap.size w xs ys w.heap.size k b wr)
  (fun _ i _=>xs.length-(intOf i).toNat)
 case atStart=>exact⟨0,0,zS _,rfl,rfl,List.replicate xs.length 0,by simp,InR.zeros _,Row.made0 _ _ _,zS _,by simp[DE],(zI _ _).alloc (zB _) _⟩
 case round=>
  obtain⟨k,b,hk,rfl,rfl,hrel⟩:=hrel
  by_cases hkn:k<xs.length
  .obtain ⟨bx,ox,ah,aj,ad⟩:=ha (by intro e;simp[e]at hkn);obtain⟨zs,z1,z2,z3,z4,z5,z6⟩:=id hrel;have am:=(z6.cell (p:=⟨bx,ox+k,none⟩) aj).trans (ad k hkn);have ap:=hx.lim k;have al:=hy.lim k;have au:=z3.frozen k;have ar:=z3.cell (i:=k) (by omega);subst ah;clear ad ha z2 z3 z5 hx hy af;replace z6:=zh z6
   by_cases hky:k<ys.length
   .obtain ⟨b2,oy,ai,ak,ae⟩:=hc (by intro e;simp[e]at hky);subst ai;have an:=(Hid.o z6).cell (p:=⟨b2,oy+k,none⟩) ak |>.trans (ae k hky)
    have HR:=zh hrel;clear hrel hc ae z6
    by_cases aa:lim xs k<b+lim ys k
    .go_wp2;exact⟨⟨k+1,1,by omega,by go_num,rfl,HR.o.step' (zB _) hkn (z:=lim xs k+1000000000-(b+lim ys k)) (by omega) (by omega) (by omega) (by omega)⟩,by simp only[intOf];omega⟩
    go_wp2;exact⟨⟨k+1,0,by omega,by go_num,rfl,HR.o.step' (zB _) hkn (z:=lim xs k-(b+lim ys k)) (by omega) (by omega) (by omega) (by omega)⟩,by simp only[intOf];omega⟩
   clear hc z6;have d:=GA ys k (by omega);have HR:=zh hrel;have HY:=zh d;clear hrel al d
   by_cases aa:lim xs k<b
   .go_wp2;have:=HY.o;exact⟨⟨k+1,1,by omega,by go_num,rfl,HR.o.step' (zB _) hkn (z:=lim xs k+1000000000-b) (by omega) (by omega) (by omega) (by omega)⟩,by simp only[intOf];omega⟩
   go_wp2;have:=HY.o;exact⟨⟨k+1,0,by omega,by go_num,rfl,HR.o.step' (zB _) hkn (z:=lim xs k-b) (by omega) (by omega) (by omega) (by omega)⟩,by simp only[intOf];omega⟩
  obtain rfl:k=xs.length:=by omega
  obtain⟨zs,z1,z2,z3,z4,z5,z6⟩:=id hrel;have Z1:=zh z1;have Z5:=zh z5;have ag:=z3.sl;rw[z1]at ag;clear z1 z5 hrel ha hc af
  go_wp2_with (go_at_call 154;refine(Dr _ _ _ (by have:=Z1.o;omega) ag).mono ?_;rintro e w' ⟨v,k,rfl,ht,hs,hf,rfl⟩)
  go_ret;have e5:=Z5.o;have e1:=Z1.o;rw[DP _ _ (by omega),DP _ _ (by omega),DP _ _ (by omega)]at e5;have aa:=Lx z2;rw[e1]at aa
  have hb:b=0:=by
   rcases xe b with h|h
   .exact h
   have:1*1000000000^xs.length<=b*1000000000^xs.length:=xB _ h;omega
  rw[hb,wA]at e5;exact⟨v,rfl,⟨zs.take k,ht.canon z2,by rw[ht.lv];omega,hs⟩,hf _ (zB _),z6⟩
theorem OC(w:World)(v u:Value)(n m:Nat)(hn:Num w v n)(hm:Num w u m)(d:m<=n)(hb:BK n):
 Calls prog 159 #[v,u] w (Cp w.heap.size w (n-m)):=by
 obtain⟨xs,hx,rfl,h⟩:=hn;obtain⟨ys,hy,rfl,aa⟩:=hm;have hl:=hx.len_le (k:=200) hb;have ad:=hy.len_mono hx d;obtain⟨a,cap,rfl,ha⟩:=h.addr;obtain⟨c,cap',rfl,hc⟩:=aa.addr;exact RO w a cap xs c cap' ys (by omega) ad hx.1 hy.1 d ha hc
def RP(B:Nat)(w:World)(l:List UInt8)(v:Value)(i:Value)(wr:World):Prop :=
 ∃(k e:Nat)(zs:List Nat)(j:Int),i=.int .i64 j/\e=j.toNat/\j+9*k=l.length/\k<=l.length/\-9<j/\InR zs/\Own 202 B wr v k zs/\AN (l.take e)*1000000000^k+lv zs=AN l/\Below B w wr
theorem Own.from_block{t:TypeId}{B:Nat}{w:World}{v:Value}{n:Nat}{xs:List Nat}(h:Own t B w v n xs)(b:Nat)(e:v.ownBlock=some b):B<=b:=by
 have:=h.from
 cases v<;>simp[Value.ownBlock]at e
 rename_i a l c
 cases a with
 |none=>simp at e
 |some ad=>simp at e;subst e;exact this
theorem PB(s:ByteArray)(w:World)(hs:s.size<=1000)(hd:∀c∈s.data.toList,CM c):
 Calls prog 131 #[.string s] w (Cp w.heap.size w (AN s.data.toList)):=by
 obtain⟨i0,hi,ax,ay,az⟩:=vX L5;have d:s.data.toList.length=s.size:=by simp
 have HSL:=zh d;have HD:=zh hd;clear d hd;go_enter func131,ntmps131;go_wp2
 go_loopw [3,4] (fun v i wr=>RP w.heap.size w s.data.toList v i wr) (fun _ i _=>(intOf i).toNat)
 case atStart=>
  have:=HSL.o;exact⟨0,s.size,[],s.size,rfl,by simp,by omega,by omega,by omega,fun x hx=>absurd hx (by simp),yf _ _ _ _,by rw[xA (by omega)];simp[lv],zI _ _⟩
 case round=>
  obtain⟨k,e,zs,j,rfl,he,hk,aq,hj,z1,z2,z3,z4⟩:=hrel;have d:=HSL.o;rw[d]at hk aq;clear d;have aw:=z4.size
  by_cases hp:0<j
  .obtain ⟨q,hq⟩:∃q:Nat,j=(q:Int):=⟨j.toNat,by omega⟩;subst hq;have an:e=q:=by omega
   subst an;have au:e<=s.size:=by omega
   obtain⟨a,ha⟩:∃a,a=e-9:=⟨_,rfl⟩;have am:a<=e:=by omega
   have ak:=Kz (s.extract a e) (by simp;omega) (AN ((s.data.toList.take e).drop a)) ?pc wr
   case pc=>
    have e1:(s.extract a e).data.toList=(s.data.toList.take e).drop a:=by rw[Lib.extract_data,List.drop_take]
    rw[e1];refine Ly (fun c hc=>HD.o c (yE (wW hc))) ?_ ?_
    .intro h;have:=congrArg List.length h;simp at this;have:=HSL.o;simp at this;omega
    simp;omega
   have ar:AN ((s.data.toList.take e).drop a)<1000000000:=by
    have h1:=HJ (l:=(s.data.toList.take e).drop a) (fun c hc=>HD.o c (yE (wW hc)));have h2:((s.data.toList.take e).drop a).length<=9:=by simp;omega
    exact zJ h1 (zQ (zj (by omega) h2) (by decide))
   have aa:AN (s.data.toList.take a)*1000000000^(k+1)+(lv zs+1000000000^k*AN ((s.data.toList.take e).drop a))=AN s.data.toList:=by
    have af:s.data.toList.take e=s.data.toList.take a++(s.data.toList.take e).drop a:=by
     have h1:=(xP a (s.data.toList.take e)).symm;rw[List.take_take,Nat.min_eq_left am]at h1;exact h1
    rw[<-z3]
    conv=>rhs;rw[af,CN]
    have aj:((s.data.toList.take e).drop a).length=e-a:=by
     rw[List.length_drop,xI,HSL.o,Nat.min_eq_left au]
    rw[aj]
    rcases xe a with h0|h0
    .rw[h0,va,Ga,wA,wA,yS,yS,yT (1000000000^k)];omega
    have h9:e-a=9:=by omega
    rw[h9,yy,yo,yT (1000000000^k) (AN _)]
    have:AN (s.data.toList.take a)*(1000000000^k*1000000000)=AN (s.data.toList.take a)*10^9*1000000000^k:=by
     rw[yT (1000000000^k),yw,show (10:Nat)^9=1000000000 from rfl]
    omega
   generalize AN ((s.data.toList.take e).drop a)=x at ak ar aa;replace z1:=zh z1;replace z3:=zh z3;replace z4:=zh z4;replace aa:=zh aa;replace he:=zh he;replace hk:=zh hk;have aC:max (0:Int) ((e:Int)-9)=(a:Int):=by omega
   have HA:=zh ha;clear ha
   go_wp2_with (first
    |(go_at_call 153;refine ak.q fun w1 ad=>?_;replace ad:=zh ad)
    |(at_builtin;refine wpList_append_own _ rfl _ _ 186 rfl w.heap.size 202 i0 (.int .u64 0) 1 8 underlying186 hi ax ay az rfl (by decide) u3 k (Cj zs) rfl ((z2.below ad.o).alloc _) ⟨w1.heap.size,0,none⟩ 1 1 [.int .u64 (x:Int)] rfl rfl (DF _ _ _) (Dp _ _) (by unfold maxLen;omega) (by omega) (by have:=ad.o.size;simp;omega) ?_;intro v2 w2 ae ai _))
   have ag:=ad.o;have aA:=ag.size;rw[FJ]at ae;refine⟨⟨k+1,a,zs++[x],(e:Int)-9,rfl,by have:=HA.o;omega,by have:=hk.o;have:=HSL.o;omega,?_,by omega,?_,ae,?_,((z4.o.trans (ag.mono aw)).alloc (by omega) _).grown ai (by simp;omega) (fun b e=>z2.from_block b e)⟩,by simp only[intOf];omega⟩
   .have:=hk.o;have:=HSL.o;omega
   .intro y hy
    rcases List.mem_append.1 hy with h|h
    .exact z1.o y h
    simp at h;omega
   rw[De,z2.len];have:=aa.o;simp only[lv,qC,xM];omega
  obtain rfl:e=0:=by omega
  have d:=z2.sl;have ah:=z2.len;have ap:=z2.from;replace z3:=zh z3;replace ah:=zh ah;replace z4:=zh z4;have aB:¬(0:Int)<j:=hp;have ht:=Dr wr u3 zs (by have:=ah.o;omega) d;obtain⟨a3,l3,c3,e3⟩:∃a l c,u3=.slice a l c:=by obtain⟨a,c,h,_⟩:=d;exact⟨a,_,c,h⟩
  subst e3;clear z2 d he hk
  go_wp2_with (go_at_call 154;refine ht.mono ?_;rintro e w' ⟨v,k',rfl,al,av,ao,rfl⟩)
  go_ret;have:=z3.o;rw[va,Ga,wA,yS]at this;exact⟨v,rfl,⟨zs.take k',al.canon z1,by rw[al.lv,this],av⟩,ao _ ap,z4.o⟩
def RQ(B:Nat)(w:World)(xs ys:List Nat)(v:Value)(k c:Nat)(wr:World):Prop :=
 ∃zs,InR zs/\Own 202 B wr v k zs/\c<=1/\lv zs+c*1000000000^k=lo xs k+lo ys k/\Below B w wr
theorem RR{Z X Y P c c' x y:Nat}(h:Z+c*P=X+Y)(hc:c'=(x+c+y)/1000000000):
 Z+P*((x+c+y)%1000000000)+c'*(P*1000000000)=X+P*x+(Y+P*y):=by
 have e1:P*(x+c+y)=P*x+P*c+P*y:=by rw[xk,xk]
 have e2:P*(x+c+y)=P*((x+c+y)%1000000000)+P*(1000000000*((x+c+y)/1000000000)):=by rw[<-xk,Nat.mod_add_div]
 have e3:c'*(P*1000000000)=P*(1000000000*((x+c+y)/1000000000)):=by rw[hc,yT,yw]
 have e4:c*P=P*c:=yT _ _;omega
theorem HU{B:Nat}{w wr w':World}{xs ys zs:List Nat}{v v':Value}{k c:Nat}{x:Int}(h1:InR zs)(h2:Own 202 B wr v k zs)(h3:c<=1)
 (h4:lv zs+c*1000000000^k=lo xs k+lo ys k)(h5:Below B w wr)(hx:InR xs)(hy:InR ys)(hB:B<=wr.heap.size){o:Obj}
 (d:w'.ownsRow B 202 1 v' (k+1) (Cj zs++[Value.int .u64 x]))(hg:(wr.alloc o).grownBy w' v.ownBlock)(aa:∀b,v.ownBlock=some b->B<=b)
 (ad:x=(((lim xs k+c+lim ys k)%1000000000:Nat):Int)):
 RQ B w xs ys v' (k+1) ((lim xs k+c+lim ys k)/1000000000) w':=by
 have b1:=hx.lim k;have b2:=hy.lim k;subst ad;rw[FJ]at d;have hl:=h2.len;refine⟨zs++[(lim xs k+c+lim ys k)%1000000000],?_,d,by omega,?_,(h5.alloc hB o).grown hg (by simp;omega) (fun b e=>aa b e)⟩
 .intro y hy
  rcases List.mem_append.1 hy with h|h
  .exact h1 y h
  simp at h;subst h;exact vw _ (by omega)
 rw[De,hl,Cf,Cf,yy];simp only[lv,qC,xM];exact RR h4 rfl
theorem Jz(a b c:Nat):((a:Int)+b+c)%1000000000=(((a+b+c)%1000000000:Nat):Int):=by
 rw[vy,xH,xH];rfl
theorem J0(a b c:Nat):((a:Int)+b+c)/1000000000=(((a+b+c)/1000000000:Nat):Int):=by
 rw[vz,xH,xH];rfl
theorem J1(a b:Nat):((a:Int)+b)%1000000000=(((a+b)%1000000000:Nat):Int):=by
 rw[vy,xH];rfl
theorem J2(a b:Nat):((a:Int)+b)/1000000000=(((a+b)/1000000000:Nat):Int):=by
 rw[vz,xH];rfl
theorem OD{B:Nat}{w wr w':World}{xs ys zs:List Nat}{v v':Value}{c:Nat}{x:Int}(h1:InR zs)(h2:Own 202 B wr v xs.length zs)(h3:c<=1)
 (h4:lv zs+c*1000000000^xs.length=lo xs xs.length+lo ys xs.length)(h5:Below B w wr)(ae:ys.length<=xs.length)(hB:B<=wr.heap.size){o:Obj}
 (d:w'.ownsRow B 202 1 v' (xs.length+1) (Cj zs++[Value.int .u64 x]))(hg:(wr.alloc o).grownBy w' v.ownBlock)(aa:∀b,v.ownBlock=some b->B<=b)(ad:x=(c:Int)):
 ∃us,InR us/\Sl w' v' us/\us.length=xs.length+1/\lv us=lv xs+lv ys/\Below B w w':=by
 subst ad;rw[FJ]at d;have hl:=h2.len;have ho:Own 202 B w' v' (xs.length+1) (zs++[c]):=d;refine⟨zs++[c],?_,ho.sl,ho.len,?_,(h5.alloc hB o).grown hg (by simp;omega) (fun b e=>aa b e)⟩
 .intro y hy
  rcases List.mem_append.1 hy with h|h
  .exact h1 y h
  simp at h;omega
 rw[DP _ _ (zB _),DP _ _ ae]at h4;rw[De,hl];simp only[lv,qC,xM];have:c*1000000000^xs.length=1000000000^xs.length*c:=yT _ _;omega
def L6(B:Nat)(w:World)(xs ys:List Nat)(g cap:Nat)(out carry i:Value)(wr:World):Prop :=
 ∃k c:Nat,k<=xs.length/\i=.int .i64 k/\carry=.int .u64 c/\out=.slice (some ⟨g,0,none⟩) k cap/\RQ B w xs ys out k c wr
theorem RS(w:World)(a:Option Addr)(cap:Nat)(xs:List Nat)(c:Option Addr)(cap':Nat)(ys:List Nat)(hl:xs.length<=1000)(aw:ys.length<=xs.length)
 (hx:InR xs)(hy:InR ys)
 (ha:xs≠[]->∃b off,a=some ⟨b,off,none⟩/\b<w.heap.size/\∀i,i<xs.length->w.cell? ⟨b,off+i,none⟩=some (.int .u64 (lim xs i)))
 (hc:ys≠[]->∃b off,c=some ⟨b,off,none⟩/\b<w.heap.size/\∀i,i<ys.length->w.cell? ⟨b,off+i,none⟩=some (.int .u64 (lim ys i))):
 Calls prog 165 #[.slice a xs.length cap,.slice c ys.length cap'] w (Cp w.heap.size w (lv xs+lv ys)):=by
 obtain⟨i0,hi,ao,af,ap⟩:=vX L5;have au:¬xs.length<ys.length:=by omega
 go_enter func165,ntmps165
 go_wp2_with (at_make;refine wpList_make_own _ rfl _ _ 186 rfl w.heap.size 202 i0 (.int .u64 0) 1 underlying186 hi ao af _ _ _ (xs.length+1) rfl rfl (by omega) (by rw[ap];omega) (by unfold maxLen;omega) (zB _) ?_;intro w1 ad ae)
 go_loopw [5,6,22] (fun out carry i wr=>L6 w.heap.size w xs ys w.heap.size (xs.length+1) out carry i wr)
  (fun _ _ i _=>xs.length-(intOf i).toNat)
 case atStart=>exact⟨0,0,zS _,rfl,rfl,rfl,[],(fun x hx=>absurd hx (by simp)),ad,zS _,by simp[DE,lv],(zI _ _).grown ae (zB _) (fun k h=>by cases h)⟩
 case round=>
  obtain⟨k,b,hk,rfl,rfl,rfl,zs,z1,z2,z3,z4,z5⟩:=hrel;have ag:=z5.size
  by_cases hkn:k<xs.length
  .obtain ⟨bx,ox,aj,al,ah⟩:=ha (by intro e;simp[e]at hkn);have aq:=(z5.cell (p:=⟨bx,ox+k,none⟩) al).trans (ah k hkn);have av:=hx.lim k;have an:=hy.lim k;subst aj;clear ah ha ad ae
   by_cases hky:k<ys.length
   .obtain⟨b2,oy,ak,am,ai⟩:=hc (by intro e;simp[e]at hky);subst ak;have ar:=z5.cell (p:=⟨b2,oy+k,none⟩) am |>.trans (ai k hky)
    replace z1:=zh z1;replace z4:=zh z4;replace z5:=zh z5;replace hx:=zh hx;replace hy:=zh hy;have HO:=z2;clear hc ai
    go_wp2_with (at_builtin;refine wO _ rfl _ _ 186 rfl w.heap.size 202 i0 1 underlying186 hi af w.heap.size k (xs.length+1) (Cj zs) rfl (HO.alloc _) ⟨wr.heap.size,0,none⟩ 1 1 [.int .u64 (((lim xs k:Int)+b+lim ys k)%1000000000)] rfl rfl (DF _ _ _) (Dp _ _) (by omega) ?_;intro w2 d aa)
    refine⟨⟨k+1,(lim xs k+b+lim ys k)/1000000000,by omega,by go_num,congrArg (Value.int .u64) (J0 _ _ _),rfl,?_⟩,by simp only[intOf];omega⟩;exact HU z1.o z2 z3 z4.o z5.o hx.o hy.o ag d aa (fun b e=>by cases e;exact zB _) (Jz _ _ _)
   have HY0:=zh (GA ys k (by omega));replace z1:=zh z1;replace z4:=zh z4;replace z5:=zh z5;replace hx:=zh hx;replace hy:=zh hy;have HO:=z2;clear hc an
   go_wp2_with (at_builtin;refine wO _ rfl _ _ 186 rfl w.heap.size 202 i0 1 underlying186 hi af w.heap.size k (xs.length+1) (Cj zs) rfl (HO.alloc _) ⟨wr.heap.size,0,none⟩ 1 1 [.int .u64 (((lim xs k:Int)+b)%1000000000)] rfl rfl (DF _ _ _) (Dp _ _) (by omega) ?_;intro w2 d aa)
   have e0:=HY0.o;refine⟨⟨k+1,(lim xs k+b+lim ys k)/1000000000,by omega,by go_num,?_,rfl,?_⟩,by simp only[intOf];omega⟩
   .rw[e0,xM];exact congrArg (Value.int .u64) (J2 _ _)
   exact HU z1.o z2 z3 z4.o z5.o hx.o hy.o ag d aa (fun b e=>by cases e;exact zB _) (by rw[e0,xM];exact J1 _ _)
  obtain rfl:k=xs.length:=by omega
  replace z1:=zh z1;replace z4:=zh z4;replace z5:=zh z5;have HO:=z2;clear ha hc hx hy ad ae
  go_wp2_with (at_builtin;refine wO _ rfl _ _ 186 rfl w.heap.size 202 i0 1 underlying186 hi af w.heap.size xs.length (xs.length+1) (Cj zs) rfl (HO.alloc _) ⟨wr.heap.size,0,none⟩ 1 1 [.int .u64 (b:Int)] rfl rfl (DF _ _ _) (Dp _ _) (by omega) ?_;intro w2 d aa)
  obtain⟨us,u1,u2,u3,u4,u5⟩:=OD z1.o z2 z3 z4.o z5.o (by omega) ag d aa (fun b e=>by cases e;exact zB _) rfl;have U3:=zh u3;have U4:=zh u4;clear u3 u4 d aa;refine(Dr _ _ us (by have:=U3.o;omega) u2).mono ?_;rintro e w' ⟨v,k,rfl,ht,hs,hf,rfl⟩;go_wp2;go_ret;exact⟨v,rfl,⟨us.take k,ht.canon u1,by rw[ht.lv,U4.o],hs⟩,hf _ (zB _),u5⟩
theorem Jk(w:World)(a:Option Addr)(cap:Nat)(xs:List Nat)(c:Option Addr)(cap':Nat)(ys:List Nat)(hl:xs.length<=1000)(ao:ys.length<xs.length)
 (hx:InR xs)(hy:InR ys)
 (ha:xs≠[]->∃b off,a=some ⟨b,off,none⟩/\b<w.heap.size/\∀i,i<xs.length->w.cell? ⟨b,off+i,none⟩=some (.int .u64 (lim xs i)))
 (hc:ys≠[]->∃b off,c=some ⟨b,off,none⟩/\b<w.heap.size/\∀i,i<ys.length->w.cell? ⟨b,off+i,none⟩=some (.int .u64 (lim ys i))):
 Calls prog 165 #[.slice c ys.length cap',.slice a xs.length cap] w (Cp w.heap.size w (lv xs+lv ys)):=by
 obtain⟨i0,hi,ap,af,aq⟩:=vX L5;have av:ys.length<xs.length:=ao;go_enter func165,ntmps165
 go_wp2_with (at_make;refine wpList_make_own _ rfl _ _ 186 rfl w.heap.size 202 i0 (.int .u64 0) 1 underlying186 hi ap af _ _ _ (xs.length+1) rfl rfl (by omega) (by rw[aq];omega) (by unfold maxLen;omega) (zB _) ?_;intro w1 ad ae)
 go_loopw [5,6,22] (fun out carry i wr=>L6 w.heap.size w xs ys w.heap.size (xs.length+1) out carry i wr)
  (fun _ _ i _=>xs.length-(intOf i).toNat)
 case atStart=>exact⟨0,0,zS _,rfl,rfl,rfl,[],(fun x hx=>absurd hx (by simp)),ad,zS _,by simp[DE,lv],(zI _ _).grown ae (zB _) (fun k h=>by cases h)⟩
 case round=>
  obtain⟨k,b,hk,rfl,rfl,rfl,zs,z1,z2,z3,z4,z5⟩:=hrel;have ag:=z5.size
  by_cases hkn:k<xs.length
  .obtain ⟨bx,ox,aj,al,ah⟩:=ha (by intro e;simp[e]at hkn);have ar:=(z5.cell (p:=⟨bx,ox+k,none⟩) al).trans (ah k hkn);have aw:=hx.lim k;have an:=hy.lim k;subst aj;clear ah ha ad ae
   by_cases hky:k<ys.length
   .obtain⟨b2,oy,ak,am,ai⟩:=hc (by intro e;simp[e]at hky);subst ak;have au:=z5.cell (p:=⟨b2,oy+k,none⟩) am |>.trans (ai k hky)
    replace z1:=zh z1;replace z4:=zh z4;replace z5:=zh z5;replace hx:=zh hx;replace hy:=zh hy;have HO:=z2;clear hc ai
    go_wp2_with (at_builtin;refine wO _ rfl _ _ 186 rfl w.heap.size 202 i0 1 underlying186 hi af w.heap.size k (xs.length+1) (Cj zs) rfl (HO.alloc _) ⟨wr.heap.size,0,none⟩ 1 1 [.int .u64 (((lim xs k:Int)+b+lim ys k)%1000000000)] rfl rfl (DF _ _ _) (Dp _ _) (by omega) ?_;intro w2 d aa)
    refine⟨⟨k+1,(lim xs k+b+lim ys k)/1000000000,by omega,by go_num,congrArg (Value.int .u64) (J0 _ _ _),rfl,?_⟩,by simp only[intOf];omega⟩;exact HU z1.o z2 z3 z4.o z5.o hx.o hy.o ag d aa (fun b e=>by cases e;exact zB _) (Jz _ _ _)
   have HY0:=zh (GA ys k (by omega));replace z1:=zh z1;replace z4:=zh z4;replace z5:=zh z5;replace hx:=zh hx;replace hy:=zh hy;have HO:=z2;clear hc an
   go_wp2_with (at_builtin;refine wO _ rfl _ _ 186 rfl w.heap.size 202 i0 1 underlying186 hi af w.heap.size k (xs.length+1) (Cj zs) rfl (HO.alloc _) ⟨wr.heap.size,0,none⟩ 1 1 [.int .u64 (((lim xs k:Int)+b)%1000000000)] rfl rfl (DF _ _ _) (Dp _ _) (by omega) ?_;intro w2 d aa)
   have e0:=HY0.o;refine⟨⟨k+1,(lim xs k+b+lim ys k)/1000000000,by omega,by go_num,?_,rfl,?_⟩,by simp only[intOf];omega⟩
   .rw[e0,xM];exact congrArg (Value.int .u64) (J2 _ _)
   exact HU z1.o z2 z3 z4.o z5.o hx.o hy.o ag d aa (fun b e=>by cases e;exact zB _) (by rw[e0,xM];exact J1 _ _)
  obtain rfl:k=xs.length:=by omega
  replace z1:=zh z1;replace z4:=zh z4;replace z5:=zh z5;have HO:=z2;clear ha hc hx hy ad ae
  go_wp2_with (at_builtin;refine wO _ rfl _ _ 186 rfl w.heap.size 202 i0 1 underlying186 hi af w.heap.size xs.length (xs.length+1) (Cj zs) rfl (HO.alloc _) ⟨wr.heap.size,0,none⟩ 1 1 [.int .u64 (b:Int)] rfl rfl (DF _ _ _) (Dp _ _) (by omega) ?_;intro w2 d aa)
  obtain⟨us,u1,u2,u3,u4,u5⟩:=OD z1.o z2 z3 z4.o z5.o (by omega) ag d aa (fun b e=>by cases e;exact zB _) rfl;have U3:=zh u3;have U4:=zh u4;clear u3 u4 d aa;refine(Dr _ _ us (by have:=U3.o;omega) u2).mono ?_;rintro e w' ⟨v,k,rfl,ht,hs,hf,rfl⟩;go_wp2;go_ret;exact⟨v,rfl,⟨us.take k,ht.canon u1,by rw[ht.lv,U4.o],hs⟩,hf _ (zB _),u5⟩
theorem UP(w:World)(v u:Value)(n m:Nat)(hn:Num w v n)(hm:Num w u m)(aa:BK n)(d:BK m):
 Calls prog 165 #[v,u] w (Cp w.heap.size w (n+m)):=by
 obtain⟨xs,hx,rfl,ad⟩:=hn;obtain⟨ys,hy,rfl,ae⟩:=hm;have hl:=hx.len_le (k:=200) aa;have af:=hy.len_le (k:=200) d;obtain⟨a,cap,rfl,ha⟩:=ad.addr;obtain⟨c,cap',rfl,hc⟩:=ae.addr
 by_cases h:ys.length<=xs.length
 .exact RS w a cap xs c cap' ys (by omega) h hx.1 hy.1 ha hc
 rw[Nat.add_comm];exact Jk w c cap' ys a cap xs (by omega) (by omega) hy.1 hx.1 hc ha
end Nt
end
section
open Go.RowKit Go.Shelf
attribute [local go_sem] wG
namespace Nt
def BF(x y:Nat):Int:=if x<y then -1 else if y<x then 1 else 0
theorem XQ(x y:Nat)(w:World):
 Calls prog 194 #[.int .u64 (x:Int),.int .u64 (y:Int)] w fun e w'=>e=.returned (.int .i64 (BF x y))/\w=w':=by
 have h:x<y\/(¬x<y/\y<x)\/(¬x<y/\¬y<x):=by omega
 unfold BF
 rcases h with h|⟨h,h'⟩|⟨h,h'⟩
 all_goals
  go_enter func194,ntmps194;go_wp2;go_ret
  simp_all
theorem YD(x y:Nat)(w:World):
 Calls prog 70 #[.int .i64 (x:Int),.int .i64 (y:Int)] w fun e w'=>e=.returned (.int .i64 (BF x y))/\w=w':=by
 have h:x<y\/(¬x<y/\y<x)\/(¬x<y/\¬y<x):=by omega
 unfold BF
 rcases h with h|⟨h,h'⟩|⟨h,h'⟩
 all_goals
  go_enter func70,ntmps70;go_wp2;go_ret
  simp_all
theorem J3(x:Nat)(w:World):
 Calls prog 70 #[.int .i64 (x:Int),.int .i64 (x:Int)] w fun e w'=>e=.returned (.int .i64 0)/\w=w':=by
 go_enter func70,ntmps70;go_wp2;go_ret;exact⟨rfl,rfl⟩
theorem J4(x:Nat)(w:World):
 Calls prog 194 #[.int .u64 (x:Int),.int .u64 (x:Int)] w fun e w'=>e=.returned (.int .i64 0)/\w=w':=by
 go_enter func194,ntmps194;go_wp2;go_ret;exact⟨rfl,rfl⟩
theorem Ew{x y:Nat}(h:x<y):BF x y=-1:=by simp[BF,h]
theorem Gb{x y:Nat}(h:y<x):BF x y=1:=by unfold BF;rw[zE (by omega),zF h]
theorem OE(x:Nat):BF x x=0:=by simp[BF]
theorem J5{x y:Nat}(h:BF x y=0):x=y:=by
 unfold BF at h
 split at h
 .cases h
 split at h
 .cases h
 omega
theorem KeepsOthers.of_below{W W':World}(h:Below W.heap.size W W'):KeepsOthers W W' :=
 ⟨h.size,fun k _ hk _=>(h.block k (Array.getElem?_eq_some_iff.1 hk).1).trans hk⟩
theorem L7(w:World)(a:Option Addr)(n cap:Nat)(c:Option Addr)(m cap':Nat)(d:n≠m):
 Calls prog 156 #[.slice a n cap,.slice c m cap'] w fun e w'=>e=.returned (.int .i64 (BF n m))/\Below w.heap.size w w':=by
 have aa:(BF n m != 0)=true:=by
  rw[zm];intro h;exact d (J5 h)
 go_enter func156,ntmps156
 go_wp2_with (go_at_call 70;refine(YD n m _).mono ?_;rintro e w' ⟨rfl,rfl⟩)
 refine zo (v:=.int .i64 (BF n m)) (by simp[results,results156,go_sem]) rfl ⟨rfl,?_⟩;exact((zI _ w).alloc (zB _) _).alloc (by simp) _
theorem L8{n:Nat}(k:Nat)(hk:k<=n)(p:B4 n):p∈C4 n k<->n-k<=p.1:=by
 induction k with
 |zero=>simp[Dh];omega
 |succ k ih=>
  rw[C5 n k (by omega),yc,ih (by omega)];simp only[xC,yZ,wk];constructor
  .rintro(h|h)
   .omega
   have hv:=congrArg Subtype.val h;dsimp only at hv;omega
  intro h
  by_cases e:p.1=n-1-k
  .right;exact Subtype.ext e
  left;omega
theorem L9{xs ys:List Nat}(he:xs.length=ys.length)(k:Nat)(hk:k<=xs.length)(h:∀j,k<=j->j<xs.length->lim xs j=lim ys j):lv xs+lo ys k=lv ys+lo xs k:=by
 obtain⟨d,hd⟩:∃d,k+d=xs.length:=⟨xs.length-k,by omega⟩
 induction d generalizing k with
 |zero=>rw[DP ys k (by omega),DP xs k (by omega)];omega
 |succ d ih=>
  have:=ih (k+1) (by omega) (fun j h1 h2=>h j (by omega) h2) (by omega);rw[Cf,Cf,h k (zB _) (by omega)]at this;omega
theorem MV{xs ys:List Nat}(he:xs.length=ys.length)(h:∀p:B4 xs.length,p∈C4 xs.length xs.length->lim xs p.1=lim ys p.1):lv xs=lv ys:=by
 have:=L9 he 0 (zS _) (fun j _ hj=>h ⟨j,hj⟩ ((L8 _ (zB _) _).2 (by simp)));rw[DE,DE]at this;omega
theorem Il{A a B b P x y:Nat}(h:A+(b+P*y)=B+(a+P*x))(ha:a<P)(d:x<y):A<B:=by
 have:P*(x+1)<=P*y:=yr _ d;rw[xk]at this;omega
theorem LA{xs ys:List Nat}(he:xs.length=ys.length)(hx:InR xs)(hy:InR ys){k:Nat}(hk:k<=xs.length){pre:List (B4 xs.length)}{x:B4 xs.length}(hp:C4 xs.length k=pre++[x])
 (d:∀p:B4 xs.length,p∈pre->lim xs p.1=lim ys p.1)(aa:lim xs x.1≠lim ys x.1):BF (lv xs) (lv ys)=BF (lim xs x.1) (lim ys x.1):=by
 cases k with
 |zero=>rw[Dh]at hp;simp at hp
 |succ k=>
  rw[C5 _ _ (by omega)]at hp;obtain⟨h1,h2⟩:=List.append_inj' hp rfl;simp only[List.cons.injEq,and_true]at h2;subst h1;have hv:xs.length-1-k=x.1:=congrArg Subtype.val h2;rw[<-hv]at aa ⊢;clear h2 hp hv;have:=L9 he (xs.length-1-k+1) (by omega) (fun j h1 h2=>d ⟨j,h2⟩ ((L8 k (by omega) _).2 (by simp;omega)));rw[Cf,Cf]at this;have a1:=Wm hx (xs.length-1-k);have a2:=Wm hy (xs.length-1-k)
  rcases vQ (lim xs (xs.length-1-k)) (lim ys (xs.length-1-k)) with h|h
  .rw[Ew h,Ew (Il this a1 h)]
  have h':lim ys (xs.length-1-k)<lim xs (xs.length-1-k):=by omega
  rw[Gb h',Gb (Il this.symm a2 h')]
theorem MW(w:World)(a:Option Addr)(cap:Nat)(xs:List Nat)(c:Option Addr)(cap':Nat)(ys:List Nat)(he:xs.length=ys.length)(hl:xs.length<=1000000)(hx:Hid (InR xs))(hy:Hid (InR ys))(b:Nat)(hb:b<w.heap.size)
 (ha:SlAt w b (.slice a xs.length cap) xs)
 (hc:ys≠[]->∃b off,c=some ⟨b,off,none⟩/\b<w.heap.size/\∀i,i<ys.length->w.cell? ⟨b,off+i,none⟩=some (.int .u64 (lim ys i))):
 Calls prog 156 #[.slice a xs.length cap,.slice c ys.length cap'] w fun e w'=>e=.returned (.int .i64 (BF (lv xs) (lv ys)))/\Below w.heap.size w w':=by
 have HEQ:=zh he;refine(wJ (n:=9)).1 ?_;refine xW func156 rfl trivial ?_ rfl;simp only[ntmps156,yq,zZ,yR,Nat.reduceAdd,Nat.reduceSub,yW,yX,yv,yj,yM,yY];rw[<-he];have HE:=zh he;clear he
 gi_wp2_with (first
  |(refine⟨trivial,?_⟩;gi_at_call 70;refine(callsIn_wide.2 (J3 xs.length _)).mono ?_;rintro e w' ⟨rfl,rfl⟩)
  |(gi_at_call 70;refine(callsIn_wide.2 (J3 xs.length _)).mono ?_;rintro e w' ⟨rfl,rfl⟩)
  |(refine⟨trivial,?_⟩;gi_at_call 155;refine(Di Fence.wide _ trivial rfl _ _ _ _).mono ?_;rintro e w' ⟨rfl,rfl⟩)
  |(gi_at_call 155;refine(Di Fence.wide _ trivial rfl _ _ _ _).mono ?_;rintro e w' ⟨rfl,rfl⟩))
 have aa:Below w.heap.size w (((w.alloc (.cells #[.slice c xs.length cap'] 186)).alloc (.cells #[.int .i64 0] 3)).alloc (.cells #[.slice a xs.length cap] 186)) :=
  (((zI _ w).alloc (zB _) _).alloc (by simp) _).alloc (by simp;omega) _
 have hm:(((w.alloc (.cells #[.slice c xs.length cap'] 186)).alloc (.cells #[.int .i64 0] 3)).alloc (.cells #[.slice a xs.length cap] 186)).cell? ⟨w.heap.size,0,none⟩=some (.slice c xs.length cap'):=by go_simp
 have hr:(((w.alloc (.cells #[.slice c xs.length cap'] 186)).alloc (.cells #[.int .i64 0] 3)).alloc (.cells #[.slice a xs.length cap] 186)).cell? ⟨w.heap.size+1,0,none⟩=some (.int .i64 0):=by go_simp
 have af:(((w.alloc (.cells #[.slice c xs.length cap'] 186)).alloc (.cells #[.int .i64 0] 3)).alloc (.cells #[.slice a xs.length cap] 186)).frozen? ⟨w.heap.size+1,0,none⟩=false:=by go_simp
 have ag:(((w.alloc (.cells #[.slice c xs.length cap'] 186)).alloc (.cells #[.int .i64 0] 3)).alloc (.cells #[.slice a xs.length cap] 186)).cell? ⟨w.heap.size+1+1,0,none⟩=some (.slice a xs.length cap):=by go_simp
 have ar:(((w.alloc (.cells #[.slice c xs.length cap'] 186)).alloc (.cells #[.int .i64 0] 3)).alloc (.cells #[.slice a xs.length cap] 186)).heap.size=w.heap.size+3:=by simp
 generalize (((w.alloc (.cells #[.slice c xs.length cap'] 186)).alloc (.cells #[.int .i64 0] 3)).alloc (.cells #[.slice a xs.length cap] 186))=W1 at aa hm hr af ag ar ⊢
 have ah:∀i,i<xs.length->∃b off,c=some ⟨b,off,none⟩/\W1.cell? ⟨b,off+i,none⟩=some (.int .u64 (lim ys i))/\b<W1.heap.size:=fun i hi=>by
  have e:=HE.o;obtain⟨b2,o2,h1,h2,h3⟩:=hc (by intro e2;rw[e2]at e;simp only[yR]at e;omega);exact⟨b2,o2,h1,(aa.cell (p:=⟨b2,o2+i,none⟩) h2).trans (h3 i (by omega)),by omega⟩
 have ai:SlAt W1 b (.slice a xs.length cap) xs:=ha.keep (c:=b) (Keep2.of_below aa hb hb);clear hc ha HE
 refine wpIn_rangeFunc_ownF rfl (by decide) (gf:=193) (lb:=#[.pointer (some ⟨w.heap.size+1+1,0,none⟩)]) rfl trivial (enters_of func193 (by kernel_rfl) rfl)
  (FK Fence.wide _ trivial rfl (by decide) (w.heap.size+1+1) b _ xs hl W1 (by omega) (by omega) ag ai) (fun h k=>h.trans k)
  (fun W l o o' hl h ho hw=>?kb) (zI _ _) (fun _=>rfl)
  (fun pre W=>(∀p∈pre,lim xs p.1=lim ys p.1)/\Below W1.heap.size W1 W)
  (fun c pre W=>c=.ret/\∃x pre',pre=pre'++[x]/\(∀p∈pre',lim xs p.1=lim ys p.1)/\lim xs x.1≠lim ys x.1/\W.cell? ⟨w.heap.size+1,0,none⟩=some (.int .i64 (BF (lim xs x.1) (lim ys x.1)))/\Below w.heap.size w W)
  (OwnFrom.and (ownFrom_pure _ _) (ownFrom_below (zB _) (zB _)))
  (fun c s A B row hs hg an=>?ix)
  ⟨by simp,zI _ _⟩
  (fun x=>{ tmps:=#[.slice a xs.length cap,.slice c xs.length cap',undef,.pointer (some ⟨w.heap.size,0,none⟩),.pointer (some ⟨w.heap.size+1,0,none⟩),.int .i64 0,.int .i64 (x.1:Int),.int .u64 (lim xs x.1),undef,
    .slice a xs.length cap,.int .i64 xs.length,.slice c xs.length cap',.int .i64 xs.length,.int .i64 0,.int .i64 0,.bool false,undef,.slice a xs.length cap,
    .func (.func 193) #[] #[.pointer (some ⟨w.heap.size+1+1,0,none⟩)],.int .i64 (x.1:Int),.int .u64 (lim xs x.1),undef,undef,undef,undef,undef,undef,undef,undef,undef],defers:=[] })
  ?assign ?body ?done ?stop
 case kb=>
  have h1:=(Array.getElem?_eq_some_iff.1 h).1;exact⟨yU (by omega),yU (by omega)⟩
 case ix=>
  obtain⟨e,x,pre',e1,e2,e3,e4,e5⟩:=hs;refine⟨e,x,pre',e1,e2,e3,cell_kept e4 hg (fun r e=>(an r e).2),e5.grown hg e5.size (fun k e=>?_)⟩;have:=(an k e).1;omega
 case assign=>
  intro l x W K hK
  gi_wp2
  exact hK
 case body=>
  rintro l pre x W ⟨ad,d⟩ au;have aw:=(d.cell (p:=⟨w.heap.size,0,none⟩) (by simp;omega)).trans hm;have al:=(d.cell (p:=⟨w.heap.size+1,0,none⟩) (by simp;omega)).trans hr;have ao:=(d.frozen (p:=⟨w.heap.size+1,0,none⟩) (by simp;omega)).trans af;obtain⟨b2,o2,aq,am,ap⟩:=ah x.1 x.2;have aj:=(d.cell (p:=⟨b2,o2+x.1,none⟩) ap).trans am;obtain⟨i,hi⟩:=x;dsimp only at aj ⊢;subst aq;have HP:=zh ad;have HB:=zh d;have HB1:=zh aa;clear ad d aa ah ai hm hr af ag am
  by_cases hq:lim xs i=lim ys i
  .have HQ:=zh hq;rw[<-hq]at aj;clear hq
   gi_wp2_with (first
    |(refine⟨trivial,?_⟩;gi_at_call 194;refine(yt l (callsIn_wide.2 (J4 (lim xs i) _))).mono ?_;rintro e w' ⟨rfl,rfl⟩)
    |(gi_at_call 194;refine(yt l (callsIn_wide.2 (J4 (lim xs i) _))).mono ?_;rintro e w' ⟨rfl,rfl⟩))
   refine⟨KeepsOthers.of_below (zI _ _),Keep2.refl _ _ _,?_,HB.o⟩;intro p hp
   rcases List.mem_append.1 hp with h|h
   .exact HP.o p h
   simp only[xC,yZ,wk]at h;subst h;exact HQ.o
  .have av:(BF (lim xs i) (lim ys i) != 0)=true:=by rw[zm];intro h;exact hq (J5 h)
   have HQ:=zh hq;clear hq
   gi_wp2_with (first
    |(refine⟨trivial,?_⟩;gi_at_call 194;refine(yt l (callsIn_wide.2 (XQ (lim xs i) (lim ys i) _))).mono ?_;rintro e w' ⟨rfl,rfl⟩)
    |(gi_at_call 194;refine(yt l (callsIn_wide.2 (XQ (lim xs i) (lim ys i) _))).mono ?_;rintro e w' ⟨rfl,rfl⟩))
   exact⟨yi _ _ _,rfl,⟨i,hi⟩,pre,rfl,HP.o,HQ.o,World.cell?_setCell_same' _ _ _ (by rw[al];rfl),(HB1.o.trans (HB.o.mono (by omega))).setCell (by simp) _⟩
 case done=>
  rintro D zs W hD rfl ⟨ae,d⟩ hK;have al:=(d.cell (p:=⟨w.heap.size+1,0,none⟩) (by simp;omega)).trans hr;have ao:=(d.frozen (p:=⟨w.heap.size+1,0,none⟩) (by simp;omega)).trans af;have HA:=zh ae;have HB:=zh (aa.trans (d.mono (by omega)));clear ae d aa ah ai hm hr af ag
  gi_wp2
  refine⟨by simp,.inl ⟨_,_,rfl,xy (((yi W ⟨w.heap.size+1,0,none⟩ (.int .i64 0)).same D _ hK rfl)),?_⟩⟩
  have ak:((W.setCell ⟨w.heap.size+1,0,none⟩ (.int .i64 0)).putObj D (.deferred none)).cell? ⟨w.heap.size+1,0,none⟩=some (.int .i64 0) :=
   cell_kept (World.cell?_setCell_same' _ _ _ (by rw[al];rfl)) (xv _ D (.deferred none)) (fun r e=>by cases e;exact⟨_,(yi W ⟨w.heap.size+1,0,none⟩ (.int .i64 0)).same D _ hK rfl,rfl⟩)
  have ae:lv xs=lv ys:=MV HEQ.o HA.o;rw[ae,OE];refine⟨.int .i64 0,by simp[results,results156,go_sem,ak],rfl,?_⟩;exact(HB.o.setCell (p:=⟨w.heap.size+1,0,none⟩) (by simp) _).grown (xv _ D _) (by have:=HB.o.size;simp[World.setCell];omega) (fun k e=>by cases e;omega)
 case stop=>
  rintro D c pre W hD ⟨k,hk,ad⟩ ⟨rfl,x,pre',h1,h2,h3,h4,h5⟩ hK;have H2:=zh h2;have H3:=zh h3;have H5:=zh h5;have HPR:=zh (ad.symm.trans h1);clear h2 h3 h5 ad h1 aa ah ai hm hr af ag
  gi_wp2
  refine⟨by simp,.inl ⟨_,_,rfl,xy hK,?_⟩⟩
  have ak:(W.putObj D (.deferred none)).cell? ⟨w.heap.size+1,0,none⟩=some (.int .i64 (BF (lim xs x.1) (lim ys x.1))) :=
   cell_kept h4 (xv _ D (.deferred none)) (fun r e=>by cases e;exact⟨_,hK,rfl⟩)
  rw[LA HEQ.o hx.o hy.o hk HPR.o H2.o H3.o];refine⟨.int .i64 (BF (lim xs x.1) (lim ys x.1)),by simp[results,results156,go_sem,ak],rfl,?_⟩;exact H5.o.grown (xv _ D _) H5.o.size (fun k e=>by cases e;omega)
theorem SlAt.of{w:World}{v:Value}{xs:List Nat}(h:Sl w v xs)(h0:0<w.heap.size):∃b,b<w.heap.size/\SlAt w b v xs:=by
 rcases h.shape with⟨rfl,rfl⟩|⟨b,off,cap,rfl,hb,_,hc⟩
 .exact⟨0,h0,.inl ⟨rfl,0,rfl⟩⟩
 exact⟨b,hb,.inr ⟨off,cap,rfl,hc⟩⟩
theorem EL(w:World)(v u:Value)(n m:Nat)(hn:Num w v n)(hm:Num w u m)(ae:BK n)(h0:0<w.heap.size):
 Calls prog 156 #[v,u] w fun e w'=>e=.returned (.int .i64 (BF n m))/\Below w.heap.size w w':=by
 obtain⟨xs,hx,rfl,d⟩:=hn;obtain⟨ys,hy,rfl,aa⟩:=hm;have hl:=hx.len_le (k:=200) ae
 by_cases he:xs.length=ys.length
 .obtain⟨b,hb,ad⟩:=SlAt.of d h0;obtain⟨a,cap,rfl,_⟩:=d.addr;obtain⟨c,cap',rfl,hc⟩:=aa.addr;exact MW w a cap xs c cap' ys he (by omega) hx.1 hy.1 b hb ad hc
 obtain⟨a,cap,rfl,_⟩:=d.addr;obtain⟨c,cap',rfl,hc⟩:=aa.addr;refine(L7 w a xs.length cap c ys.length cap' he).q fun w' hb=>?_;refine⟨?_,hb⟩
 rcases vQ xs.length ys.length with h|h
 .have h1:=Lx hx.1;have h2:=hy.ge (by intro e;simp[e]at h);have h3:1000000000^xs.length<=1000000000^(ys.length-1):=zj (by omega) (by omega);rw[Ew h,Ew (by omega)]
 have h':ys.length<xs.length:=by omega
 have h1:=Lx hy.1;have h2:=hx.ge (by intro e;simp[e]at h');have h3:1000000000^ys.length<=1000000000^(xs.length-1):=zj (by omega) (by omega);rw[Gb h',Gb (by omega)]
end Nt
end
section
open Go.RowKit Go.Shelf
namespace Nt
def MX(n:Nat)(p:Nat->Bool)(w:World)(e:Ending)(w':World):Prop :=
 ∃r:Nat,e=.returned (.int .i64 (r:Int))/\r<=n/\(∀i,i<r->p i=false)/\(r<n->p r=true)/\Below w.heap.size w w'
theorem FL(n:Nat)(hn:n<=1000000000)(p:Nat->Bool)(c1 c2:Value)(w:World)
 (ae:Hid (∀a b,a<=b->b<n->p a=true->p b=true))
 (H:Hid (∀W i,Below w.heap.size w W->i<n->Calls prog 158 #[.int .i64 (i:Int),c1,c2] W fun e W'=>e=.returned (.bool (p i))/\Below W.heap.size W W')):
 Calls prog 157 #[.int .i64 (n:Int),.func (.func 158) #[] #[c1,c2]] w (MX n p w):=by
 go_enter func157,ntmps157;go_wp2
 go_loopw [5,6] (fun i j wr=>∃a b:Nat,a<=b/\b<=n/\i=.int .i64 a/\j=.int .i64 b/\Hid ((∀k,k<a->p k=false)/\(b<n->p b=true))/\Below w.heap.size w wr)
  (fun i j _=>(intOf j-intOf i).toNat)
 case atStart=>exact⟨0,n,zS _,zB _,rfl,rfl,⟨fun k h=>by omega,fun h=>by omega⟩,zI _ _⟩
 case round=>
  obtain⟨a,b,aj,ag,rfl,rfl,aa,d⟩:=hrel;replace d:=zh d
  by_cases hlt:a<b
  .go_wp2_with fail
   obtain⟨q,hq⟩:∃q:Nat,q=(a+b)/2:=⟨_,rfl⟩;have e:((a:Int)+b)/2=(q:Int):=by rw[hq];omega
   rw[e];have ah:a<=q:=by omega
   have ak:q<b:=by omega
   clear hq e;refine(H.o _ q d.o (by omega)).q fun w' af=>?_;have ad:=d.t af;clear af d
   by_cases hp:p q=true
   .have HP:=zh hp;rw[hp];clear hp;go_wp2;exact⟨⟨a,q,ah,by omega,rfl,rfl,⟨aa.o.1,fun _=>HP.o⟩,ad.o⟩,by simp only[intOf];omega⟩
   replace hp:p q=false:=by simpa using hp
   have HP:=zh hp;rw[hp];clear hp;go_wp2;refine⟨⟨q+1,b,by omega,ag,by go_num,rfl,⟨fun k hk=>?_,aa.o.2⟩,ad.o⟩,by simp only[intOf];omega⟩
   cases ai:p k with
   |false=>rfl
   |true=>rw[<-HP.o];exact(ae.o k q (by omega) (by omega) ai).symm
  obtain rfl:a=b:=by omega
  go_wp2;go_ret;exact⟨a,rfl,ag,aa.o.1,aa.o.2,d.o⟩
end Nt
end
section
open Go.RowKit
namespace Nt
def RelMul(B:Nat)(w:World)(xs ys:List Nat)(g:Nat)(i:Nat)(wr:World):Prop :=
 ∃zs,zs.length=xs.length+ys.length/\InR zs/\Row 202 wr g zs/\lv zs=lo xs i*lv ys/\(∀j,i+ys.length<=j->lim zs j=0)/\Below B w wr
def RelMulIn(B:Nat)(w:World)(xs ys:List Nat)(g:Nat)(i j c:Nat)(wr:World):Prop :=
 ∃ zs,zs.length=xs.length+ys.length/\InR zs/\Row 202 wr g zs/\c<1000000000 /\
  lv zs+c*1000000000^(i+j)=lo xs i*lv ys+1000000000^i*(lim xs i*lo ys j)/\(∀j,i+ys.length<=j->lim zs j=0)/\Below B w wr
theorem RT{Z Z' R P x z c c':Nat}{T:Nat}(h:Z+c*P=R)(hs:Z'+P*z=Z+P*(x%1000000000))(hc:c'=x/1000000000)(hx:x=z+T+c):
 Z'+c'*(P*1000000000)=R+P*T:=by
 have e1:P*x=P*z+P*T+P*c:=by rw[hx,xk,xk]
 have e2:P*x=P*(x%1000000000)+P*(1000000000*(x/1000000000)):=by rw[<-xk,Nat.mod_add_div]
 have e3:c'*(P*1000000000)=P*(1000000000*(x/1000000000)):=by
  rw[hc,yT,yw]
 have e4:c*P=P*c:=yT _ _;omega
theorem RelMulIn.step{B:Nat}{w wr:World}{xs ys:List Nat}{g i j c:Nat}(h:RelMulIn B w xs ys g i j c wr)(hB:B<=g)(hi:i<xs.length)(hj:j<ys.length)(hx:InR xs)(hy:InR ys)
 {z T:Nat}{y:Int}(hz:wr.cell? ⟨g,i+j,none⟩=some (.int .u64 (z:Int)))(hT:T=lim xs i*lim ys j)(he:y=(((z+T+c)%1000000000:Nat):Int)):
 RelMulIn B w xs ys g i (j+1) ((z+T+c)/1000000000) (wr.setCell ⟨g,i+j,none⟩ (.int .u64 y)):=by
 subst he hT;obtain⟨zs,h1,h2,h3,h4,h5,h6,h7⟩:=h;have d:=h3.cell (i:=i+j) (by omega);rw[hz]at d;have aa:z=lim zs (i+j):=by simp at d;omega
 have b1:=h2.lim (i+j);have b2:=hx.lim i;have b3:=hy.lim j;have b4:lim xs i*lim ys j<=999999999*999999999:=wl (by omega) (by omega);refine⟨zs.set (i+j) ((z+lim xs i*lim ys j+c)%1000000000),by simpa using h1,h2.set _ _ (vw _ (by omega)),h3.set _ _,by omega,?_,fun p hp=>?_,h7.setCell hB _⟩
 .have hs:=MR zs (i+j) ((z+lim xs i*lim ys j+c)%1000000000) (by omega);rw[<-aa]at hs;have:=RT h5 hs rfl rfl;rw[Cf,show i+(j+1)=i+j+1 from rfl,yy,this,xk,xk]
  have e:1000000000^(i+j)*(lim xs i*lim ys j)=1000000000^i*(lim xs i*(1000000000^j*lim ys j)):=by
   rw[xu,yw,Nat.mul_left_comm (1000000000^j)]
  omega
 rw[FI _ _ _ _ (by omega)];exact h6 p hp
theorem RelMul.start{B:Nat}{w wr:World}{xs ys:List Nat}{g i:Nat}(h:RelMul B w xs ys g i wr):RelMulIn B w xs ys g i 0 0 wr:=by
 obtain⟨zs,h1,h2,h3,h4,h5,h6⟩:=h;exact⟨zs,h1,h2,h3,by omega,by simp[h4,DE],h5,h6⟩
theorem RelMulIn.done{B:Nat}{w wr:World}{xs ys:List Nat}{g i c:Nat}(h:RelMulIn B w xs ys g i ys.length c wr)(hB:B<=g)(hi:i<xs.length):
 RelMul B w xs ys g (i+1) (wr.setCell ⟨g,i+ys.length,none⟩ (.int .u64 (c:Int))):=by
 obtain⟨zs,h1,h2,h3,h4,h5,h6,h7⟩:=h;refine⟨zs.set (i+ys.length) c,by simpa using h1,h2.set _ _ h4,h3.set _ _,?_,fun p hp=>?_,h7.setCell hB _⟩
 .have hs:=MR zs (i+ys.length) c (by omega);rw[h6 _ (zB _)]at hs;rw[DP ys _ (zB _)]at h5;rw[Cf,yo,yw];have:c*1000000000^(i+ys.length)=1000000000^(i+ys.length)*c:=yT _ _;omega
 rw[FI _ _ _ _ (by omega)];exact h6 p (by omega)
theorem RU(z a b c:Nat):((z:Int)+a*b+c)/1000000000=(((z+a*b+c)/1000000000:Nat):Int):=by
 rw[vz,xH,xH,xU];rfl
theorem RV(z a b c:Nat):((z:Int)+a*b+c)%1000000000=(((z+a*b+c)%1000000000:Nat):Int):=by
 rw[vy,xH,xH,xU];rfl
theorem RelMulIn.at{B:Nat}{w wr:World}{xs ys:List Nat}{g i j c:Nat}(h:RelMulIn B w xs ys g i j c wr)(hi:i<xs.length)(hj:j<ys.length):
 ∃z:Nat,z<1000000000/\wr.cell? ⟨g,i+j,none⟩=some (.int .u64 (z:Int))/\wr.frozen? ⟨g,i+j,none⟩=false/\c<1000000000/\Below B w wr:=by
 obtain⟨zs,h1,h2,h3,h4,h5,h6,h7⟩:=h;exact⟨lim zs (i+j),h2.lim _,h3.cell (by omega),h3.frozen _,h4,h7⟩
theorem RW(w:World)(a:Option Addr)(cap:Nat)(xs:List Nat)(c:Option Addr)(cap':Nat)(ys:List Nat)(hl:xs.length<=1000)(au:ys.length<=1000)
 (hx:InR xs)(hy:InR ys)
 (ha:xs≠[]->∃b off,a=some ⟨b,off,none⟩/\b<w.heap.size/\∀i,i<xs.length->w.cell? ⟨b,off+i,none⟩=some (.int .u64 (lim xs i)))
 (hc:ys≠[]->∃b off,c=some ⟨b,off,none⟩/\b<w.heap.size/\∀i,i<ys.length->w.cell? ⟨b,off+i,none⟩=some (.int .u64 (lim ys i))):
 Calls prog 134 #[.slice a xs.length cap,.slice c ys.length cap'] w (Cp w.heap.size w (lv xs*lv ys)):=by
 have h:=Ev (xs.length+ys.length) (by omega);rw[xH]at h;go_enter func134,ntmps134;go_wp2
 go_loopw [20] (fun i wr=>∃k:Nat,k<=xs.length/\i=.int .i64 k/\RelMul w.heap.size w xs ys w.heap.size k wr)
  (fun i _=>xs.length-(intOf i).toNat)
 case atStart=>exact⟨0,zS _,rfl,List.replicate (xs.length+ys.length) 0,by simp,InR.zeros _,Row.made0 _ _ _,by rw[DE,wA];exact Ih _ (fun j hj=>Fi _ _),(fun j hj=>Fi _ _),(zI _ _).alloc (zB _) _⟩
 case round=>
  obtain⟨k,hk,rfl,hrel⟩:=hrel
  by_cases hkn:k<xs.length
  .obtain ⟨bx,ox,ah,aj,aa⟩:=ha (by intro e;simp[e]at hkn);obtain⟨zs,z1,z2,z3,z4,z5,z6⟩:=id hrel;have an:=(z6.cell (p:=⟨bx,ox+k,none⟩) aj).trans (aa k hkn);have aq:=hx.lim k;subst ah;have HC:=zh hc;clear aa ha z1 z2 z3 z4 z5 z6 h hc;have HR:=zh hrel;clear hrel;go_wp2;obtain⟨wo,rfl⟩:∃wo:World,wo=wr:=⟨_,rfl⟩
   go_loopw [8,27] (fun cc j wr=>∃q c:Nat,q<=ys.length/\j=.int .i64 q/\cc=.int .u64 c/\RelMulIn w.heap.size w xs ys w.heap.size k q c wr)
    (fun _ j _=>ys.length-(intOf j).toNat)
   case atStart=>exact⟨0,0,zS _,rfl,rfl,HR.o.start⟩
   case round=>
    obtain⟨q,c2,hq,rfl,rfl,hrel⟩:=hrel
    by_cases hqn:q<ys.length
    .obtain ⟨b2,oy,ai,ak,ad⟩:=HC.o (by intro e;simp[e]at hqn);subst ai;obtain⟨z,hz,af,am,ap,d⟩:=hrel.at hkn hqn;have ao:=d.cell (p:=⟨b2,oy+q,none⟩) ak |>.trans (ad q hqn)
     have ar:=hy.lim q
     have al:(lim xs k:Int)*(lim ys q:Int)<=999999998000000001:=by
      have:lim xs k*lim ys q<=999999999*999999999:=wl (by omega) (by omega);have:((lim xs k*lim ys q:Nat):Int)<=((999999999*999999999:Nat):Int):=by exact_mod_cast this
      simpa using this
     have ag:0<=(lim xs k:Int)*(lim ys q:Int):=Int.mul_nonneg (by omega) (by omega);replace hrel:=zh hrel;replace hx:=zh hx;replace hy:=zh hy;clear ad d HC;go_wp2
     exact ⟨⟨q+1,(z+lim xs k*lim ys q+c2)/1000000000,by omega,by go_num,congrArg (Value.int .u64) (RU _ _ _ _),
      hrel.o.step (zB _) hkn hqn hx.o hy.o af rfl (RV _ _ _ _)⟩,by simp only[intOf];omega⟩
    obtain rfl:q=ys.length:=by omega
    have HR':=zh (hrel.done (zB _) hkn);obtain⟨zs,z1,z2,z3,z4,z5,z6,z7⟩:=hrel;have af:=z3.cell (i:=k+ys.length) (by omega);have am:=z3.frozen (k+ys.length);replace hx:=zh hx;replace hy:=zh hy;clear z1 z2 z3 z5 z6 z7 HC;go_wp2;exact⟨⟨k+1,by omega,by go_num,HR'.o⟩,by simp only[intOf];omega⟩
  obtain rfl:k=xs.length:=by omega
  obtain⟨zs,z1,z2,z3,z4,z5,z6⟩:=id hrel;have Z1:=zh z1;have Z4:=zh z4;have ae:=z3.sl;rw[z1]at ae;clear z1 z4 hrel ha hc h z5
  go_wp2_with (go_at_call 154;refine(Dr _ _ _ (by have:=Z1.o;omega) ae).mono ?_;rintro e w' ⟨v,k,rfl,ht,hs,hf,rfl⟩)
  go_ret;exact⟨v,rfl,⟨zs.take k,ht.canon z2,by rw[ht.lv,Z4.o,DP _ _ (zB _)],hs⟩,hf _ (zB _),z6⟩
theorem K4(w:World)(v u:Value)(n m:Nat)(hn:Num w v n)(hm:Num w u m)(h:BK n)(d:BK m):
 Calls prog 134 #[v,u] w (Cp w.heap.size w (n*m)):=by
 obtain⟨xs,hx,rfl,aa⟩:=hn;obtain⟨ys,hy,rfl,ad⟩:=hm;have hl:=hx.len_le (k:=200) h;have ae:=hy.len_le (k:=200) d;obtain⟨a,cap,rfl,ha⟩:=aa.addr;obtain⟨c,cap',rfl,hc⟩:=ad.addr;exact RW w a cap xs c cap' ys (by omega) (by omega) hx.1 hy.1 ha hc
end Nt
end
section
open Go.RowKit Go.Shelf
namespace Nt
theorem OF(w:World)(x:Nat)(h0:0<x)(h:x<1000000000){X:Int}(hX:X=(x:Int)):
 Num (w.alloc (.cells #[.int .u64 X] 202)) (.slice (some ⟨w.heap.size,0,none⟩) 1 1) x:=by
 subst hX;refine⟨[x],⟨fun y hy=>?_,?_⟩,by simp[lv],?_⟩
 .simp at hy;omega
 .simp;omega
 refine Sl.mk (xs:=[x]) (by simp) (zB _) (fun i hi=>?_);have hi:i<1:=hi;obtain rfl:i=0:=by omega
 rw[yS,World.cell?_alloc_new];rfl
theorem BL{a b:Nat}(h:BK b)(d:a<=b):BK a:=zn d h
theorem Im{a:Nat}(h:a<1000000000):BK a:=by
 have h1:1000000000^1<=1000000000^200:=zj (by omega) (by omega);rw[Nat.pow_one]at h1;exact zJ h h1
theorem RX(x y:Nat):decide (0<BF x y)=decide (y<x):=by
 unfold BF
 split
 .simp;omega
 split
 .simp;omega
 simp;omega
theorem LB(W:World)(k:Nat)(hk:k<999999999)(bm br:Nat)(mv rv:Value)(M R:Nat)(hm:W.cell? ⟨bm,0,none⟩=some mv)(hr:W.cell? ⟨br,0,none⟩=some rv)
 (hM:Hid (Num W mv M))(hR:Hid (Num W rv R))(ad:Hid (BK (M*1000000000))):
 Calls prog 158 #[.int .i64 (k:Int),.pointer (some ⟨bm,0,none⟩),.pointer (some ⟨br,0,none⟩)] W fun e W'=>e=.returned (.bool (decide (R<M*(k+1))))/\Below W.heap.size W W':=by
 have af:br<W.heap.size:=block_lt_of_cell hr;have ae:bm<W.heap.size:=block_lt_of_cell hm;have s1:IntKind.i64.wrap ((k:Int)+1)=(k:Int)+1:=wN _ (by omega);have s2:IntKind.u64.wrap ((k:Int)+1)=(k:Int)+1:=IntWalk.u64_in _ (by omega);have ag:=OF W (k+1) (by omega) (by omega) (X:=(k:Int)+1) (by omega);have cM:=K4 (W.alloc (.cells #[.int .u64 ((k:Int)+1)] 202)).drew mv (.slice (some ⟨W.heap.size,0,none⟩) 1 1) M (k+1) (hM.o.below ((zI _ _).alloc (zB _) _).drew) ag (BL ad.o (by omega)) (Im (by omega));go_enter func158,ntmps158;go_wp2
 go_region_held3 (fun w'=>w'.cell? ⟨bm,0,none⟩=some mv/\w'.cell? ⟨br,0,none⟩=some rv)
  (first
    |go_keep
    |(go_split_ands
      refine⟨?_,?_⟩
      .assumption
      assumption))
  (first
  |(go_at_call 134;refine cM.mono ?_;rintro e w' ⟨v,rfl,hv,_,hb⟩;have h:Below W.heap.size W w':=((zI W.heap.size W).alloc (zB _) _).drew.trans (hb.mono (by simp));have ah:=(h.cell (p:=⟨bm,0,none⟩) ae).trans hm;have ai:=(h.cell (p:=⟨br,0,none⟩) af).trans hr;replace hb:=zh hb;replace h:=zh h)
  |(go_at_call 156;refine(EL _ _ _ (M*(k+1)) R (by assumption) (by exact hR.o.below (Hid.o (by assumption))) (BL ad.o (yr _ (by omega))) (by have:=(Hid.o (p:=Below W.heap.size W _) (by assumption)).size;omega)).q fun w2 aa=>?_;have d:Below W.heap.size W w2:=h.o.trans (aa.mono h.o.size);have aj:=(d.cell (p:=⟨bm,0,none⟩) ae).trans hm;have ak:=(d.cell (p:=⟨br,0,none⟩) af).trans hr;replace d:=zh d;clear ah ai aa))
 go_wp2;go_ret;exact⟨congrArg (fun b=>Ending.returned (.bool b)) (RX _ _),d.o⟩
end Nt
end
section
open Go.RowKit Go.Shelf
attribute [local go_sem] wG
namespace Nt
theorem AR(w:World)(o:Obj){k:Nat}{x:Obj}(h:w.heap[k]? = some x):(w.alloc o).heap[k]? = some x :=
 (yP w o k (Array.getElem?_eq_some_iff.1 h).1).trans h
theorem Cq(w:World)(o:Obj){k:Nat}(h:k=w.heap.size):(w.alloc o).heap[k]? = some o:=by
 subst h;exact ym w o
theorem YE(w:World)(o1 o2 o3 o4 o5:Obj):
 (((((w.alloc o1).alloc o2).alloc o3).alloc o4).alloc o5).heap[w.heap.size]? = some o1/\(((((w.alloc o1).alloc o2).alloc o3).alloc o4).alloc o5).heap[w.heap.size+1]? = some o2 /\
 (((((w.alloc o1).alloc o2).alloc o3).alloc o4).alloc o5).heap[w.heap.size+1+1]? = some o3/\(((((w.alloc o1).alloc o2).alloc o3).alloc o4).alloc o5).heap[w.heap.size+1+1+1]? = some o4 /\
 (((((w.alloc o1).alloc o2).alloc o3).alloc o4).alloc o5).heap[w.heap.size+1+1+1+1]? = some o5/\(((((w.alloc o1).alloc o2).alloc o3).alloc o4).alloc o5).heap.size=w.heap.size+5 /\
 Below w.heap.size w (((((w.alloc o1).alloc o2).alloc o3).alloc o4).alloc o5):=by
 refine⟨?_,?_,?_,?_,?_,by simp,?_⟩
 .exact AR _ _ (AR _ _ (AR _ _ (AR _ _ (Cq _ _ rfl))))
 .exact AR _ _ (AR _ _ (AR _ _ (Cq _ _ (by simp))))
 .exact AR _ _ (AR _ _ (Cq _ _ (by simp)))
 .exact AR _ _ (Cq _ _ (by simp))
 .exact Cq _ _ (by simp)
 exact(((((zI _ w).alloc (zB _) _).alloc (by simp) _).alloc (by simp;omega) _).alloc (by simp;omega) _).alloc (by simp;omega) _
structure KeptBut(S:Nat->Prop)(w w':World):Prop where
 os:w'.os=w.os
 tape:w'.tape=w.tape
 output:w'.output=w.output
 size:w.heap.size<=w'.heap.size
 block:∀k,k<w.heap.size->¬S k->w'.heap[k]? = w.heap[k]?
theorem KeptBut.refl(S:Nat->Prop)(w:World):KeptBut S w w:=⟨rfl,rfl,rfl,zB _,fun _ _ _=>rfl⟩
theorem KeptBut.below{S:Nat->Prop}{w w' w'':World}(h:KeptBut S w w')(hb:Below w'.heap.size w' w''):KeptBut S w w'' :=
 ⟨hb.os.trans h.os,hb.tape.trans h.tape,hb.output.trans h.output,zQ h.size hb.size,fun k hk hs=>(hb.block k (zJ hk h.size)).trans (h.block k hk hs)⟩
theorem KeptBut.setCell{S:Nat->Prop}{w w':World}(h:KeptBut S w w'){p:Addr}(hp:w.heap.size<=p.block\/S p.block)(v:Value):KeptBut S w (w'.setCell p v) :=
 ⟨h.os,h.tape,h.output,by simpa [World.setCell] using h.size,fun k hk hs=>(zg _ _ _ _ (fun e=>by subst e;rcases hp with hp|hp;(· omega);(· exact hs hp))).trans (h.block k hk hs)⟩
theorem KeptBut.grown{S:Nat->Prop}{w w' w'':World}{row:Option Nat}(h:KeptBut S w w')(hg:w'.grownBy w'' row)(hr:∀k,row=some k->w.heap.size<=k\/S k):KeptBut S w w'' :=
 ⟨hg.os.trans h.os,hg.tape.trans h.tape,hg.output.trans h.output,zQ h.size hg.size,fun k hk hs=>
   (hg.block k (zJ hk h.size) (fun e=>by rcases hr k e.symm with h1|h1;(· omega);(· exact hs h1))).trans (h.block k hk hs)⟩
theorem KeptBut.to{S:Nat->Prop}{B:Nat}{w0 w w':World}(h:KeptBut S w w')(h0:Below B w0 w)(hB:B<=w.heap.size)(hS:∀k,S k->B<=k):Below B w0 w' :=
 h0.trans ⟨h.os,h.tape,h.output,h.size,fun k hk=>h.block k (by omega) (fun hs=>by have:=hS k hs;omega)⟩
def Box(t:TypeId)(W:World)(b:Nat)(v:Value):Prop:=W.heap[b]? = some (.cells #[v] t (0,0))
theorem Box.cell{t:TypeId}{W:World}{b:Nat}{v:Value}(h:Box t W b v):W.cell? ⟨b,0,none⟩=some v:=by
 unfold Box at h;simp[World.cell?,h]
theorem Box.frozen{t:TypeId}{W:World}{b:Nat}{v:Value}(h:Box t W b v):W.frozen? ⟨b,0,none⟩=false:=by
 unfold Box at h;simp[World.frozen?,h]
theorem Box.lt{t:TypeId}{W:World}{b:Nat}{v:Value}(h:Box t W b v):b<W.heap.size:=(Array.getElem?_eq_some_iff.1 h).1
theorem Box.set{t:TypeId}{W:World}{b:Nat}{v:Value}(h:Box t W b v)(u:Value):Box t (W.setCell ⟨b,0,none⟩ u) b u:=by
 unfold Box at h ⊢;simp[World.setCell,Array.getElem?_modify,h]
theorem Box.other{t:TypeId}{W:World}{b:Nat}{v:Value}(h:Box t W b v)(p:Addr)(u:Value)(hp:b≠p.block):Box t (W.setCell p u) b v:=by
 unfold Box at h ⊢;rw[zg _ _ _ _ hp];exact h
theorem Box.below{t:TypeId}{W W':World}{b n:Nat}{v:Value}(h:Box t W b v)(hb:Below n W W')(hn:b<n):Box t W' b v:=by
 unfold Box at h ⊢;rw[hb.block b hn];exact h
theorem Row.other{t:TypeId}{W:World}{g:Nat}{zs:List Nat}(h:Row t W g zs)(p:Addr)(u:Value)(hp:g≠p.block):Row t (W.setCell p u) g zs:=by
 unfold Row at h ⊢;rw[zg _ _ _ _ hp];exact h
theorem Row.below{t:TypeId}{W W':World}{g n:Nat}{zs:List Nat}(h:Row t W g zs)(hb:Below n W W')(hn:g<n):Row t W' g zs:=by
 unfold Row at h ⊢;rw[hb.block g hn];exact h
theorem Jl(t ty e:TypeId)(i:TypeInfo)(B:Nat)(w:World)(ht:prog.underlying t=some (.slice e))(hi:prog.info? e=some i)(hz:i.zero=some (.int .u64 0))(hs:i.size=1)(aa:i.bytes=8)
 (v sv:Value)(n:Nat)(xs ys:List Nat)(d:Own e B w v n xs)(ad:Sl w sv ys)(hb:n+ys.length<=1000000)(hB:B<=w.heap.size):
 ∃v' w',(Builtin.append_ #[t,t] ty #[v,sv]).run prog w=.ok v' w'/\Own e B w' v' (n+ys.length) (xs++ys)/\w.grownBy w' v.ownBlock:=by
 rcases ad.shape with⟨rfl,rfl⟩|⟨b,off,cap,rfl,ae,_,hc⟩
 .refine⟨v,w,run_append_owned_none w B t ty e i 1 ht hi v n _ d,?_,World.grownBy.refl _ _⟩
  simpa using d
 obtain ⟨v',w',h1,h2,h3,_⟩:=vK w B t ty e i (.int .u64 0) 1 8 ht hi hz hs aa rfl (by decide) v n _ d ⟨b,off,none⟩ ys.length cap (Cj ys) (by simp[Cj])
  (fun j u hj=>by
    simp only[Cj,wY,Option.map_eq_some_iff]at hj;obtain⟨y,hy,rfl⟩:=hj;have h:=(List.getElem?_eq_some_iff.1 hy).1;have:=hc j h;rw[FH _ _ h,(List.getElem?_eq_some_iff.1 hy).2]at this;rw[Lib.add_plain];exact this)
  (fun u hu=>by simp only[Cj,vR]at hu;obtain⟨y,_,rfl⟩:=hu;rfl) (by unfold maxLen;omega) (by omega) hB
 refine⟨v',w',h1,?_,h3⟩;unfold Own;rw[Cj,yD];exact h2
theorem FM{F:Fence}{N:Nat}(w:World){ops:Array Oper}{rest:List Oper}{o:Oper}{a:Act}{Q:Exit->Act->World->Prop}
 (hg:o.guard=none)(s x:Operand)(t:TypeId)(d:o.op=Op.call { callee:=Callee.builtin Builtin.append,args:=#[s,x],argTypes:=#[t,t] })(e:TypeId)(i:TypeInfo)(B:Nat)
 (ht:prog.underlying t=some (.slice e))(hi:prog.info? e=some i)(hz:i.zero=some (.int .u64 0))(ah:i.size=1)(ae:i.bytes=8)
 (v sv:Value)(n:Nat)(xs ys:List Nat)(hs:a.eval s=v)(hx:a.eval x=sv)(h:Own e B w v n xs)(ag:Sl w sv ys)(hb:n+ys.length<=1000000)(hB:B<=w.heap.size)
 (hK:∀v' w',Own e B w' v' (n+ys.length) (xs++ys)->w.grownBy w' v.ownBlock->wpListIn F N prog ops Q rest (a.put o.dst v') w'):
 wpListIn F N prog ops Q (o::rest) a w:=by
 refine wpListIn_plain hg fun K ad=>?_;obtain⟨v',w',aa,r1,r2⟩:=Jl t o.type e i B w ht hi hz ah ae v sv n xs ys h ag hb hB;unfold Oper.wpIn;refine⟨?_,?_⟩
 .simp[Oper.about,d,resolve,Target.leads,Sem.run_pure]
 rw[Oper.semAt_plain F _ _ (by rw[d];intro c af;cases af)];simp[execOp,d,resolve,invoke,builtin,hs,hx,aa,Result.andThen];exact ad _ _ (hK v' w' r1 r2)
theorem Sl.kept{A B:World}{row:Option Nat}{v:Value}{xs:List Nat}(h:Sl A v xs)(hg:A.grownBy B row)(hr:∀r,row=some r->∃o:Obj,A.heap[r]? = some o/\o.isCells=false):Sl B v xs:=by
 obtain⟨a,cap,rfl,hn,hs⟩:=h;refine⟨a,cap,rfl,hn,fun ad e=>?_⟩;obtain⟨h1,h2,h3,h4⟩:=hs ad e;exact⟨h1,zJ h2 hg.size,h3,fun i hi=>cell_kept (h4 i hi) hg hr⟩
theorem Num.kept{A B:World}{row:Option Nat}{v:Value}{n:Nat}(h:Num A v n)(hg:A.grownBy B row)(hr:∀r,row=some r->∃o:Obj,A.heap[r]? = some o/\o.isCells=false):Num B v n:=by
 obtain⟨xs,h1,h2,h3⟩:=h;exact⟨xs,h1,h2,h3.kept hg hr⟩
theorem Sl.setCell{W:World}{v:Value}{xs:List Nat}{B:Nat}(h:Sl W v xs)(hf:From B v)(p:Addr)(hp:p.block<B)(u:Value):Sl (W.setCell p u) v xs:=by
 obtain⟨a,cap,rfl,hn,hs⟩:=h;refine⟨a,cap,rfl,hn,fun ad e=>?_⟩;obtain⟨h1,h2,h3,h4⟩:=hs ad e;subst e;have hB:B<=ad.block:=hf;refine⟨h1,by simpa [World.setCell] using h2,h3,fun i hi=>?_⟩;rw[<-h4 i hi];exact zU (w:=W) (a:=⟨ad.block,ad.off+i,none⟩) (zg _ _ _ _ (by show ad.block≠p.block;omega))
theorem Num.setCell{W:World}{v:Value}{n B:Nat}(h:Num W v n)(hf:From B v)(p:Addr)(hp:p.block<B)(u:Value):Num (W.setCell p u) v n:=by
 obtain⟨xs,h1,h2,h3⟩:=h;exact⟨xs,h1,h2,h3.setCell hf p hp u⟩
theorem From.mono{B B':Nat}{v:Value}(h:From B v)(hb:B'<=B):From B' v:=by
 unfold From at h ⊢
 split
 .exact zQ hb h
 trivial
theorem Num.shape{W:World}{v:Value}{n:Nat}(h:Num W v n):∃a l c,v=.slice a l c:=by
 obtain⟨xs,_,_,a,c,h,_⟩:=h;exact⟨a,_,c,h⟩
def CH(xs:List Nat)(M:Nat)(s:Nat×List Nat)(x:B4 xs.length):Nat×List Nat :=
 if lim xs x.1+1000000000*s.1<M then (lim xs x.1+1000000000*s.1,s.2)
 else ((lim xs x.1+1000000000*s.1)%M,s.2.set x.1 ((lim xs x.1+1000000000*s.1)/M))
def BD(xs:List Nat)(M:Nat)(pre:List (B4 xs.length)):Nat×List Nat:=pre.foldl (CH xs M) (0,List.replicate xs.length 0)
theorem FN(xs:List Nat)(M:Nat)(pre:List (B4 xs.length))(x:B4 xs.length):BD xs M (pre++[x])=CH xs M (BD xs M pre) x:=by
 simp[BD,List.foldl_append]
def WF(w W1:World)(xs:List Nat)(M:Nat)(pre:List (B4 xs.length))(W:World):Prop :=
 (∃rv,Box 186 W (w.heap.size+1+1+1) rv/\Num W rv (BD xs M pre).1/\From W1.heap.size rv)/\Row 202 W (w.heap.size+1) (BD xs M pre).2 /\
 (BD xs M pre).1<M/\(BD xs M pre).2.length=xs.length/\InR (BD xs M pre).2/\KeptBut (fun k=>k=w.heap.size+1\/k=w.heap.size+1+1+1) W1 W
theorem Jm(xs:List Nat)(M:Nat)(p:Nat)(hp:p<xs.length)(s:Nat×List Nat)(hM:0<M)(hz:s.2.length=xs.length)(h0:∀j,j<=p->lim s.2 j=0)
 (h4:lv s.2*M+1000000000^(p+1)*s.1+lo xs (p+1)=lv xs):
 (CH xs M s ⟨p,hp⟩).1<M/\(CH xs M s ⟨p,hp⟩).2.length=xs.length/\(∀j,j<p->lim (CH xs M s ⟨p,hp⟩).2 j=0) /\
 lv (CH xs M s ⟨p,hp⟩).2*M+1000000000^p*(CH xs M s ⟨p,hp⟩).1+lo xs p=lv xs:=by
 obtain⟨r,zs⟩:=s;dsimp only at hz h0 h4;rw[Cf,yy]at h4;unfold CH;dsimp only;generalize lim xs p=x at h4 ⊢;have key:1000000000^p*(x+1000000000*r)=1000000000^p*x+1000000000^p*1000000000*r:=by rw[xk,yw]
 split
 .rename_i hlt;exact⟨hlt,hz,fun j hj=>h0 j (by omega),by dsimp only;omega⟩
 rename_i hge;have hs:=MR zs p ((x+1000000000*r)/M) (by omega);rw[h0 p (zB _)]at hs;refine⟨vw _ hM,by simpa using hz,fun j hj=>by rw[FI _ _ _ _ (by omega)];exact h0 j (by omega),?_⟩;dsimp only;have e1:lv (zs.set p ((x+1000000000*r)/M))=lv zs+1000000000^p*((x+1000000000*r)/M):=by omega
 have e2:1000000000^p*(x+1000000000*r)=1000000000^p*(M*((x+1000000000*r)/M))+1000000000^p*((x+1000000000*r)%M):=by rw[<-xk,Nat.div_add_mod]
 have e3:1000000000^p*((x+1000000000*r)/M)*M=1000000000^p*(M*((x+1000000000*r)/M)):=by rw[yw,yT M]
 rw[e1,yo,e3];omega
theorem MY(xs:List Nat)(M:Nat)(hM:0<M)(k:Nat)(hk:k<=xs.length):
 (BD xs M (C4 xs.length k)).1<M/\(BD xs M (C4 xs.length k)).2.length=xs.length/\(∀j,j<xs.length-k->lim (BD xs M (C4 xs.length k)).2 j=0) /\
 lv (BD xs M (C4 xs.length k)).2*M+1000000000^(xs.length-k)*(BD xs M (C4 xs.length k)).1+lo xs (xs.length-k)=lv xs:=by
 induction k with
 |zero=>
  refine⟨hM,by simp[BD,Dh],fun j hj=>by simp only[BD,Dh,List.foldl_nil];exact Fi _ _,?_⟩;simp only[BD,Dh,List.foldl_nil,Nat.sub_zero];rw[Ih _ (fun j hj=>Fi _ _),DP _ _ (zB _)];omega
 |succ k ih=>
  obtain⟨_,h2,h3,h4⟩:=ih (by omega);rw[C5 _ _ (by omega),FN];have e1:xs.length-(k+1)=xs.length-1-k:=by omega
  have e2:xs.length-k=xs.length-1-k+1:=by omega
  rw[e1];rw[e2]at h3 h4;exact Jm xs M _ _ _ hM h2 (fun j hj=>h3 j (by omega)) h4
theorem PC(xs:List Nat)(M:Nat)(hM:0<M):lv (BD xs M (C4 xs.length xs.length)).2=lv xs/M/\(BD xs M (C4 xs.length xs.length)).1=lv xs%M:=by
 obtain⟨h1,_,_,h4⟩:=MY xs M hM xs.length (zB _);rw[Nat.sub_self,Nat.pow_zero,Nat.one_mul,DE,xM]at h4;constructor
 .rw[<-h4,yT,Nat.mul_add_div hM,Nat.div_eq_of_lt h1,xM]
 rw[<-h4,yT,Nat.mul_add_mod,Nat.mod_eq_of_lt h1]
theorem RY(w:World)(a:Option Addr)(cap:Nat)(xs:List Nat)(mc:Option Addr)(ml mcap M:Nat)(hl:xs.length<=200)(hx:Hid (InR xs))(b:Nat)(hb:b<w.heap.size)
 (ha:Hid (SlAt w b (.slice a xs.length cap) xs))(hM:Hid (Num w (.slice mc ml mcap) M))(ay:0<M)(aD:Hid (BK (M*1000000000))):
 Calls prog 132 #[.slice a xs.length cap,.slice mc ml mcap] w fun e w' =>
  (∃v u,e=.returned (.tuple #[v,u])/\Num w' v (lv xs/M)/\Num w' u (lv xs%M))/\Below w.heap.size w w':=by
 have bn:=Ev xs.length (by omega);refine(wJ (n:=9)).1 ?_;refine xW func132 rfl trivial ?_ rfl;simp only[ntmps132,yq,zZ,yR,Nat.reduceAdd,Nat.reduceSub,yW,yX,yv,yj,yM,yY]
 gi_wp2_with (first
  |(refine⟨trivial,?_⟩;gi_at_call 155;refine(Di Fence.wide _ trivial rfl _ _ _ _).mono ?_;rintro e w' ⟨rfl,rfl⟩)
  |(gi_at_call 155;refine(Di Fence.wide _ trivial rfl _ _ _ _).mono ?_;rintro e w' ⟨rfl,rfl⟩))
 obtain⟨f1,f2,f3,f4,f5,f6,f7⟩:=YE w (.cells #[.slice mc ml mcap] 186) (.cells (madeCells #[.int .u64 0] xs.length) 202) (.cells #[.slice (some ⟨w.heap.size+1,0,none⟩) xs.length xs.length] 186) (.cells #[.slice none 0 0] 186) (.cells #[.slice a xs.length cap] 186);generalize ((((w.alloc (.cells #[.slice mc ml mcap] 186)).alloc (.cells (madeCells #[.int .u64 0] xs.length) 202)).alloc (.cells #[.slice (some ⟨w.heap.size+1,0,none⟩) xs.length xs.length] 186)).alloc (.cells #[.slice none 0 0] 186)).alloc (.cells #[.slice a xs.length cap] 186)=W1 at f1 f2 f3 f4 f5 f6 f7 ⊢;rw[Lw]at f2;have aW:W1.cell? ⟨w.heap.size+1+1+1+1,0,none⟩=some (.slice a xs.length cap):=Box.cell f5;have aZ:SlAt W1 b (.slice a xs.length cap) xs:=ha.o.keep (c:=b) (Keep2.of_below f7 hb hb);have a3:Num W1 (.slice mc ml mcap) M:=hM.o.below f7
 refine wpIn_rangeFunc_ownF rfl (by decide) (gf:=193) (lb:=#[.pointer (some ⟨w.heap.size+1+1+1+1,0,none⟩)]) rfl trivial (enters_of func193 (by kernel_rfl) rfl)
  (FK Fence.wide _ trivial rfl (by decide) (w.heap.size+1+1+1+1) b _ xs (by omega) W1 (by omega) (by omega) aW aZ) (fun h k=>h.trans k)
  (fun W l o o' hl h ho hw=>?kb) (zI _ _) (fun _=>rfl)
  (WF w W1 xs M) (fun _ _ _=>False)
  (fun s A B row hs hg hr=>?own)
  (fun _ _ _ _ _ hs _ _=>hs)
  ⟨⟨_,f4,⟨[],⟨fun x hx=>absurd hx (by simp),by simp⟩,rfl,Sl.nil _⟩,trivial⟩,f2,ay,by simp[BD],InR.zeros _,KeptBut.refl _ _⟩
  (fun x=>{ tmps:=#[.slice a xs.length cap,.slice mc ml mcap,undef,.pointer (some ⟨w.heap.size,0,none⟩),.slice none 0 0,.slice none 0 0,.pointer (some ⟨w.heap.size+1+1,0,none⟩),.pointer (some ⟨w.heap.size+1+1+1,0,none⟩),
    .int .i64 (x.1:Int),.int .u64 (lim xs x.1),undef,.slice a xs.length cap,.int .i64 xs.length,.slice (some ⟨w.heap.size+1,0,none⟩) xs.length xs.length,.slice a xs.length cap,
    .func (.func 193) #[] #[.pointer (some ⟨w.heap.size+1+1+1+1,0,none⟩)],.int .i64 (x.1:Int),.int .u64 (lim xs x.1),
    undef,undef,undef,undef,undef,undef,undef,undef,undef,undef,undef,undef,undef,undef,undef,undef,undef,undef,undef,undef,undef,undef,undef,undef,undef,undef],defers:=[] })
  ?assign ?body ?done ?stop
 case kb=>
  have h1:=(Array.getElem?_eq_some_iff.1 h).1;exact⟨yU (by omega),yU (by omega)⟩
 case own=>
  obtain⟨⟨rv,s1,s2,s2f⟩,s3,s4,s5,s6,s7⟩:=hs;have al:=fun r e=>(hr r e).2;exact⟨⟨rv,Dt s1 hg al,s2.kept hg al,s2f⟩,Dt s3 hg al,s4,s5,s6,s7.grown hg (fun k e=>.inl (hr k e).1)⟩
 case assign=>
  intro l x W K hK
  gi_wp2
  exact hK
 case body=>
  rintro l pre x W ⟨⟨rv,s1,⟨rs,c1,c2,c3⟩,s2f⟩,s3,s4,s5,s6,s7⟩ bM;obtain⟨i0,hi,bv,bw,bx⟩:=vX L5;have ag:=s7.size;have bA:w.heap.size<W.heap.size:=by omega
  have a5:w.heap.size+1<W.heap.size:=by omega
  have bB:w.heap.size+1+1<W.heap.size:=by omega
  have a6:w.heap.size+1+1+1<W.heap.size:=by omega
  have bD:=Box.cell s1;have bE:=Box.frozen s1;have bm:=hx.o.lim x.1;have aF:Box 186 W w.heap.size (.slice mc ml mcap):=(s7.block w.heap.size (by omega) (by omega)).trans f1;have ah:Box 186 W (w.heap.size+1+1) (.slice (some ⟨w.heap.size+1,0,none⟩) xs.length xs.length):=(s7.block (w.heap.size+1+1) (by omega) (by omega)).trans f3;have bC:=Box.cell (show Box 186 W w.heap.size (.slice mc ml mcap) from(s7.block w.heap.size (by omega) (by omega)).trans f1);have aL:Own 202 W.heap.size (W.alloc (.cells #[.int .u64 (lim xs x.1)] 202)) (.slice (some ⟨W.heap.size,0,none⟩) 1 1) 1 [lim xs x.1]:=World.ownsRow_lit W #[.int .u64 (lim xs x.1)] 1 (zB _) (by unfold maxLen;omega) rfl;have aN:Sl (W.alloc (.cells #[.int .u64 (lim xs x.1)] 202)) rv rs:=c3.below ((zI _ _).alloc (zB _) _);obtain⟨ar,capr,bG,_⟩:=c3.addr;subst bG;have C1:=zh c1;have C2:=zh c2;have S3:=zh s3;have S4:=zh s4;have S5:=zh s5;have S6:=zh s6;have S7:=zh s7;have bU:rs.length<=200:=c1.len_le (BL aD.o (by omega));have F6:=zh f6;replace ag:=zh ag;clear c1 c2 s3 s4 s5 s6 s7 aZ a3 bn f1 f2 f3 f4 f5 f6 aW c3
  gi_wp2_with (gi_at_builtin;refine FM _ rfl _ _ 186 rfl 202 i0 W.heap.size underlying186 hi bv bw bx _ _ 1 [lim xs x.1] rs rfl rfl aL aN (by omega) (by simp) ?_;intro v1 w1 ai aK)
  refine⟨trivial,?_⟩;refine(yt l (callsIn_wide.2 (Dr w1 v1 (lim xs x.1::rs) (by simp;omega) ai.sl))).mono ?_;rintro e w2 ⟨v2,k2,rfl,a0,aY,bg,rfl⟩;have F2:=bg _ ai.from
  have N2:Num w1 v2 (lim xs x.1+1000000000*(BD xs M pre).1):=⟨_,a0.canon (fun y hy=>by
   rcases List.mem_cons.1 hy with h|h
   .rw[h];exact bm
   exact C1.o.1 y h),by rw[a0.lv,lv,C2.o],aY⟩
  have aw:Below W.heap.size W w1:=((zI W.heap.size W).alloc (zB _) _).grown aK (by simp) (fun k e=>by cases e;exact zB _);have s1':Box 186 w1 (w.heap.size+1+1+1) (.slice ar rs.length capr):=s1.below aw a6;have ap:=aF.below aw bA;have a9:=ap.cell;have bc:=s1'.cell;have bk:=s1'.frozen
  obtain ⟨a2,n2,cap2,e2⟩:∃a n c,v2=.slice a n c:=by
   obtain⟨a,c,h,_⟩:=aY;exact⟨a,_,c,h⟩
  subst e2;generalize aA:lim xs x.1+1000000000*(BD xs M pre).1=r1 at N2
  have bp:BK r1:=by
   rw[<-aA];exact BL aD.o (by have:=S4.o;omega)
  have aC:r1<M*1000000000:=by rw[<-aA];have:=S4.o;omega
  have HR1:=zh aA;replace aC:=zh aC;have HB1:=zh aw;replace N2:=zh N2;replace F2:=zh F2;clear aA aw aY bg a0 ai aK aL aN bD bE C1 C2 hi bv bw bx s1
  gi_wp2
  -- the world behind the store of the rest
  have aO:=HB1.o.size;have s1'':=s1'.set (.slice a2 n2 cap2);have am:Below w.heap.size w (w1.setCell ⟨w.heap.size+1+1+1,0,none⟩ (.slice a2 n2 cap2)):=((S7.o.to f7 f7.size (fun k h=>by omega)).trans (HB1.o.mono (by omega))).setCell (by simp;omega) _;have N3:Num (w1.setCell ⟨w.heap.size+1+1+1,0,none⟩ (.slice a2 n2 cap2)) (.slice a2 n2 cap2) r1:=N2.o.setCell F2.o _ a6 _;have K3:KeptBut (fun k=>k=w.heap.size+1\/k=w.heap.size+1+1+1) W1 (w1.setCell ⟨w.heap.size+1+1+1,0,none⟩ (.slice a2 n2 cap2)):=(S7.o.below HB1.o).setCell (.inr (.inr rfl)) _;have R3:=((S3.o.below HB1.o a5).other ⟨w.heap.size+1+1+1,0,none⟩ (.slice a2 n2 cap2) (by simp));have aP:W.heap.size<=(w1.setCell ⟨w.heap.size+1+1+1,0,none⟩ (.slice a2 n2 cap2)).heap.size:=by simpa [World.setCell] using aO
  have ak:=ap.other ⟨w.heap.size+1+1+1,0,none⟩ (.slice a2 n2 cap2) (by simp;omega);have au:=(ah.below HB1.o bB).other ⟨w.heap.size+1+1+1,0,none⟩ (.slice a2 n2 cap2) (by simp);have KO3:KeepsOthers W (w1.setCell ⟨w.heap.size+1+1+1,0,none⟩ (.slice a2 n2 cap2)):=(KeepsOthers.of_below HB1.o).trans (yi _ _ _);have KK3:Keep2 b (w.heap.size+1+1+1+1) W (w1.setCell ⟨w.heap.size+1+1+1,0,none⟩ (.slice a2 n2 cap2)):=(Keep2.of_below HB1.o (by omega) (by have:=F6.o;have:=ag.o;omega)).trans (Keep2.setCell _ _ _ (by simp;omega) (by simp));generalize w1.setCell ⟨w.heap.size+1+1+1,0,none⟩ (.slice a2 n2 cap2)=w3 at s1'' am N3 K3 R3 aP ak au KO3 KK3 ⊢;clear ap a9 s1' bc bk N2 aF ah bC HB1 aO;refine⟨trivial,?_⟩;refine(yt l (callsIn_wide.2 (EL w3 _ _ r1 M N3 (hM.o.below am) ?sm1 ?sm2))).mono ?_
  case sm1=>exact bp
  case sm2=>omega
  rintro e w4 ⟨rfl,aa⟩
  by_cases hlt:r1<M
  .rw[Ew hlt]
   gi_wp2
   have e:BD xs M (pre++[x])=(r1,(BD xs M pre).2):=by rw[FN,CH,HR1.o,zF hlt]
   refine⟨KO3.trans (KeepsOthers.of_below aa),KK3.trans (Keep2.of_below aa (by omega) (by have:=F6.o;have:=ag.o;omega)),?_⟩;unfold WF;rw[e];exact⟨⟨_,s1''.below aa (by omega),N3.below aa,F2.o.mono ag.o⟩,R3.below aa (by omega),hlt,S5.o,S6.o,K3.below aa⟩
  .rw [show BF r1 M=BF r1 M from rfl]
   have aX:decide (BF r1 M<0)=false:=by
    rcases vQ M r1 with h|h
    .rw[Gb h];rfl
    rw[show r1=M by omega,OE];rfl
   generalize BF r1 M=cr at aX ⊢;have bP:¬cr<0:=by simpa using aX
   clear aX
   gi_wp2
   refine⟨trivial,?_⟩;have bs:=aa.size;have M4:=(hM.o.below am).below aa;have N4:=N3.below aa;have aG:=(ak.below aa (by omega)).cell;have aH:=(s1''.below aa (by omega)).cell
   refine (yt l (callsIn_wide.2 (FL 999999999 (by omega) (fun k=>decide (r1<M*(k+1))) (.pointer (some ⟨w.heap.size,0,none⟩)) (.pointer (some ⟨w.heap.size+1+1+1,0,none⟩)) w4
    (fun a b bN bO h=>by
      have h1:M*(a+1)<=M*(b+1):=yr _ (by omega);simp only[yC]at h ⊢;omega)
    (fun W' i az hi=>LB W' i hi w.heap.size (w.heap.size+1+1+1) _ _ M r1 ((az.cell (p:=⟨w.heap.size,0,none⟩) (by simp;omega)).trans aG) ((az.cell (p:=⟨w.heap.size+1+1+1,0,none⟩) (by simp;omega)).trans aH) (M4.below az) (N4.below az) aD)))).mono ?_
   rintro e w5 ⟨d,rfl,bd,be,bf,ad⟩
   have hd:d=r1/M:=by
    have bo:=aC.o;refine(Nat.div_eq_of_lt_le ?_ ?_).symm
    .cases d with
     |zero=>simp
     |succ d=>have:=be d (by omega);simp only[zM]at this;rw[yT];omega
    by_cases h:d<999999999
    .have:=bf h;simp only[yC]at this;rw[yT];exact this
    obtain rfl:d=999999999:=by omega
    rw[yT];exact bo
   have bt:=ad.size;have M5:=M4.below ad;have N5:=N4.below ad;have aQ:=(ak.below aa (by omega)).below ad (by omega);have aR:=(au.below aa (by omega)).below ad (by omega);have aS:=(s1''.below aa (by omega)).below ad (by omega);have R5:=(R3.below aa (by omega)).below ad (by omega);have K5:=(K3.below aa).below ad;have KO5:=(KO3.trans (KeepsOthers.of_below aa)).trans (KeepsOthers.of_below ad);have KK5:=(KK3.trans (Keep2.of_below aa (by omega) (by have:=F6.o;have:=ag.o;omega))).trans (Keep2.of_below ad (by omega) (by have:=F6.o;have:=ag.o;omega));have a1:=(am.trans (aa.mono (by omega))).trans (ad.mono (by omega));have bq:W.heap.size<=w5.heap.size:=by omega
   clear bs M4 N4 aG aH bd be bf ad aa bt N3 R3 K3 s1'' ak au KO3 KK3 am aP;have ba:=aR.cell;have a7:=R5.cell (i:=x.1) (by have:=S5.o;have:=x.2;omega);have bi:=R5.frozen x.1;have bW:x.1<xs.length:=x.2;have bS:d<=999999999:=by rw[hd];have:=aC.o;exact Nat.le_of_lt_succ (Nat.div_lt_of_lt_mul (by omega))
   have HD:=zh hd;clear hd
   gi_wp2
   have bH:(w5.setCell ⟨w.heap.size+1,x.1,none⟩ (.int .u64 (d:Int))).heap.size=w5.heap.size:=by simp[World.setCell]
   have M6:Num (w5.setCell ⟨w.heap.size+1,x.1,none⟩ (.int .u64 (d:Int))) (.slice mc ml mcap) M:=hM.o.below (a1.setCell (wD _) _);have N6:=N5.setCell F2.o ⟨w.heap.size+1,x.1,none⟩ a5 (.int .u64 (d:Int));have aq:=aQ.other ⟨w.heap.size+1,x.1,none⟩ (.int .u64 (d:Int)) (xK (zw _));have af:=aS.other ⟨w.heap.size+1,x.1,none⟩ (.int .u64 (d:Int)) (by show w.heap.size+1+1+1≠w.heap.size+1;omega);have R6:=R5.set x.1 d;have K6:=K5.setCell (p:=⟨w.heap.size+1,x.1,none⟩) (.inr (.inl rfl)) (.int .u64 (d:Int));have KO6:=KO5.trans (yi w5 ⟨w.heap.size+1,x.1,none⟩ (.int .u64 (d:Int)));have KK6:=KK5.trans (Keep2.setCell w5 ⟨w.heap.size+1,x.1,none⟩ (.int .u64 (d:Int)) (by simp;omega) (by simp;omega));have br:W.heap.size<=(w5.setCell ⟨w.heap.size+1,x.1,none⟩ (.int .u64 (d:Int))).heap.size:=by omega
   generalize w5.setCell ⟨w.heap.size+1,x.1,none⟩ (.int .u64 (d:Int))=w6 at M6 N6 aq af R6 K6 KO6 KK6 br ⊢;have bd:1<=d:=by rw[HD.o];exact(Nat.one_le_div_iff ay).2 (by omega)
   have aT:M*d<=r1:=by rw[HD.o];exact Nat.mul_div_le r1 M
   have ao:=OF w6 d (by omega) (by omega) (X:=(d:Int)) rfl;have cM:=K4 (w6.alloc (.cells #[.int .u64 (d:Int)] 202)).drew (.slice mc ml mcap) (.slice (some ⟨w6.heap.size,0,none⟩) 1 1) M d (M6.below ((zI _ _).alloc (zB _) _).drew) ao (BL aD.o (by omega)) (Im (by omega));have bJ:=aq.cell;have aI:=af.cell;have bj:=af.frozen;have bT:w.heap.size<w6.heap.size:=by omega
   have aB:w.heap.size+1+1+1<w6.heap.size:=by omega
   have s1:IntKind.u64.wrap (d:Int)=(d:Int):=IntWalk.u64_in _ (by omega);replace aT:=zh aT;replace N6:=zh N6;replace ao:=zh ao;replace R6:=zh R6;replace K6:=zh K6;replace KO6:=zh KO6;replace KK6:=zh KK6;replace af:=zh af;clear M6 aq bH N5 aQ aS aR ba a7 bi R5 K5 KO5 KK5 a1 bq M5
   gi_region_with (first
    |(refine⟨trivial,?_⟩;gi_at_call 134;refine(yt l (callsIn_wide.2 cM)).mono ?_;rintro e w7 ⟨v7,rfl,bI,_,aU⟩;have ae:Below w6.heap.size w6 w7:=((zI w6.heap.size w6).alloc (zB _) _).drew.trans (aU.mono (by simp));have bb:=(ae.cell (p:=⟨w.heap.size+1+1+1,0,none⟩) aB).trans aI;replace aU:=zh aU;replace ae:=zh ae)
    |(refine⟨trivial,?_⟩;gi_at_call 159;refine(yt l (callsIn_wide.2 (OC w7 (.slice a2 n2 cap2) v7 r1 (M*d) (N6.o.below ae.o) bI aT.o bp))).mono ?_;rintro e w8 ⟨v8,rfl,bu,bh,aV⟩;have aj:Below w6.heap.size w6 w8:=ae.o.trans (aV.mono ae.o.size);have bK:=(aj.cell (p:=⟨w.heap.size+1+1+1,0,none⟩) aB).trans aI;have bL:=(aj.frozen (p:=⟨w.heap.size+1+1+1,0,none⟩) aB).trans bj;obtain⟨a8,n8,cap8,e8⟩:∃a n c,v8=.slice a n c:=bu.shape;subst e8;replace bh:=zh (From.mono bh ae.o.size);replace aV:=zh aV;replace aj:=zh aj;clear bb))
   all_goals
    have an:=Hid.o (p:=Below w6.heap.size w6 w8) (by assumption);have aJ:=Hid.o (p:=From w6.heap.size (.slice a8 n8 cap8)) (by assumption)
    gi_wp2
    have hq:(d:Nat)<1000000000:=by omega
    have e:BD xs M (pre++[x])=(r1-M*d,(BD xs M pre).2.set x.1 d):=by
     rw[FN,CH,HR1.o,zE hlt,HD.o,Nat.mod_eq_sub]
    refine⟨(KO6.o.trans (KeepsOthers.of_below an)).trans (yi _ _ _),(KK6.o.trans (Keep2.of_below an (by omega) (by have:=F6.o;have:=ag.o;omega))).trans (Keep2.setCell _ _ _ (by show b≠w.heap.size+1+1+1;omega) (by show w.heap.size+1+1+1+1≠w.heap.size+1+1+1;omega)),?_⟩;unfold WF;rw[e];refine⟨⟨_,(af.o.below an (by omega)).set _,bu.setCell aJ _ aB _,aJ.mono (by have:=ag.o;omega)⟩,(R6.o.below an (by omega)).other _ _ (by show w.heap.size+1≠w.heap.size+1+1+1;omega),?_,by simpa using S5.o,S6.o.set _ _ hq,(K6.o.below an).setCell (.inr (.inr rfl)) _⟩;rw[HD.o,<-Nat.mod_eq_sub];exact vw _ ay
 case done=>
  rintro D zs W hD rfl ⟨⟨rv,s1,s2,s2f⟩,s3,s4,s5,s6,s7⟩ hK;have ah:Box 186 W (w.heap.size+1+1) (.slice (some ⟨w.heap.size+1,0,none⟩) xs.length xs.length):=(s7.block (w.heap.size+1+1) (by omega) (by omega)).trans f3;have bQ:=ah.cell;have bR:=s1.cell;have ax:Below w.heap.size w W:=s7.to f7 f7.size (fun k h=>by omega);have aE:=PC xs M ay;have aM:=s3.sl;rw[s5]at aM;obtain⟨ar,lr,cr,erv⟩:=s2.shape;subst erv;have bF:(BD xs M (C4 xs.length xs.length)).2.length<=1000000:=by rw[s5];omega
  replace aE:=zh aE;replace s2:=zh s2;replace s6:=zh s6;replace ax:=zh ax;have HK:=zh hK;clear s1 s3 s4 s5 s7 f1 f2 f3 f4 f5 f6 aZ a3 bn aW ah hK
  gi_wp2
  refine wpIn_wide.2 ?_
  go_region_held3 (fun w'=>w'.cell? ⟨w.heap.size+1+1,0,none⟩=some (.slice (some ⟨w.heap.size+1,0,none⟩) xs.length xs.length)/\w'.cell? ⟨w.heap.size+1+1+1,0,none⟩=some (.slice ar lr cr))
   (first
     |go_keep
     |(go_split_ands
       refine⟨?_,?_⟩
       .assumption
       assumption))
   ((go_at_call 154;refine(Dr W.drew (.slice (some ⟨w.heap.size+1,0,none⟩) xs.length xs.length) _ bF aM).mono ?_;rintro e w' ⟨v,k,rfl,ht,hs,hf,rfl⟩))
  gi_wp2
  refine⟨by simp,.inl ⟨_,_,rfl,xy (show W.drew.heap[D]? = _ from HK.o),?_⟩⟩;have al:∀r,(some D)=some r->∃o:Obj,W.drew.heap[r]? = some o/\o.isCells=false:=fun r e=>by cases e;exact⟨_,HK.o,rfl⟩
  have hg:=xv W.drew D (.deferred none)
  have a4:Num (W.drew.putObj D (.deferred none)) v (lv xs/M):=by
   rw[<-aE.o.1];exact⟨_,ht.canon s6.o,ht.lv,Sl.kept hs hg al⟩
  have bz:Num (W.drew.putObj D (.deferred none)) (.slice ar lr cr) (lv xs%M):=by
   rw[<-aE.o.2];exact Num.kept (show Num W.drew _ _ from s2.o) hg al
  obtain⟨av,lv',cv,ev⟩:=a4.shape;subst ev;refine⟨.tuple #[.slice av lv' cv,.slice ar lr cr],by simp[results,results132,go_sem],⟨_,_,rfl,a4,bz⟩,?_⟩;exact(ax.o.drew).grown hg ax.o.size (fun k e=>by cases e;exact zQ f7.size hD)
 case stop=>
  rintro D c pre W _ _ h _;exact h.elim
theorem OG(w:World)(v u:Value)(n m:Nat)(hn:Num w v n)(hm:Num w u m)(ad:BK n)(aa:BK (m*1000000000))(ae:0<m)(h0:0<w.heap.size):
 Calls prog 132 #[v,u] w fun e w' =>
  (∃q r,e=.returned (.tuple #[q,r])/\Num w' q (n/m)/\Num w' r (n%m))/\Below w.heap.size w w':=by
 obtain⟨xs,hx,rfl,d⟩:=hn;obtain⟨mc,ml,mcap,rfl⟩:=hm.shape;have hl:=hx.len_le (k:=200) ad;obtain⟨b,hb,h⟩:=SlAt.of d h0;obtain⟨a,cap,rfl,_⟩:=d.addr;exact RY w a cap xs mc ml mcap m hl hx.1 b hb h hm ae aa
end Nt
end
section
open Go.RowKit Go.Shelf
namespace Nt
theorem MZ{xs:List Nat}(h:Canon xs):xs.length=0<->lv xs=0:=by
 constructor
 .intro e;rw[List.length_eq_zero_iff.1 e];rfl
 intro e;have:=h.len_le (k:=0) (by rw[e];decide);omega
theorem Num.open{W:World}{v:Value}{n:Nat}(h:Num W v n):∃a l c,v=.slice a l c/\(l=0<->n=0):=by
 obtain⟨xs,h1,h2,a,c,h3,_⟩:=h;exact⟨a,_,c,h3,by rw[<-h2];exact MZ h1⟩
def RZ(w:World)(N G:Nat)(g:Nat)(v u:Value)(wr:World):Prop :=
 ∃n,Num wr v n/\Num wr u g/\Nat.gcd n g=G/\n<=N/\g<=N/\Below w.heap.size w wr
theorem UQ(w:World)(v u:Value)(n m N:Nat)(hn:Num w v n)(hm:Num w u m)(af:n<=N)(ae:m<=N)(hN:BK (N*1000000000))(h0:0<w.heap.size):
 Calls prog 130 #[v,u] w fun e w'=>(∃q,e=.returned q/\Num w' q (Nat.gcd n m))/\Below w.heap.size w w':=by
 have aa:RZ w N (Nat.gcd n m) m v u w:=⟨n,hn,hm,rfl,af,ae,zI _ _⟩;obtain⟨a,l,c,rfl,ad⟩:=hn.open;obtain⟨a2,l2,c2,rfl,d⟩:=hm.open;replace ad:=zh ad;replace d:=zh d;clear hn hm;go_enter func130,ntmps130;go_wp2
 go_loopg [0,1] m (fun g v u wr=>RZ w N (Nat.gcd n m) g v u wr)
 case atStart=>exact aa
 case round=>
  clear ad d aa;obtain⟨k,h1,h2,h3,h4,h5,h6⟩:=hrel;obtain⟨a1,l1,c1,rfl,_⟩:=h1.open;obtain⟨a2,l2,c2,rfl,d⟩:=h2.open
  by_cases hg:gk=0
  .have hl:=d.2 hg;subst hl;replace h1:=zh h1;replace h3:=zh h3;replace hg:=zh hg;replace h6:=zh h6;clear h2 d;go_wp2;go_ret;refine⟨⟨_,rfl,?_⟩,h6.o⟩;rw[<-h3.o,hg.o,Nat.gcd_zero_right];exact h1.o
  have hl:0<l2:=by
   rcases xe l2 with h|h
   .exact absurd (d.1 h) hg
   exact h
  have ag:=h6.size;have hc:=OG wr _ _ k gk h1 h2 (BL hN (by omega)) (BL hN (xB _ h5)) (by omega) (by omega);replace h1:=zh h1;replace h2:=zh h2;replace h3:=zh h3;replace hg:=zh hg;replace h6:=zh h6;clear d
  go_wp2_with (go_at_call 132;refine hc.mono ?_;rintro e w2 ⟨⟨q,r,rfl,hq,hr⟩,hb⟩;replace hq:=zh hq;replace hr:=zh hr;replace hb:=zh hb)
  go_roundg (k%gk)
  case measure=>exact vw _ (by have:=hg.o;omega)
  case rel=>
   refine⟨gk,h2.o.below hb.o,hr.o,?_,h5,?_,h6.o.trans (hb.o.mono ag)⟩
   .rw[<-h3.o,Nat.gcd_comm gk,<-Nat.gcd_rec,Nat.gcd_comm]
   have:=vw k (show gk>0 by have:=hg.o;omega);omega
def val(s:ByteArray):Nat:=AN s.data.toList
theorem Bi(n:Nat):val (num n)=n:=AJ n
theorem OH{s:ByteArray}(h:isN s=true):num (val s)=s:=by
 obtain⟨n,_,rfl⟩:=Ch h;rw[Bi]
theorem B5{s:ByteArray}(h:isN s=true):val s<Lim:=by
 obtain⟨n,hn,rfl⟩:=Ch h;rw[Bi];exact hn
theorem In{s:ByteArray}(h:isN s=true):∀c∈s.data.toList,CM c:=((DZ _).1 h).2.2.1
theorem AU{s:ByteArray}(h:isN s=true):s.size<=300:=by
 have:=((DZ _).1 h).2.1
 simpa using this
theorem WG(a b:Nat)(h:a+a<=9*b):10^a*10^a<=1000000000^b:=by
 have e:(1000000000:Nat)=10^9:=rfl;rw[<-xu,e,<-Nat.pow_mul];exact zj (by omega) h
theorem Io:Lim*Lim<=1000000000^67:=by
 unfold Lim;exact WG mxd 67 (by rw[Et];omega)
theorem DG{n:Nat}(h:n<1000000000^67*1000000000):BK n:=by
 have:1000000000^67*1000000000<=1000000000^200:=by
  rw[<-yy];exact zj (by omega) (by omega)
 exact zJ h this
theorem K7:Lim<=Lim*Lim:=vv _ (wC (by omega))
theorem B6{n:Nat}(h:n<Lim):BK n:=DG (by have:=Io;have:=K7;omega)
theorem Nc{n:Nat}(h:n<Lim):BK (n*1000000000):=DG (by have:=Io;have:=K7;omega)
theorem PD{n m:Nat}(h:n<Lim)(k:m<Lim):BK (n+m):=DG (by have:=Io;have:=K7;omega)
theorem PE{n m:Nat}(h:n<Lim)(k:m<Lim):BK (n*m):=DG (by
 have:=Io;have h1:n*m<=Lim*Lim:=wl (by omega) (by omega);omega)
def K8(k:Nat):ByteArray:=if k<Lim then num k else ⟨#[]⟩
def K9(k:Nat):Int:=if k<Lim then 0 else 2
theorem C6(k:Nat):Da (Lib.decDigits k)=.tuple #[.string (K8 k),.int .i64 (K9 k)]:=by
 have h:300<(Lib.decDigits k).length<->¬k<Lim:=by
  have e:(Lib.decDigits k).length<=300<->k<Lim:=by
   have:=Cn k mxd (by rw[Et];omega);rw[<-Et];exact this
  omega
 unfold Da K8 K9
 by_cases hk:k<Lim
 .rw[zE (by rw[h];exact fun c=>c hk),zF hk,zF hk];rfl
 rw[zF (h.2 hk),zE hk,zE hk]
def opS(k:Nat)(s t:ByteArray):ByteArray:=if isN s=true/\isN t=true then K8 k else ⟨#[]⟩
def opE(k:Nat)(s t:ByteArray):Int:=if isN s=true/\isN t=true then K9 k else 1
def C7(k:Nat)(s t:ByteArray)(w:World)(e:Ending)(w':World):Prop:=e=.returned (.tuple #[.string (opS k s t),.int .i64 (opE k s t)])/\Below w.heap.size w w'
theorem KA{k:Nat}{s t:ByteArray}(h:isN s=false\/isN t=false):opS k s t=⟨#[]⟩/\opE k s t=1:=by
 have:¬(isN s=true/\isN t=true):=by rintro⟨h1,h2⟩;rcases h with h|h<;>simp_all
 unfold opS opE;rw[zE this,zE this];exact⟨rfl,rfl⟩
theorem Fj{k:Nat}{s t:ByteArray}(h1:isN s=true)(h2:isN t=true):opS k s t=K8 k/\opE k s t=K9 k:=by
 unfold opS opE;rw[zF ⟨h1,h2⟩,zF ⟨h1,h2⟩];exact⟨rfl,rfl⟩
theorem Bo(s:ByteArray)(w:World)(h:isN s=true):Calls prog 131 #[.string s] w (Cp w.heap.size w (val s)) :=
 PB s w (by have:=AU h;omega) (In h)
theorem WH{n m:Nat}(hn:n<Lim)(hm:m<Lim):Nat.gcd n m<Lim:=by
 rcases xe n with h|h
 .rw[h,Nat.gcd_zero_left];exact hm
 exact zn (Nat.gcd_le_left m h) hn
theorem Nd{n m:Nat}(h:n<Lim)(k:m<Lim):BK ((n+m)*1000000000):=by
 have:1000000000^68*1000000000<=1000000000^200:=by
  rw[<-yy];exact zj (by omega) (by omega)
 have h1:=Io;have h2:=K7;have h3:1000000000^68=1000000000^67*1000000000:=yy ..;unfold BK;omega
theorem PF(s t:ByteArray)(w:World)(hE:Env w)(hs:isN s=true)(ht:isN t=true):
 Calls prog 129 #[.string s,.string t,.func (.func 165) #[] #[]] w (C7 (val s+val t) s t w):=by
 have ap:=AU hs;have aq:=AU ht;have ao:=zh hE;have HG:=zh (Fj (k:=val s+val t) hs ht);have c1:=By s w (by omega);rw[hs]at c1;have HS:=zh hs;have HT:=zh ht;clear hs ht;have hs:=HS.o;have ht:=HT.o;replace hs:=zh hs;replace ht:=zh ht;replace hE:=zh hE;go_enter func129,ntmps129
 go_wp2_with fail
 refine c1.q fun w1 aj=>?_;have ae:=zh aj;clear aj
 go_wp2_with fail
 have c2:=By t w1 (by omega);rw[ht.o]at c2;refine c2.q fun w2 h=>?_;have d:=ae.t h;clear h c1 c2 ae
 go_wp2_with fail
 refine(Bo s w2 hs.o).mono ?_;rintro e w3 ⟨v1,rfl,ag,_,ad⟩;have af:=d.t ad;replace ag:=zh ag;clear ad d
 go_wp2_with fail
 refine(Bo t w3 ht.o).mono ?_;rintro e w4 ⟨v2,rfl,ah,_,h⟩;have d:=af.t h;replace h:=zh h;replace ah:=zh ah;clear af
 go_wp2_with fail
 have am:=hs.o;have an:=ht.o;refine(UP _ v1 v2 (val s) (val t) (ag.o.below h.o) ah.o (B6 (B5 hs.o)) (B6 (B5 ht.o))).mono ?_;rintro e w5 ⟨v3,rfl,ai,_,ad⟩;have aa:=d.t ad;replace ai:=zh ai;clear ad d h ag ah am an
 go_wp2_with fail
 have ct:=Ea w5 v3 _ ai.o (PD (B5 hs.o) (B5 ht.o)) (hE.o.below aa.o);refine ct.q fun w6 ak=>?_;rw[C6];have al:=aa.t ak;clear ct ak aa ai;go_wp2;go_ret2;exact⟨by rw[HG.o.1,HG.o.2];rfl,al.o⟩
theorem PG(s t:ByteArray)(w:World)(hE:Env w)(hs:isN s=true)(ht:isN t=true)(am:val t<=val s):
 Calls prog 129 #[.string s,.string t,.func (.func 159) #[] #[]] w (C7 (val s-val t) s t w):=by
 have aq:=AU hs;have ar:=AU ht;have ap:=zh hE;have HG:=zh (Fj (k:=val s-val t) hs ht);have c1:=By s w (by omega);rw[hs]at c1;have HS:=zh hs;have HT:=zh ht;clear hs ht;have hs:=HS.o;have ht:=HT.o;replace hs:=zh hs;replace ht:=zh ht;replace hE:=zh hE;go_enter func129,ntmps129
 go_wp2_with fail
 refine c1.q fun w1 aj=>?_;have ae:=zh aj;clear aj
 go_wp2_with fail
 have c2:=By t w1 (by omega);rw[ht.o]at c2;refine c2.q fun w2 h=>?_;have d:=ae.t h;clear h c1 c2 ae
 go_wp2_with fail
 refine(Bo s w2 hs.o).mono ?_;rintro e w3 ⟨v1,rfl,ag,_,ad⟩;have af:=d.t ad;replace ag:=zh ag;clear ad d
 go_wp2_with fail
 refine(Bo t w3 ht.o).mono ?_;rintro e w4 ⟨v2,rfl,ah,_,h⟩;have d:=af.t h;replace h:=zh h;replace ah:=zh ah;clear af
 go_wp2_with fail
 have an:=hs.o;have ao:=ht.o;refine(OC _ v1 v2 (val s) (val t) (ag.o.below h.o) ah.o am (B6 (B5 hs.o))).mono ?_;rintro e w5 ⟨v3,rfl,ai,_,ad⟩;have aa:=d.t ad;replace ai:=zh ai;clear ad d h ag ah an ao
 go_wp2_with fail
 have ct:=Ea w5 v3 _ ai.o (B6 (by have:=B5 hs.o;omega)) (hE.o.below aa.o);refine ct.q fun w6 ak=>?_;rw[C6];have al:=aa.t ak;clear ct ak aa ai;go_wp2;go_ret2;exact⟨by rw[HG.o.1,HG.o.2];rfl,al.o⟩
theorem PH(s t:ByteArray)(w:World)(hE:Env w)(hs:isN s=true)(ht:isN t=true):
 Calls prog 129 #[.string s,.string t,.func (.func 134) #[] #[]] w (C7 (val s*val t) s t w):=by
 have ap:=AU hs;have aq:=AU ht;have ao:=zh hE;have HG:=zh (Fj (k:=val s*val t) hs ht);have c1:=By s w (by omega);rw[hs]at c1;have HS:=zh hs;have HT:=zh ht;clear hs ht;have hs:=HS.o;have ht:=HT.o;replace hs:=zh hs;replace ht:=zh ht;replace hE:=zh hE;go_enter func129,ntmps129
 go_wp2_with fail
 refine c1.q fun w1 aj=>?_;have ae:=zh aj;clear aj
 go_wp2_with fail
 have c2:=By t w1 (by omega);rw[ht.o]at c2;refine c2.q fun w2 h=>?_;have d:=ae.t h;clear h c1 c2 ae
 go_wp2_with fail
 refine(Bo s w2 hs.o).mono ?_;rintro e w3 ⟨v1,rfl,ag,_,ad⟩;have af:=d.t ad;replace ag:=zh ag;clear ad d
 go_wp2_with fail
 refine(Bo t w3 ht.o).mono ?_;rintro e w4 ⟨v2,rfl,ah,_,h⟩;have d:=af.t h;replace h:=zh h;replace ah:=zh ah;clear af
 go_wp2_with fail
 have am:=hs.o;have an:=ht.o;refine(K4 _ v1 v2 (val s) (val t) (ag.o.below h.o) ah.o (B6 (B5 hs.o)) (B6 (B5 ht.o))).mono ?_;rintro e w5 ⟨v3,rfl,ai,_,ad⟩;have aa:=d.t ad;replace ai:=zh ai;clear ad d h ag ah am an
 go_wp2_with fail
 have ct:=Ea w5 v3 _ ai.o (PE (B5 hs.o) (B5 ht.o)) (hE.o.below aa.o);refine ct.q fun w6 ak=>?_;rw[C6];have al:=aa.t ak;clear ct ak aa ai;go_wp2;go_ret2;exact⟨by rw[HG.o.1,HG.o.2];rfl,al.o⟩
theorem PI(s t:ByteArray)(w:World)(hE:Env w)(hs:isN s=true)(ht:isN t=true):
 Calls prog 129 #[.string s,.string t,.func (.func 130) #[] #[]] w (C7 (Nat.gcd (val s) (val t)) s t w):=by
 have ap:=AU hs;have aq:=AU ht;have ao:=zh hE;have HG:=zh (Fj (k:=Nat.gcd (val s) (val t)) hs ht);have c1:=By s w (by omega);rw[hs]at c1;have HS:=zh hs;have HT:=zh ht;clear hs ht;have hs:=HS.o;have ht:=HT.o;replace hs:=zh hs;replace ht:=zh ht;replace hE:=zh hE;go_enter func129,ntmps129
 go_wp2_with fail
 refine c1.q fun w1 aj=>?_;have ae:=zh aj;clear aj
 go_wp2_with fail
 have c2:=By t w1 (by omega);rw[ht.o]at c2;refine c2.q fun w2 h=>?_;have d:=ae.t h;clear h c1 c2 ae
 go_wp2_with fail
 refine(Bo s w2 hs.o).mono ?_;rintro e w3 ⟨v1,rfl,ag,_,ad⟩;have af:=d.t ad;replace ag:=zh ag;clear ad d
 go_wp2_with fail
 refine(Bo t w3 ht.o).mono ?_;rintro e w4 ⟨v2,rfl,ah,_,h⟩;have d:=af.t h;replace h:=zh h;replace ah:=zh ah;clear af
 go_wp2_with fail
 have am:=hs.o;have an:=ht.o;refine(UQ _ v1 v2 (val s) (val t) (val s+val t) (ag.o.below h.o) ah.o (Nat.le_add_right _ _) (Nat.le_add_left _ _) (Nd (B5 hs.o) (B5 ht.o)) (by have:=d.o.size;have:=hE.o.pos;omega)).mono ?_;rintro e w5 ⟨⟨v3,rfl,ai⟩,ad⟩;have aa:=d.t ad;replace ai:=zh ai;clear ad d h ag ah am an
 go_wp2_with fail
 have ct:=Ea w5 v3 _ ai.o (B6 (WH (B5 hs.o) (B5 ht.o))) (hE.o.below aa.o);refine ct.q fun w6 ak=>?_;rw[C6];have al:=aa.t ak;clear ct ak aa ai;go_wp2;go_ret2;exact⟨by rw[HG.o.1,HG.o.2];rfl,al.o⟩
end Nt
end
end Go.Proofs.YtefmpngjjmddjaaGreatDoor

/- Parts of the proof. -/
import Derived.Deep.OwnRows
import Derived.Deep.RegionHeld3
import Derived.Test.YtefmpngjjmddjaaGreatDoorShelf
import Derived.Lib.SmallJoins
import Derived.Lib.QuietBelow
import Derived.WalkSmall
import Derived.RangeFuncNested
set_option maxHeartbeats 2000000
set_option maxRecDepth 100000
open Go.Proofs.Tryz
namespace Go.Proofs.YtefmpngjjmddjaaGreatDoor
theorem _root_.Go.Calls.q{P f a w V}{R:World->Prop}{Q}(h:Calls P f a w fun e w=>e=V/\R w)(k:∀w,R w->Q V w):Calls P f a w Q:=h.mono fun _ _ ⟨a,b⟩=>a▸k _ b
theorem _root_.Go.CallsIn.q{F n P f a w V}{R:World->Prop}{Q}(h:CallsIn F n P f a w fun e w=>e=V/\R w)(k:∀w,R w->Q V w):CallsIn F n P f a w Q:=h.mono fun _ _ ⟨a,b⟩=>a▸k _ b
theorem _root_.Go.RowKit.Hid.t{a b c:World}(d:Go.RowKit.Hid (Go.RowKit.Below a.heap.size a b))(h:Go.RowKit.Below b.heap.size b c):Go.RowKit.Hid (Go.RowKit.Below a.heap.size a c):=d.out.trans (h.mono d.out.size)
theorem _root_.Go.RowKit.Hid.o{p:Prop}(h:Go.RowKit.Hid p):p:=h
theorem _root_.Go.Shut.o{p:Prop}(h:Go.Shut p):p:=h
abbrev zA:=@List.setIfInBounds_toArray
abbrev zB:=@Nat.le_refl
abbrev zC:=@if_neg
abbrev zD:=@if_pos
abbrev zE:=@List.set_cons_succ
abbrev zF:=@List.set_cons_zero
abbrev zG:=@decide_eq_true
abbrev zH:=@decide_eq_false
abbrev zI:=@Go.RowKit.Below.refl
abbrev zJ:=@Nat.lt_of_lt_of_le
abbrev zK:=@Go.AllReadyH.cons
abbrev zL:=@of_decide_eq_true
abbrev zM:=@decide_eq_false_iff_not
abbrev zN:=@List.getElem_mem
abbrev zO:=@List.take_succ_eq_append_getElem
abbrev zP:=@beq_eq_false_iff_ne
abbrev zQ:=@Nat.zero_le
abbrev zR:=@Go.AllReadyH.nil
abbrev zS:=@Nat.le_trans
abbrev zT:=@Go.World.cell?_of_block
abbrev zU:=@Go.wpAnyH_ready
abbrev zV:=@List.length_append
abbrev zW:=@List.length_map
abbrev zX:=@Go.World.size_alloc
abbrev zY:=@List.mem_cons_of_mem
abbrev zZ:=@List.length_cons
abbrev ze:=@Go.RowKit.Below.heap_setCell
abbrev zf:=@List.mem_cons_self
abbrev zg:=@List.getElem_of_mem
abbrev zi:=@Nat.pow_le_pow_right
abbrev zj:=@List.getElem?_eq_getElem
abbrev zk:=@List.filter_cons
abbrev zm:=@Go.bodyPost_ret
abbrev zn:=@List.take_length
abbrev zo:=@Nat.lt_succ_self
abbrev zq:=@Bool.and_eq_true
abbrev zr:=@List.length_filter_le
abbrev zu:=@of_decide_eq_false
abbrev zw:=@List.map_append
abbrev zy:=@bne_iff_ne
abbrev zz:=@List.getElem_map
abbrev yA:=@Nat.lt_of_le_of_lt
abbrev yB:=@Nat.not_lt_zero
abbrev yC:=@List.mem_of_mem_take
abbrev yD:=@Go.World.cell?_setCell_other
abbrev yE:=@Nat.zero_add
abbrev yF:=@Go.World.frozen?_of_block
abbrev yG:=@decide_eq_true_eq
abbrev yH:=@Go.RowKit.Below.setCell
abbrev yI:=@Go.World.cell?_alloc_lt
abbrev yJ:=@Rat.mul_le_mul_of_nonneg_left
abbrev yK:=@List.not_mem_nil
abbrev yL:=@List.filter_append
abbrev yM:=@Go.RowKit.Below.heap_alloc
abbrev yN:=@Nat.mul_comm
abbrev yO:=@Go.World.ownsRow_nil
abbrev yP:=@Go.Lib.toList_data
abbrev yQ:=@List.mem_append
abbrev yR:=@Go.heap_alloc_new
abbrev yS:=@Nat.add_mul
abbrev yT:=@List.nil_append
abbrev yU:=@decide_eq_true_iff
abbrev yV:=@Go.World.cell?_setCell_same
abbrev yW:=@List.mem_cons
abbrev yX:=@Go.NoPanic.normal
abbrev yY:=@Nat.pow_succ
abbrev yZ:=@List.length_range
abbrev ya:=@Nat.add_zero
abbrev yc:=@Go.World.putObj_heap_other
abbrev ye:=@List.length_nil
abbrev yf:=@Nat.mul_assoc
abbrev yh:=@List.length_erase_of_mem
abbrev yi:=@List.cons_append
abbrev yj:=@Go.CallsIn.inRound
abbrev ym:=@List.mem_singleton
abbrev yo:=@List.take_append_drop
abbrev yq:=@Go.wp_region_held_drew
abbrev yr:=@Int.natCast_add
abbrev yt:=@List.length_take
abbrev yu:=@Nat.ne_of_lt
abbrev yv:=@Nat.mul_le_mul_right
abbrev yw:=@beq_iff_eq
abbrev yx:=@Go.wp_region_noPanic
abbrev yy:=@List.map_cons
abbrev yz:=@Go.wpAnyH_done
abbrev xA:=@List.mem_append_left
abbrev xB:=@Array.replicate_succ
abbrev xC:=@Array.replicate_zero
abbrev xD:=@Rat.le_of_lt
abbrev xE:=@List.take_of_length_le
abbrev xF:=@bne_eq_false_iff_eq
abbrev xG:=@List.append_toArray
abbrev xH:=@Array.getElem?_modify
abbrev xI:=@List.length_replicate
abbrev xJ:=@List.size_toArray
abbrev xK:=@Nat.eq_zero_or_pos
abbrev xL:=@List.getD_eq_getElem?_getD
abbrev xM:=@Int.natCast_mul
abbrev xN:=@List.append_nil
abbrev xO:=@List.getElem?_append_left
abbrev xP:=@Nat.mul_le_mul_left
abbrev xQ:=@List.flatten_append
abbrev xR:=@Nat.mul_add
abbrev xS:=@List.push_toArray
abbrev xT:=@List.append_assoc
abbrev xU:=@List.length_singleton
abbrev xV:=@Nat.lt_irrefl
abbrev xW:=@Nat.le_of_lt
abbrev xX:=@Bool.eq_iff_iff
abbrev xY:=@Go.wpAnyH_take
abbrev xZ:=@Rat.le_refl
abbrev xe:=@Rat.mul_nonneg
abbrev xf:=@Nat.lt_succ_of_lt
abbrev xh:=@List.map_congr_left
abbrev xi:=@List.range_succ
abbrev xj:=@Nat.mul_lt_mul''
abbrev xk:=@Rat.mul_inv_cancel
abbrev xm:=@List.map_map
abbrev xo:=@Nat.le_succ
abbrev xp:=@Go.World.block_lt_of_cell?
abbrev xq:=@List.getElem?_map
abbrev xr:=@Rat.natCast_mul
abbrev xt:=@Nat.mul_ne_zero
abbrev xu:=@Go.KeepsOthers.setCell
abbrev xv:=@Nat.zero_mul
abbrev xw:=@List.length_pos_of_mem
abbrev xx:=@Go.IntWalk.i64_in
abbrev xy:=@or_false
abbrev xz:=@Go.wpList_append_fits
abbrev wA:=@Option.isSome_some
abbrev wB:=@Iff.rfl
abbrev wC:=@List.mem_append_right
abbrev wD:=@List.drop_eq_getElem_cons
abbrev wE:=@Go.grownBy_putObj'
abbrev wF:=@Nat.pow_add
abbrev wG:=@Rat.one_mul
abbrev wH:=@List.flatten_cons
abbrev wI:=@List.mem_of_mem_drop
abbrev wJ:=@Go.DataW.trod_string
abbrev wK:=@Go.Result.andThen_ok
abbrev wL:=@Int.toNat_natCast
abbrev wM:=@List.all_eq_true
abbrev wN:=@Go.run_takeDeferred
abbrev wO:=@List.map_toArray
abbrev wP:=@List.getElem_range
abbrev wQ:=@Nat.add_sub_cancel
abbrev wR:=@Nat.div_le_self
abbrev wT:=@Go.run_make_row'
abbrev wU:=@Classical.choose_spec
abbrev wV:=@List.getElem_take
abbrev wW:=@Rat.div_def
abbrev wX:=@Nat.mul_le_mul
abbrev wY:=@Bool.false_and
abbrev wZ:=@Go.info_parts
abbrev wg:=@Go.run_append_own
abbrev wh:=@Array.size_replicate
abbrev wj:=@Go.Lib.byteCells_length
abbrev wk:=@List.length_take_le'
abbrev wl:=@Nat.le_of_eq
abbrev wm:=@if_true
abbrev wn:=@Nat.lt_or_ge
abbrev ws:=@Rat.add_zero
abbrev wv:=@Go.Sem.run_pure
abbrev ww:=@Classical.byContradiction
abbrev vA:=@Go.callsIn_of_wp_marks
abbrev vB:=@Rat.intCast_natCast
abbrev vC:=@List.mem_map_of_mem
abbrev vD:=@Bool.true_and
abbrev vE:=@Go.Exit.noGoto_ret
abbrev vF:=@Nat.mod_lt
abbrev vG:=@Nat.pow_pos
abbrev vH:=@Nat.mul_pos
abbrev vI:=@Rat.mul_pos
abbrev vJ:=@Nat.le_mul_of_pos_right
abbrev vK:=@List.getElem?_replicate
abbrev vL:=@Nat.ne_of_gt
abbrev vM:=@Rat.mul_comm
abbrev vN:=@Rat.zero_mul
abbrev vO:=@List.map_nil
abbrev vP:=@List.nodup_nil
abbrev vQ:=@Go.Lib.decDigits_one
abbrev vR:=@Go.Sem.run_bind
abbrev vS:=@List.getElem_cons_succ
abbrev vT:=@Int.natCast_emod
abbrev vU:=@Int.natCast_ediv
abbrev vV:=@Go.callsIn_of_wp
abbrev vW:=@Nat.mod_one
abbrev vX:=@List.mem_map
abbrev vY:=@Nat.mul_zero
abbrev vZ:=@Rat.pow_succ
theorem zh{p:Prop}(h:p):Go.RowKit.Hid p:=h
theorem tk{P:Program}{md:Region.Mode}{ops:Array Oper}{Q:Exit->Act->World->Prop}{S:World->Prop}{oi:Oper}{v:Value}{fuel:Nat}{listed:Array Bool}{a:Act}{w:World}(i:Nat)(hS:S w)(hy:YieldsIf P ops S oi v a)(h:wpAnyH P md ops Q S fuel (listed.setIfInBounds i true) (a.put oi.dst v) w)(hi:ops[i]?=some oi:=by exact rfl)(hs:Region.noSelect ops=true:=by kernel_rfl)(hf:Region.free md ops listed i=true:=by kernel_rfl)(hr:(Region.ready md ops listed).contains i=true:=by kernel_rfl)(hQ:∀c a w,Q (.panic c) (a.put oi.dst v) w->Q (.panic c) a w:=by exact fun _ _ _ h=>h):wpAnyH P md ops Q S (fuel+1) listed a w:=xY hi hs hf hr hQ hy hS h
section
namespace Ci
inductive Way(E:List (Nat×Nat)):Nat->Nat->Nat->Prop
 |here (p:Nat):Way E p p 0
 |step {p q r k:Nat} (h:Way E p q k) (e:(q,r)∈E):Way E p r (k+1)
def Reach(E:List (Nat×Nat))(p q:Nat):Prop:=∃k,Way E p q k
def Gp(E:List (Nat×Nat))(F:List Nat)(p k:Nat):Prop:=∃f,f∈F/\Way E f p k
def InN(n:Nat)(E:List (Nat×Nat)):Prop:=∀x,x∈E->x.1<n/\x.2<n
section
variable {E:List (Nat×Nat)} {F:List Nat} {n p q r j k:Nat}
theorem Way.trans(h:Way E p q j)(h2:Way E q r k):Way E p r (j+k):=by
 induction h2 with
 |here=>exact h
 |step _ e ih=>exact ih.step e
theorem Way.one(e:(p,q)∈E):Way E p q 1:=(Way.here p).step e
theorem Way.zero(h:Way E p q 0):p=q:=by cases h;rfl
theorem Way.last(h:Way E p r (k+1)):∃q,Way E p q k/\(q,r)∈E:=by
 cases h with
 |step h e=>exact⟨_,h,e⟩
theorem Way.first(h:Way E p r (k+1)):∃q,(p,q)∈E/\Way E q r k:=by
 induction k generalizing r with
 |zero=>
  obtain⟨q,h1,e⟩:=h.last;obtain rfl:=h1.zero;exact⟨r,e,.here r⟩
 |succ k ih=>
  obtain⟨q,h1,e⟩:=h.last;obtain⟨x,e1,h2⟩:=ih h1;exact⟨x,e1,h2.step e⟩
theorem Way.lt(hE:InN n E)(h:Way E p q k)(hp:p<n):q<n:=by
 cases h with
 |here=>exact hp
 |step _ e=>exact(hE _ e).2
theorem Way.mono{E':List (Nat×Nat)}(hs:∀x,x∈E->x∈E')(h:Way E p q k):Way E' p q k:=by
 induction h with
 |here=>exact .here _
 |step _ e ih=>exact ih.step (hs _ e)
theorem Reach.refl(p:Nat):Reach E p p:=⟨0,.here p⟩
theorem Reach.trans(h:Reach E p q)(h2:Reach E q r):Reach E p r:=by
 obtain⟨j,a⟩:=h;obtain⟨k,b⟩:=h2;exact⟨_,a.trans b⟩
theorem Reach.one(e:(p,q)∈E):Reach E p q:=⟨1,.one e⟩
theorem Reach.lt(hE:InN n E)(h:Reach E p q)(hp:p<n):q<n:=by obtain⟨k,a⟩:=h;exact a.lt hE hp
theorem Reach.closed{C:Nat->Prop}(h:Reach E p q)(h0:C p)(hc:∀a b,C a->(a,b)∈E->C b):C q:=by
 obtain⟨k,a⟩:=h
 induction a with
 |here=>exact h0
 |step _ e ih=>exact hc _ _ ih e
theorem ES:Gp E F p 0<->p∈F:=⟨fun⟨_,h,w⟩=>by rw[<-w.zero];exact h,fun h=>⟨p,h,.here p⟩⟩
theorem ET:Gp E F p (k+1)<->∃q,Gp E F q k/\(q,p)∈E:=by
 constructor
 .rintro⟨f,h,w⟩;obtain⟨q,a,e⟩:=w.last;exact⟨q,⟨f,h,a⟩,e⟩
 rintro⟨q,⟨f,h,a⟩,e⟩;exact⟨f,h,a.step e⟩
def Q0(E:List (Nat×Nat))(F:List Nat)(p:Nat)(r:Int):Prop :=
 (r=-1/\∀k,¬Gp E F p k)\/∃k:Nat,r=(k:Int)/\Gp E F p k/\∀j,j<k->¬Gp E F p j
theorem Hr{P:Nat->Prop}:∀k,P k->∃j,j<=k/\P j/\∀i,i<j->¬P i:=by
 intro k
 induction k using Nat.strongRecOn with
 |ind k ih=>
  intro h
  by_cases h2:∃i,i<k/\P i
  .obtain⟨i,hi,hp⟩:=h2;obtain⟨j,h3,h4⟩:=ih i hi hp;exact⟨j,by omega,h4⟩
  exact⟨k,zB _,h,fun i hi hp=>h2 ⟨i,hi,hp⟩⟩
theorem NM(E:List (Nat×Nat))(F:List Nat)(p:Nat):∃r,Q0 E F p r:=by
 by_cases h:∃k,Gp E F p k
 .obtain⟨k,hk⟩:=h;obtain⟨j,_,h1,h2⟩:=Hr k hk;exact⟨j,.inr ⟨j,rfl,h1,h2⟩⟩
 exact⟨-1,.inl ⟨rfl,fun k hk=>h ⟨k,hk⟩⟩⟩
theorem Q2{a b:Int}(h:Q0 E F p a)(h2:Q0 E F p b):a=b:=by
 rcases h with⟨rfl,h⟩|⟨k,rfl,h,hm⟩
 .rcases h2 with⟨rfl,_⟩|⟨j,rfl,h3,_⟩
  .rfl
  exact absurd h3 (h j)
 rcases h2 with⟨rfl,h3⟩|⟨j,rfl,h3,d⟩
 .exact absurd h (h3 k)
 have h4:¬k<j:=fun c=>d k c h;have h5:¬j<k:=fun c=>hm j c h3;omega
noncomputable def rk(E:List (Nat×Nat))(F:List Nat)(p:Nat):Int:=Classical.choose (NM E F p)
theorem Q4(E:List (Nat×Nat))(F:List Nat)(p:Nat):Q0 E F p (rk E F p):=wU (NM E F p)
theorem WF{a:Int}(h:Q0 E F p a):rk E F p=a:=Q2 (Q4 E F p) h
theorem Q5(h:Gp E F p k):0<=rk E F p/\rk E F p<=k:=by
 rcases Q4 E F p with⟨_,h2⟩|⟨j,h1,_,h2⟩
 .exact absurd h (h2 k)
 have:¬k<j:=fun c=>h2 k c h;omega
theorem Mf(h:rk E F p=k):Gp E F p k:=by
 rcases Q4 E F p with⟨h1,_⟩|⟨j,h1,h2,_⟩
 .omega
 obtain rfl:j=k:=by omega
 exact h2
theorem EU:rk E F p=0<->p∈F:=by
 constructor
 .intro h;exact ES.1 (Mf (k:=0) (by omega))
 intro h;have:=Q5 (ES.2 h:Gp E F p 0);omega
theorem JR(h:0<=rk E F q)(e:(q,p)∈E):0<=rk E F p/\rk E F p<=rk E F q+1:=by
 obtain⟨k,hk⟩:∃k:Nat,rk E F q=k:=⟨(rk E F q).toNat,by omega⟩;have:=Q5 (ET.2 ⟨q,Mf hk,e⟩:Gp E F p (k+1));omega
theorem FJ(h:rk E F p=((k+1:Nat):Int)):∃q,rk E F q=(k:Int)/\(q,p)∈E:=by
 obtain⟨q,h1,e⟩:=ET.1 (Mf h);have h2:=Q5 h1;have h3:=JR h2.1 e;exact⟨q,by omega,e⟩
theorem Cv:∀(n:Nat)(l:List Nat),l.Nodup->(∀x,x∈l->x<n)->l.length<=n:=by
 intro n
 induction n with
 |zero=>
  intro l _ h
  cases l with
  |nil=>exact zB _
  |cons a l=>exact absurd (h a (zf ..)) (yB _)
 |succ n ih=>
  intro l hd h
  have h1:=ih (l.erase n) (hd.erase n) fun x hx=>by
   have h2:=(hd.mem_erase_iff).1 hx;have:=h x h2.2;omega
  by_cases hm:n∈l
  .rw[yh hm]at h1;omega
  rw[List.erase_of_not_mem hm]at h1;omega
theorem Q6:∀(k:Nat)(p:Nat),rk E F p=(k:Int)->∃l:List Nat,l.length=k+1/\l.Nodup/\(∀x,x∈l->∃j:Nat,j<=k/\rk E F x=(j:Int))/\∀x,x∈l->x=p\/∃y,(x,y)∈E:=by
 intro k
 induction k with
 |zero=>exact fun p h=>⟨[p],rfl,by simp,fun x hx=>⟨0,zB _,by rw[List.mem_singleton.1 hx];exact h⟩,fun x hx=>.inl (List.mem_singleton.1 hx)⟩
 |succ k ih=>
  intro p h;obtain⟨q,h1,e⟩:=FJ h;obtain⟨l,h2,h3,h4,h5⟩:=ih q h1;refine⟨p::l,by simp[h2],List.nodup_cons.2 ⟨fun hm=>?_,h3⟩,fun x hx=>?_,fun x hx=>?_⟩
  .obtain⟨j,hj,e2⟩:=h4 p hm;omega
  .rcases List.mem_cons.1 hx with rfl|hx
   .exact⟨k+1,zB _,h⟩
   obtain⟨j,hj,e2⟩:=h4 x hx;exact⟨j,by omega,e2⟩
  rcases List.mem_cons.1 hx with rfl|hx
  .exact .inl rfl
  rcases h5 x hx with rfl|h6
  .exact .inr ⟨p,e⟩
  exact .inr h6
theorem WG(hE:InN n E)(hp:p<n):rk E F p<n:=by
 by_cases h:0<=rk E F p
 .obtain ⟨k,hk⟩:∃k:Nat,rk E F p=k:=⟨(rk E F p).toNat,by omega⟩;obtain⟨l,h1,h2,_,h4⟩:=Q6 k p hk
  have:=Cv n l h2 fun x hx=>by
   rcases h4 x hx with rfl|⟨y,e⟩
   .exact hp
   exact(hE _ e).1
  omega
 omega
end
end Ci
end
section
namespace Ci
open Classical
def Mut(E:List (Nat×Nat))(p q:Nat):Prop:=Reach E p q/\Reach E q p
section
variable {E:List (Nat×Nat)} {n p q r:Nat} {left:List Nat}
theorem Mut.refl(p:Nat):Mut E p p:=⟨.refl p,.refl p⟩
theorem Mut.symm(h:Mut E p q):Mut E q p:=⟨h.2,h.1⟩
theorem Mut.trans(h:Mut E p q)(h2:Mut E q r):Mut E p r:=⟨h.1.trans h2.1,h2.2.trans h.2⟩
theorem Mg(E:List (Nat×Nat))(p:Nat):∃q,Mut E p q/\∀r,Mut E p r->q<=r:=by
 obtain⟨q,_,h1,h2⟩:=Hr (P:=Mut E p) p (.refl p);exact⟨q,h1,fun r hr=>Nat.le_of_not_lt fun c=>h2 r c hr⟩
noncomputable def fst(E:List (Nat×Nat))(p:Nat):Nat:=Classical.choose (Mg E p)
theorem DZ:Mut E p (fst E p):=(wU (Mg E p)).1
theorem JS(h:Mut E p q):fst E p<=q:=(wU (Mg E p)).2 q h
theorem Fx(h:Mut E p q):fst E p=fst E q:=Nat.le_antisymm (JS (h.trans DZ)) (JS (h.symm.trans DZ))
theorem Hj:fst E p=fst E q<->Mut E p q:=⟨fun h=>(h▸DZ (p:=p)).trans DZ.symm,Fx⟩
theorem FK:fst E (fst E p)=fst E p:=(Fx DZ).symm
theorem Gq(h:p<n):fst E p<n:=yA (JS (.refl p)) h
noncomputable def CL(n:Nat)(E:List (Nat×Nat))(p:Nat):List Nat:=(List.range n).filter fun q=>decide (Mut E p q)
theorem CF:q∈CL n E p<->q<n/\Mut E p q:=by simp[CL]
theorem Mh:(CL n E p).Nodup:=List.nodup_range.filter _
noncomputable def leasts(n:Nat)(E:List (Nat×Nat)):List Nat:=(List.range n).filter fun p=>decide (fst E p=p)
theorem Bz:p∈leasts n E<->p<n/\fst E p=p:=by simp[leasts]
def Fy(E:List (Nat×Nat))(left:List Nat)(p:Nat):Prop:=∀h q,Mut E p q->(h,q)∈E->fst E h∈left->fst E h=p
noncomputable def Fj(E:List (Nat×Nat))(left:List Nat):Option Nat:=left.find? fun p=>decide (Fy E left p)
noncomputable def ord(E:List (Nat×Nat)):Nat->List Nat->List Nat
 |0,_=>[]
 |k+1,left=>match Fj E left with
  |none=>[]
  |some p=>p::ord E k (left.erase p)
structure Left(n:Nat)(E:List (Nat×Nat))(left:List Nat):Prop where
 own:∀x,x∈left->x<n/\fst E x=x
 up:∀x y,x∈left->Reach E x y->fst E y∈left
 sorted:left.Pairwise (·<·)
theorem Left.start(hE:InN n E):Left n E (leasts n E) :=
 ⟨fun _ h=>Bz.1 h,fun _ _ h hr=>Bz.2 ⟨Gq (hr.lt hE (Bz.1 h).1),FK⟩,List.pairwise_lt_range.filter _⟩
theorem Left.nodup(h:Left n E left):left.Nodup:=h.sorted.imp fun d=>yu d
theorem WH(h:Reach E p q):¬Mut E p q->∃a b,Reach E p a/\(a,b)∈E/\Mut E q b/\¬Mut E q a:=by
 obtain⟨k,w⟩:=h;intro hn
 have key:∀x,(∃j,Way E x q j)->Reach E p x->¬Mut E q x->∃a b,Reach E p a/\(a,b)∈E/\Mut E q b/\¬Mut E q a:=by
  rintro x ⟨j,hw⟩
  induction j generalizing x with
  |zero=>exact fun _ h2=>absurd (by rw[hw.zero];exact .refl q) h2
  |succ j ih=>
   intro hx h2;obtain⟨y,e,d⟩:=hw.first
   by_cases hy:Mut E q y
   .exact⟨x,y,hx,e,hy,h2⟩
   exact ih y d (hx.trans (.one e)) hy
 exact key p ⟨k,w⟩ (.refl p) fun h=>hn h.symm
theorem Left.erase(h:Left n E left)(hp:p∈left)(hf:Fy E left p):Left n E (left.erase p):=by
 have hd:=h.nodup;refine⟨fun x hx=>h.own x (List.mem_of_mem_erase hx),fun x y hx hr=>?_,h.sorted.sublist List.erase_sublist⟩;obtain⟨ab,d⟩:=hd.mem_erase_iff.1 hx;refine hd.mem_erase_iff.2 ⟨fun e=>?_,h.up x y d hr⟩;have ad:Mut E p y:=Hj.1 (by rw[(h.own p hp).2,e]);have aa:Reach E x p:=hr.trans ad.2;obtain⟨a,b,h1,h2,h3,h4⟩:=WH aa fun hm=>ab (by rw[<-(h.own x d).2,Fx hm,(h.own p hp).2]);have h5:=hf a b h3 h2 (h.up x a d h1);exact h4 (Hj.1 (by rw[(h.own p hp).2,h5]))
theorem EV{f g:Nat->Bool}:∀{l:List Nat},(∀x,x∈l->f x=true->g x=true)->(∃x,x∈l/\f x=false/\g x=true)->(l.filter f).length<(l.filter g).length:=by
 intro l
 induction l with
 |nil=>rintro _ ⟨x,h,_⟩;cases h
 |cons a l ih=>
  intro hs hx
  have aa:(l.filter f).length<=(l.filter g).length:=by
   have:∀m:List Nat,(∀x,x∈m->f x=true->g x=true)->(m.filter f).length<=(m.filter g).length:=by
    intro m
    induction m with
    |nil=>intro _;exact zB _
    |cons b m ihm=>
     intro hm;have h1:=ihm fun x h=>hm x (zY _ h);have h2:=hm b (zf ..)
     cases hf:f b<;>cases hg:g b<;>simp[hf,hg]<;>simp_all<;>omega
   exact this l fun x h=>hs x (zY _ h)
  by_cases ha:f a=false/\g a=true
  .simp[ha.1,ha.2];omega
  have d:∃x,x∈l/\f x=false/\g x=true:=by
   obtain⟨x,h1,h2,h3⟩:=hx
   rcases List.mem_cons.1 h1 with rfl|h1
   .exact absurd ⟨h2,h3⟩ ha
   exact⟨x,h1,h2,h3⟩
  have h1:=ih (fun x h=>hs x (zY _ h)) d;have h2:=hs a (zf ..)
  cases hf:f a<;>cases hg:g a<;>simp[hf,hg]<;>simp_all
theorem Q7(f:Nat->Nat):∀l:List Nat,l≠[]->∃x,x∈l/\∀y,y∈l->f x<=f y:=by
 intro l
 induction l with
 |nil=>intro h;exact absurd rfl h
 |cons a l ih=>
  intro _
  by_cases h:l=[]
  .exact⟨a,zf ..,fun y hy=>by rw[h]at hy;rw[List.mem_singleton.1 hy];exact zB _⟩
  obtain⟨x,h1,h2⟩:=ih h
  by_cases hc:f a<=f x
  .exact ⟨a,zf ..,fun y hy=>by
    rcases List.mem_cons.1 hy with rfl|hy
    .exact zB _
    exact zS hc (h2 y hy)⟩
  exact ⟨x,zY _ h1,fun y hy=>by
   rcases List.mem_cons.1 hy with rfl|hy
   .omega
   exact h2 y hy⟩
theorem Left.free(h:Left n E left)(d:left≠[]):∃p,p∈left/\Fy E left p:=by
 obtain⟨p,hp,hm⟩:=Q7 (fun p=>((List.range n).filter fun q=>decide (Reach E q p)).length) left d;refine⟨p,hp,fun a b h1 h2 h3=>ww fun hc=>?_⟩;have h4:=hm _ h3;have h5:Reach E (fst E a) p:=(DZ.2.trans (.one h2)).trans h1.2
 have h6:((List.range n).filter fun q=>decide (Reach E q (fst E a))).length<((List.range n).filter fun q=>decide (Reach E q p)).length :=
  EV (fun x _ hx=>zG ((zL hx).trans h5)) ⟨p,List.mem_range.2 (h.own p hp).1,zH fun hr=>hc (by
   have:=Fx (E:=E) (p:=fst E a) (q:=p) ⟨h5,hr⟩
   rwa [FK,(h.own p hp).2]at this),zG (.refl p)⟩
 omega
theorem Hk(h:Left n E left)(d:left≠[]):∃p,Fj E left=some p:=by
 obtain⟨p,h1,h2⟩:=h.free d
 cases hp:Fj E left with
 |some q=>exact⟨q,rfl⟩
 |none=>
  unfold Fj at hp;rw[List.find?_eq_none]at hp;exact absurd (zG h2) (hp p h1)
theorem Cw(h:Left n E left)(hp:Fj E left=some p):p∈left/\Fy E left p/\∀q,q∈left->Fy E left q->p<=q:=by
 unfold Fj at hp;obtain⟨h1,us,bs,h2,h3⟩:=List.find?_eq_some_iff_append.1 hp;refine⟨by rw[h2];simp,zL h1,fun q hq hf=>?_⟩;have hs:=h.sorted;rw[h2]at hq hs
 rcases List.mem_append.1 hq with hq|hq
 .have:=h3 q hq;rw[zG hf]at this
  cases this
 rcases List.mem_cons.1 hq with rfl|hq
 .exact zB _
 exact xW ((List.pairwise_cons.1 (List.pairwise_append.1 hs).2.1).1 q hq)
theorem TF(h:Left n E left)(h1:p∈left)(h2:Fy E left p)(h3:∀q,q∈left->Fy E left q->p<=q):Fj E left=some p:=by
 cases hp:Fj E left with
 |none=>
  unfold Fj at hp;rw[List.find?_eq_none]at hp;exact absurd (zG h2) (hp p h1)
 |some q=>
  obtain⟨a,b,c⟩:=Cw h hp;have:=h3 q a b;have:=c p h1 h2;rw[show q=p by omega]
theorem JT:∀(k:Nat)(left:List Nat),Left n E left->left.length<=k->∀p,p∈ord E k left<->p∈left:=by
 intro k
 induction k with
 |zero=>
  intro left _ hk p;rw[List.length_eq_zero_iff.1 (Nat.le_zero.1 hk)];exact wB
 |succ k ih=>
  intro left h hk p
  by_cases hne:left=[]
  .subst hne;simp[ord,Fj]
  obtain⟨q,hq⟩:=Hk h hne;obtain⟨h1,h2,_⟩:=Cw h hq;have h3:=ih _ (h.erase h1 h2) (by rw[yh h1];omega) p;unfold ord;rw[hq];dsimp only;rw[yW,h3,h.nodup.mem_erase_iff];constructor
  .rintro(rfl|h4)
   .exact h1
   exact h4.2
  intro h4
  by_cases e:p=q
  .exact .inl e
  exact .inr ⟨e,h4⟩
theorem IW:∀(k:Nat)(left:List Nat),Left n E left->left.length<=k->(ord E k left).Nodup/\(ord E k left).length=left.length:=by
 intro k
 induction k with
 |zero=>
  intro left _ hk;rw[List.length_eq_zero_iff.1 (Nat.le_zero.1 hk)];exact⟨vP,rfl⟩
 |succ k ih=>
  intro left h hk
  by_cases hne:left=[]
  .subst hne;simp[ord,Fj]
  obtain⟨q,hq⟩:=Hk h hne;obtain⟨h1,h2,_⟩:=Cw h hq;have d:(left.erase q).length<=k:=by rw[yh h1];omega
  have h3:=ih _ (h.erase h1 h2) d;have h4:=JT k _ (h.erase h1 h2) d q;have h5:=xw h1;unfold ord;rw[hq];dsimp only;refine⟨List.nodup_cons.2 ⟨fun hm=>?_,h3.1⟩,?_⟩
  .exact(h.nodup.mem_erase_iff.1 (h4.1 hm)).1 rfl
  rw[zZ,h3.2,yh h1];omega
theorem OF:∀(k:Nat)(left:List Nat),Left n E left->left.length<=k->∀(i j:Nat)(hi:i<(ord E k left).length)(hj:j<(ord E k left).length)(a b:Nat),
 (a,b)∈E->fst E a=(ord E k left)[i]->fst E b=(ord E k left)[j]->i<=j:=by
 intro k
 induction k with
 |zero=>intro left _ _ i j hi;simp[ord]at hi
 |succ k ih=>
  intro left h hk i j hi hj a b e ha hb
  by_cases hne:left=[]
  .subst hne;simp[ord,Fj]at hi
  obtain⟨q,hq⟩:=Hk h hne;obtain⟨h1,h2,_⟩:=Cw h hq;have d:(left.erase q).length<=k:=by rw[yh h1];omega
  have hu:ord E (k+1) left=q::ord E k (left.erase q):=by conv=>lhs;unfold ord;rw[hq]
  simp only[hu]at hi hj ha hb
  cases i with
  |zero=>exact zQ _
  |succ i=>
   cases j with
   |zero=>
    simp only[vS,List.getElem_cons_zero]at ha hb;have hm:=(JT k _ (h.erase h1 h2) d _).1 (zN (by simpa using hi:i<(ord E k (left.erase q)).length));rw[<-ha]at hm;obtain⟨h3,h4⟩:=h.nodup.mem_erase_iff.1 hm;exact absurd (h2 a b (Hj.1 (by rw[hb,(h.own q h1).2])) e h4) h3
   |succ j=>
    simp only[vS]at ha hb;have:=ih _ (h.erase h1 h2) d i j (by simpa using hi) (by simpa using hj) a b e ha hb;omega
end
noncomputable def ords(n:Nat)(E:List (Nat×Nat)):List Nat:=ord E n (leasts n E)
noncomputable def Ar(n:Nat)(E:List (Nat×Nat)):List (List Nat):=(ords n E).map (CL n E)
end Ci
end
section
namespace Ci
def Ea(o:Nat->Int)(q:Nat)(v:Int):Nat->Int:=fun x=>if x=q then v else o x
section
variable {E:List (Nat×Nat)} {F:List Nat} {n p q r i:Nat} {out:Nat->Int}
theorem Bb(o:Nat->Int)(q:Nat)(v:Int):Ea o q v q=v:=zD rfl
theorem AJ{o:Nat->Int}{q x:Nat}{v:Int}(h:x≠q):Ea o q v x=o x:=zC h
structure Lv(n:Nat)(E:List (Nat×Nat))(F:List Nat)(r i:Nat)(out:Nat->Int):Prop where
 low:∀x,x<n->rk E F x<=r->out x=rk E F x
 mid:∀x,x<n->rk E F x=(r:Int)+1->out x=(r:Int)+1\/(out x=-1/\∀h,(h,x)∈E.take i->rk E F h≠r)
 high:∀x,x<n->(r:Int)+1<rk E F x->out x=-1
theorem Lv.right(h:Lv n E F r i out){x:Nat}(hx:x<n)(h0:0<=out x):out x=rk E F x:=by
 by_cases h1:rk E F x<=r
 .exact h.low x hx h1
 by_cases h2:rk E F x=(r:Int)+1
 .rcases h.mid x hx h2 with h3|h3
  .rw[h3,h2]
  omega
 have:=h.high x hx (by omega);omega
theorem IX{α:Type}{l:List α}{i:Nat}(h:i<l.length):l.take (i+1)=l.take i++[l[i]]:=by
 rw[zO h]
theorem Lv.set(h:Lv n E F r i out)(hi:i<E.length)(hE:InN n E)(h1:out E[i].1=r)(h2:out E[i].2<0):Lv n E F r (i+1) (Ea out E[i].2 ((r:Int)+1)):=by
 obtain⟨a1,a2⟩:=hE _ (zN hi);have b1:rk E F E[i].1=r:=by rw[<-h.right a1 (by omega),h1]
 have b2:=JR (E:=E) (F:=F) (q:=E[i].1) (p:=E[i].2) (by omega) (zN hi)
 have b3:rk E F E[i].2=(r:Int)+1:=by
  by_cases c:rk E F E[i].2<=r
  .have:=h.low _ a2 c;omega
  omega
 refine⟨fun x hx hl=>?_,fun x hx hl=>?_,fun x hx hl=>?_⟩
 .rw[AJ fun e=>by rw[e]at hl;omega];exact h.low x hx hl
 .by_cases e:x=E[i].2
  .exact .inl (by rw[e,Bb])
  rw[AJ e]
  rcases h.mid x hx hl with h3|⟨h3,h4⟩
  .exact .inl h3
  refine .inr ⟨h3,fun y hy=>?_⟩;rw[IX hi]at hy
  rcases List.mem_append.1 hy with hy|hy
  .exact h4 y hy
  exact absurd (by rw[<-List.mem_singleton.1 hy]) e
 rw[AJ fun e=>by rw[e]at hl;omega];exact h.high x hx hl
theorem Lv.skip(h:Lv n E F r i out)(hi:i<E.length)(hE:InN n E)(h1:¬(out E[i].1=r/\out E[i].2<0)):Lv n E F r (i+1) out:=by
 obtain⟨a1,a2⟩:=hE _ (zN hi);refine⟨h.low,fun x hx hl=>?_,h.high⟩
 rcases h.mid x hx hl with h3|⟨h3,h4⟩
 .exact .inl h3
 refine .inr ⟨h3,fun y hy hr=>?_⟩;rw[IX hi]at hy
 rcases List.mem_append.1 hy with hy|hy
 .exact h4 y hy hr
 have e:=List.mem_singleton.1 hy;have e1:E[i].1=y:=by rw[<-e]
 have e2:E[i].2=x:=by rw[<-e]
 refine h1 ⟨?_,by rw[e2,h3];omega⟩;rw[e1,h.low y (by rw[<-e1];exact a1) (by omega),hr]
theorem Lv.next(h:Lv n E F r E.length out):Lv n E F (r+1) 0 out:=by
 have hm:∀x,x<n->rk E F x=(r:Int)+1->out x=(r:Int)+1:=fun x hx hl=>by
  rcases h.mid x hx hl with h3|⟨_,h4⟩
  .exact h3
  obtain⟨q,h5,h6⟩:=FJ (k:=r) (p:=x) (E:=E) (F:=F) (by omega);exact absurd h5 (h4 q (by rw[zn];exact h6))
 refine⟨fun x hx hl=>?_,fun x hx hl=>.inr ⟨h.high x hx (by omega),fun y hy=>by simp at hy⟩,fun x hx hl=>h.high x hx (by omega)⟩
 by_cases c:rk E F x<=r
 .exact h.low x hx c
 rw[hm x hx (by omega)];omega
theorem Lv.whole(h:Lv n E F r i out)(hr:n<=r)(hE:InN n E){x:Nat}(hx:x<n):out x=rk E F x:=by
 have:=WG (F:=F) hE hx;exact h.low x hx (by omega)
theorem Lv.at(h:Lv n E F r i out)(hE:InN n E){x:Nat}(hx:x<n)(hr:n<=r\/0<=out x):out x=rk E F x:=by
 rcases hr with hr|hr
 .exact h.whole hr hE hx
 exact h.right hx hr
structure Bf(n:Nat)(E:List (Nat×Nat))(F:List Nat)(ex:Nat->Prop)(out:Nat->Int)(queue:List Nat):Prop where
 way:∀x,x<n->0<=out x->Gp E F x (out x).toNat
 neg:∀x,x<n->-1<=out x
 src:∀f,f∈F->out f=0
 edge:∀x y,x<n->(x,y)∈E->0<=out x->x∉queue->¬ex x->0<=out y/\out y<=out x+1
 pos:∀x,x∈queue->x<n/\0<=out x
 sorted:queue.Pairwise fun a b=>out a<=out b/\out b<=out a+1
 done:∀x,x<n->0<=out x->x∉queue->∀y,y∈queue->out x<=out y
 nodup:queue.Nodup
theorem Bf.start(hF:F.Nodup)(hn:∀f,f∈F->f<n)(h0:∀x,x<n->out x=if x∈F then 0 else -1):Bf n E F (fun _=>False) out F:=by
 have hs:∀f,f∈F->out f=0:=fun f hf=>by rw[h0 f (hn f hf),zD hf]
 have hr:∀x,x<n->0<=out x->x∈F:=fun x hx h=>by
  rw[h0 x hx]at h
  split at h
  .assumption
  omega
 refine⟨fun x hx h=>?_,fun x hx=>?_,hs,fun x y hx _ h hq=>absurd (hr x hx h) hq,fun x hx=>⟨hn x hx,by rw[hs x hx];omega⟩,?_,fun x hx h hq=>absurd (hr x hx h) hq,hF⟩
 .rw[hs x (hr x hx h)];exact ES.2 (hr x hx h)
 .rw[h0 x hx];split<;>omega
 exact List.Pairwise.imp_of_mem (R:=fun _ _=>True) (fun ha hb _=>by rw[hs _ ha,hs _ hb];omega) (List.pairwise_of_forall fun _ _=>trivial)
theorem Bf.end(h:Bf n E F (fun _=>False) out [])(hn:∀f,f∈F->f<n)(hE:InN n E){x:Nat}(hx:x<n):out x=rk E F x:=by
 have key:∀k y,Gp E F y k->y<n/\0<=out y/\out y<=k:=by
  intro k
  induction k with
  |zero=>
   intro y hy;have hm:=ES.1 hy;have:=h.src y hm;exact⟨hn y hm,by omega,by omega⟩
  |succ k ih=>
   intro y hy;obtain⟨z,hz,e⟩:=ET.1 hy;obtain⟨a,b,c⟩:=ih z hz;have:=h.edge z y a e b (by simp) (fun h=>h);exact⟨(hE _ e).2,by omega,by omega⟩
 have h1:=h.neg x hx;refine(WF ?_).symm
 by_cases h0:0<=out x
 .refine .inr ⟨(out x).toNat,by omega,h.way x hx h0,fun j hj hw=>?_⟩;have:=key j x hw;omega
 refine .inl ⟨by omega,fun k hk=>?_⟩;have:=key k x hk;omega
theorem Bf.pop{queue:List Nat}(h:Bf n E F (fun _=>False) out (p::queue)):Bf n E F (·=p) out queue/\p<n/\0<=out p/\(∀y,y∈queue->out p<=out y/\out y<=out p+1)/\∀x,x<n->out x<=out p+1:=by
 have hp:=h.pos p (zf ..);have hs:=List.pairwise_cons.1 h.sorted;have hd:=List.nodup_cons.1 h.nodup;refine⟨⟨h.way,h.neg,h.src,fun x y hx e h0 hq d=>h.edge x y hx e h0 (fun hm=>(List.mem_cons.1 hm).elim d hq) (fun h=>h),fun x hx=>h.pos x (zY _ hx),hs.2,fun x hx h0 hq y hy=>?_,hd.2⟩,hp.1,hp.2,fun y hy=>hs.1 y hy,fun x hx=>?_⟩
 .by_cases e:x=p
  .rw[e];exact(hs.1 y hy).1
  exact h.done x hx h0 (fun hm=>(List.mem_cons.1 hm).elim e hq) y (zY _ hy)
 by_cases h0:0<=out x
 .by_cases hm:x∈p::queue
  .rcases List.mem_cons.1 hm with rfl|hm
   .omega
   exact(hs.1 x hm).2
  have:=h.done x hx h0 hm p (zf ..);omega
 omega
structure Bq(n:Nat)(E:List (Nat×Nat))(F:List Nat)(p:Nat)(v:Int)(ns:List Nat)(out:Nat->Int)(queue:List Nat):Prop where
 inv:Bf n E F (·=p) out queue
 cur:out p=v
 here:p<n
 v0:0<=v
 seen:∀y,y∈ns->0<=out y/\out y<=v+1
 rest:∀y,y∈queue->v<=out y/\out y<=v+1
 all:∀x,x<n->out x<=v+1
 off:p∉queue
theorem Bq.start{queue:List Nat}(h:Bf n E F (fun _=>False) out (p::queue)):Bq n E F p (out p) [] out queue:=by
 obtain⟨a,b,c,d,e⟩:=h.pop;exact⟨a,rfl,b,c,fun y hy=>by simp at hy,d,e,(List.nodup_cons.1 h.nodup).1⟩
theorem Bq.skip{v:Int}{ns queue:List Nat}(h:Bq n E F p v ns out queue)(hq:q<n)(h0:0<=out q):Bq n E F p v (ns++[q]) out queue :=
 ⟨h.inv,h.cur,h.here,h.v0,fun y hy=>by
   rcases List.mem_append.1 hy with hy|hy
   .exact h.seen y hy
   rw[List.mem_singleton.1 hy];exact⟨h0,h.all q hq⟩,h.rest,h.all,h.off⟩
theorem Bq.set{v:Int}{ns queue:List Nat}(h:Bq n E F p v ns out queue)(hq:q<n)(e:(p,q)∈E)(h0:out q<0):Bq n E F p v (ns++[q]) (Ea out q (v+1)) (queue++[q]):=by
 have ab:p≠q:=fun c=>by have:=h.cur;have:=h.v0;rw[c]at *;omega
 have ae:q∉queue:=fun c=>by have:=(h.inv.pos q c).2;omega
 have ho:∀x,0<=out x->Ea out q (v+1) x=out x:=fun x hx=>AJ fun c=>by rw[c]at hx;omega
 have hv:=h.v0;refine⟨⟨fun x hx d=>?_,fun x hx=>?_,fun f hf=>?_,fun x y hx e2 d aa af=>?_,fun x hx=>?_,?_,fun x hx d aa y hy=>?_,?_⟩,?_,h.here,h.v0,fun y hy=>?_,fun y hy=>?_,fun x hx=>?_,fun c=>?_⟩
 .by_cases c:x=q
  .rw[c,Bb];have h1:=h.inv.way p h.here (by rw[h.cur];exact hv);rw[h.cur]at h1;have h2:=ET.2 ⟨p,h1,e⟩
   rwa [show v.toNat+1=(v+1).toNat by omega]at h2
  rw[AJ c]at d ⊢;exact h.inv.way x hx d
 .by_cases c:x=q
  .rw[c,Bb];omega
  rw[AJ c];exact h.inv.neg x hx
 .have:=h.inv.src f hf;rw[ho f (by omega)];exact this
 .have c:x≠q:=fun c=>aa (by rw[c];simp);rw[AJ c]at d ⊢;have h1:=h.inv.edge x y hx e2 d (fun c2=>aa (xA _ c2)) af;rw[ho y h1.1];exact h1
 .rcases List.mem_append.1 hx with hx|hx
  .have:=h.inv.pos x hx;rw[ho x this.2];exact this
  rw[List.mem_singleton.1 hx,Bb];exact⟨hq,by omega⟩
 .refine List.pairwise_append.2 ⟨?_,List.pairwise_singleton ..,fun a ha b hb=>?_⟩
  .refine List.Pairwise.imp_of_mem (fun ha hb ad=>?_) h.inv.sorted;rw[ho _ (h.inv.pos _ ha).2,ho _ (h.inv.pos _ hb).2];exact ad
  rw[List.mem_singleton.1 hb,Bb,ho a (h.inv.pos a ha).2];have:=h.rest a ha;omega
 .have c:x≠q:=fun c=>aa (by rw[c];simp);rw[AJ c]at d ⊢
  rcases List.mem_append.1 hy with hy|hy
  .rw[ho y (h.inv.pos y hy).2];exact h.inv.done x hx d (fun c2=>aa (xA _ c2)) y hy
  rw[List.mem_singleton.1 hy,Bb];exact h.all x hx
 .exact List.nodup_append.2 ⟨h.inv.nodup,by simp,fun a ha b hb c=>ae (by rw[<-List.mem_singleton.1 hb,<-c];exact ha)⟩
 .rw[AJ ab];exact h.cur
 .rcases List.mem_append.1 hy with hy|hy
  .have:=h.seen y hy;rw[ho y this.1];exact this
  rw[List.mem_singleton.1 hy,Bb];omega
 .rcases List.mem_append.1 hy with hy|hy
  .have:=h.rest y hy;rw[ho y (h.inv.pos y hy).2];exact this
  rw[List.mem_singleton.1 hy,Bb];omega
 .by_cases c:x=q
  .rw[c,Bb];omega
  rw[AJ c];exact h.all x hx
 rcases List.mem_append.1 c with c|c
 .exact h.off c
 exact ab (List.mem_singleton.1 c)
theorem Bq.end{v:Int}{ns queue:List Nat}(h:Bq n E F p v ns out queue)(d:∀q,(p,q)∈E->q∈ns):Bf n E F (fun _=>False) out queue :=
 ⟨h.inv.way,h.inv.neg,h.inv.src,fun x y hx e aa ab _=>by
   by_cases c:x=p
   .rw[c]at e ⊢;rw[h.cur];exact h.seen y (d y e)
   exact h.inv.edge x y hx e aa ab c,h.inv.pos,h.inv.sorted,h.inv.done,h.inv.nodup⟩
def Fz(n:Nat)(out:Nat->Int):Nat:=((List.range n).filter fun x=>decide (out x<0)).length
theorem KO(hq:q<n)(h0:out q<0){v:Int}(hv:0<=v):Fz n (Ea out q v)+1<=Fz n out:=by
 refine EV (fun x _ hx=>?_) ⟨q,List.mem_range.2 hq,?_,zG h0⟩
 .have h1:=zL hx;refine zG ?_
  by_cases c:x=q
  .rw[c];exact h0
  rwa [AJ c]at h1
 rw[Bb];exact zH (by omega)
end
end Ci
end
section
namespace Ci
section
variable {E:List (Nat×Nat)} {n p q r:Nat} {V V1 V2:Nat->Prop}
def Vis(E:List (Nat×Nat))(p:Nat)(V V':Nat->Prop):Prop :=
 (∀x,V x->V' x)/\V' p/\(∀x,V' x->¬V x->Reach E p x)/\∀x y,V' x->¬V x->(x,y)∈E->V' y
def VisL(E:List (Nat×Nat))(p:Nat)(ns:List Nat)(V V':Nat->Prop):Prop :=
 (∀x,V x->V' x)/\V' p/\(∀x,V' x->¬V x->Reach E p x)/\(∀x y,V' x->¬V x->x≠p->(x,y)∈E->V' y)/\∀y,y∈ns->V' y
theorem Vis.had(h:V p):Vis E p V V:=⟨fun _ h=>h,h,fun _ a b=>absurd a b,fun _ _ a b=>absurd a b⟩
theorem VisL.start(E : List (Nat × Nat))(p : Nat)(V : Nat -> Prop): VisL E p [] V fun x=>V x\/x=p :=
 ⟨fun _ h => .inl h, .inr rfl, fun x a b => by rcases a with a|rfl
                                               .exact absurd a b
                                               exact .refl _, fun x y a b c => by rcases a with a|a
                                                                                  .exact absurd a b
                                                                                  exact absurd a c,fun y hy=>by simp at hy⟩
theorem VisL.step{ns:List Nat}(h:VisL E p ns V V1)(e:(p,q)∈E)(h2:Vis E q V1 V2):VisL E p (ns++[q]) V V2:=by
 obtain⟨a1,a2,a3,a4,a5⟩:=h;obtain⟨b1,b2,b3,b4⟩:=h2;refine⟨fun x hx=>b1 x (a1 x hx),b1 p a2,fun x hx hv=>?_,fun x y hx hv hp he=>?_,fun y hy=>?_⟩
 .by_cases c:V1 x
  .exact a3 x c hv
  exact(Reach.one e).trans (b3 x hx c)
 .by_cases c:V1 x
  .exact b1 y (a4 x y c hv hp he)
  exact b4 x y hx c he
 rcases List.mem_append.1 hy with hy|hy
 .exact b1 y (a5 y hy)
 rw[List.mem_singleton.1 hy];exact b2
theorem VisL.end{ns:List Nat}(h:VisL E p ns V V1)(d:∀q,(p,q)∈E->q∈ns):Vis E p V V1:=by
 obtain⟨a1,a2,a3,a4,a5⟩:=h;refine⟨a1,a2,a3,fun x y hx hv he=>?_⟩
 by_cases c:x=p
 .rw[c]at he;exact a5 y (d y he)
 exact a4 x y hx hv c he
theorem Vis.reach(h:Vis E p (fun _=>False) V1)(x:Nat):V1 x<->Reach E p x:=by
 obtain⟨_,a2,a3,a4⟩:=h;exact⟨fun hx=>a3 x hx fun h=>h,fun hr=>hr.closed a2 fun a b ha he=>a4 a b ha (fun h=>h) he⟩
open Classical
theorem FL(k:Nat):ord E k []=[]:=by cases k<;>simp[ord,Fj]
theorem KP:∀(k j:Nat)(left:List Nat),Left n E left->left.length<=k->left.length<=j->ord E k left=ord E j left:=by
 intro k
 induction k with
 |zero=>
  intro j left _ hk _;rw[List.length_eq_zero_iff.1 (Nat.le_zero.1 hk),FL,FL]
 |succ k ih=>
  intro j left h hk hj
  by_cases hne:left=[]
  .rw[hne,FL,FL]
  obtain⟨p,hp⟩:=Hk h hne;obtain⟨h1,h2,_⟩:=Cw h hp;have h3:=xw h1;obtain⟨j,rfl⟩:∃i,j=i+1:=⟨j-1,by omega⟩;have h4:=yh h1
  conv=>lhs;unfold ord;rw[hp]
  conv=>rhs;unfold ord;rw[hp]
  dsimp only;rw[ih j _ (h.erase h1 h2) (by omega) (by omega)]
structure Stage(n:Nat)(E:List (Nat×Nat))(pre left:List Nat):Prop where
 ok:Left n E left
 all:∀x,x<n->(fst E x∈pre<->fst E x∉left)
 had:∀x,x∈pre->x<n/\fst E x=x/\x∉left
 eq:ords n E=pre++ord E left.length left
theorem Cx:(leasts n E).length<=n:=by
 have:=zr (fun p=>decide (fst E p=p)) (List.range n);rw[yZ]at this;exact this
theorem Stage.start(hE:InN n E):Stage n E [] (leasts n E) :=
 ⟨Left.start hE,fun x hx=>⟨fun h=>by simp at h,fun h=>absurd (Bz.2 ⟨Gq hx,FK⟩) h⟩,fun x hx=>by simp at hx,by
   rw[yT];exact KP _ _ _ (Left.start hE) Cx (zB _)⟩
theorem Stage.step{pre left:List Nat}(h:Stage n E pre left)(hp:Fj E left=some p):Stage n E (pre++[p]) (left.erase p):=by
 obtain⟨h1,h2,_⟩:=Cw h.ok hp;have hd:=h.ok.nodup;refine⟨h.ok.erase h1 h2,fun x hx=>?_,fun x hx=>?_,?_⟩
 .rw [hd.mem_erase_iff,yQ,h.all x hx,ym];constructor
  .rintro(c|c)
   .exact fun c2=>c c2.2
   exact fun c2=>c2.1 c
  intro c
  by_cases c2:fst E x=p
  .exact .inr c2
  exact .inl fun c3=>c ⟨c2,c3⟩
 .rcases List.mem_append.1 hx with hx|hx
  .obtain⟨a,b,c⟩:=h.had x hx;exact⟨a,b,fun d=>c (List.mem_of_mem_erase d)⟩
  rw[List.mem_singleton.1 hx];exact⟨(h.ok.own p h1).1,(h.ok.own p h1).2,fun d=>(hd.mem_erase_iff.1 d).1 rfl⟩
 have h3:=xw h1;have h4:=yh h1;rw[h.eq,xT]
 congr 1
 obtain⟨k,hk⟩:∃k,left.length=k+1:=⟨left.length-1,by omega⟩;rw[hk]
 conv=>lhs;unfold ord;rw[hp]
 dsimp only;rw[KP k _ _ (h.ok.erase h1 h2) (by omega) (zB _)];rfl
theorem Stage.end{pre:List Nat}(h:Stage n E pre []):ords n E=pre:=by
 have:=h.eq
 rwa [FL,xN]at this
theorem KQ{left:List Nat}(hE:InN n E):Fy E left p<->∀q,q∈CL n E p->∀h,(h,q)∈E->fst E h∈left->fst E h=p:=by
 constructor
 .exact fun h q hq x e hl=>h x q (CF.1 hq).2 e hl
 exact fun h x q hm e hl=>h q (CF.2 ⟨(hE _ e).2,hm⟩) x e hl
end
end Ci
end
section
open Go.RowKit
namespace Nt
theorem GI(w:World)(k:Nat):Below w.heap.size w (w.drewN k):=⟨rfl,rfl,rfl,zB _,fun _ _=>rfl⟩
theorem Hs(w:World)(os:Array Obj):Below w.heap.size w (Sort.grow w os) :=
 ⟨rfl,rfl,rfl,by simp[Sort.grow],fun k hk=>by simp[Sort.grow,Array.getElem?_append,hk]⟩
structure Env(w:World):Prop where
 tab:Lib.TabIs prog w "internal/strconv.uint64pow10" .u64 Lib.pow10Tab
 syn:∃tp p, w.var? prog "strconv.ErrSyntax"=some #[.iface tp p]
 rng:∃tp p, w.var? prog "strconv.ErrRange"=some #[.iface tp p]
theorem NN:prog.globalNamed "internal/strconv.uint64pow10"=some 2 := by kernel_rfl
theorem Q8:prog.globalNamed "strconv.ErrSyntax"=some 0 := by kernel_rfl
theorem Q9:prog.globalNamed "strconv.ErrRange"=some 1 := by kernel_rfl
theorem JU{w:World}{n:String}{g:Nat}{cs:Array Value}(hg:prog.globalNamed n=some g)(h:w.var? prog n=some cs):g<w.heap.size:=by
 unfold World.var? at h;simp only[hg,Option.bind_some]at h
 by_cases hlt:g<w.heap.size
 .exact hlt
 rw[Array.getElem?_eq_none (by omega)]at h;simp at h
theorem Env.below{w w':World}(h:Env w)(hb:Below w.heap.size w w'):Env w':=by
 obtain⟨h1,⟨t2,p2,h2⟩,t3,p3,h3⟩:=h;exact⟨var?_below hb NN (JU NN h1) h1,⟨t2,p2,var?_below hb Q8 (JU Q8 h2) h2⟩,⟨t3,p3,var?_below hb Q9 (JU Q9 h3) h3⟩⟩
theorem Env.pos{w:World}(h:Env w):0<w.heap.size:=by have:=JU NN h.tab;omega
theorem QA(n:Int)(h0:-9223372036854775808<=n)(h1:n<=9223372036854775807)(w:World)(d:Lib.TabIs prog w "internal/strconv.uint64pow10" .u64 Lib.pow10Tab):
 Calls prog 107 #[.int .i64 n] w fun e w'=>e=.returned (.string ⟨(Lib.itoa n).toArray⟩)/\Below w.heap.size w w':=by
 refine(Tryz.strconv_Itoa n h0 h1 w d).mono ?_;rintro e w' ⟨rfl,k,os,rfl⟩;exact⟨rfl,(GI w k).trans (Hs (w.drewN k) os)⟩
theorem JV(s:ByteArray)(d:s.size<=1000000)(u:Nat)(h:Lib.parseUintB 64 s.data.toList=.ok u)(w:World):
 Calls prog 153 #[.string s,.int .i64 10,.int .i64 64] w fun e w'=>e=.returned (.tuple #[.int .u64 u,.nilIface])/\Below w.heap.size w w':=by
 refine(Tryz.strconv_ParseUint_10_at64_ok s (by omega) u h w).mono ?_;rintro e w' ⟨rfl,rfl|rfl⟩
 .exact⟨rfl,zI _ _⟩
 exact⟨rfl,Go.Joins.below_bytesWorld _ _ _ _ (zB _)⟩
theorem KR(s:ByteArray)(w:World)(hs:s.size<=9223372036854775807):
 Calls prog 152 #[.string s,.string ⟨#[48,49,50,51,52,53,54,55,56,57]⟩] w fun e w'=>e=.returned (.string ⟨(Lib.trimS s.data.toList [48,49,50,51,52,53,54,55,56,57]).toArray⟩)/\Below w.heap.size w w' :=
 Any.strings_Trim_laid Tryz.lays160 (by kernel_rfl) s ⟨#[48,49,50,51,52,53,54,55,56,57]⟩ w hs (by decide) (ascii_of_all (by decide))
theorem D8(B b:Nat)(bs:List Value)(s:ByteArray)(w:World)(h:Lib.IsBuilderF 217 5 B b bs w)(d:bs.length+s.size<=140737488355328)(aa:B<=w.heap.size):
 Calls prog 161 #[.pointer (some ⟨b,0,none⟩),.string s] w fun e w'=>e=.returned (.tuple #[.int .i64 s.size,.nilIface])/\(Lib.IsBuilderF 217 5 B b (bs++Lib.strCells s) w'/\Below B w w'/\Lib.OthersKept 5 (some b) w w'):=by
 refine(Any.Builder_WriteString_k { Tryz.lays105 with } Tryz.Builder_Extra_105 B b bs s w h d aa).q fun w' ⟨h1,h2⟩=>?_;exact⟨rfl,.inr h1,h2⟩
def lv:List Nat->Nat
 | []=>0
 |x::xs=>x+1000000000*lv xs
def lim(xs:List Nat)(i:Nat):Nat:=xs.getD i 0
def WI:Value->Nat
 |.slice _ n _=>n
 |_=>0
def Canon(xs:List Nat):Prop:=(∀x∈xs,x<1000000000)/\xs.getLast?≠some 0
theorem CX(xs ys:List Nat):lv (xs++ys)=lv xs+1000000000^xs.length*lv ys:=by
 induction xs with
 |nil=>simp[lv]
 |cons x xs ih=>
  simp only[yi,lv,ih,zZ,yY,xR];rw[yN (1000000000^xs.length) 1000000000,yf];omega
def Sl(w:World)(v:Value)(xs:List Nat):Prop :=
 ∃ a cap,v=.slice a xs.length cap/\(a=none->xs=[]/\cap=0) /\
  ∀ad,a=some ad->ad.spot=none/\ad.block<w.heap.size/\xs.length<=cap/\∀i,i<xs.length->w.cell? ⟨ad.block,ad.off+i,none⟩=some (.int .u64 (lim xs i))
theorem Sl.shape{w:World}{v:Value}{xs:List Nat}(h:Sl w v xs):
 (xs=[]/\v=.slice none 0 0) \/
 ∃b off cap,v=.slice (some ⟨b,off,none⟩) xs.length cap/\b<w.heap.size/\xs.length<=cap/\∀i,i<xs.length->w.cell? ⟨b,off+i,none⟩=some (.int .u64 (lim xs i)):=by
 obtain⟨a,cap,rfl,hn,hs⟩:=h
 cases a with
 |none=>exact .inl ⟨(hn rfl).1,by rw[(hn rfl).1,(hn rfl).2];rfl⟩
 |some ad=>
  obtain⟨aa,hb,d,hc⟩:=hs ad rfl;obtain⟨b,off,sp⟩:=ad
  cases aa
  exact .inr ⟨b,off,cap,rfl,hb,d,hc⟩
theorem Sl.addr{w:World}{v:Value}{xs:List Nat}(h:Sl w v xs):
 ∃a cap,v=.slice a xs.length cap/\(xs≠[]->∃b off,a=some ⟨b,off,none⟩/\b<w.heap.size/\∀i,i<xs.length->w.cell? ⟨b,off+i,none⟩=some (.int .u64 (lim xs i))):=by
 obtain⟨a,cap,rfl,hn,hs⟩:=h;refine⟨a,cap,rfl,fun d=>?_⟩
 cases a with
 |none=>exact absurd (hn rfl).1 d
 |some ad=>
  obtain⟨aa,hb,ab,hc⟩:=hs ad rfl;obtain⟨b,off,sp⟩:=ad
  cases aa
  exact⟨b,off,rfl,hb,hc⟩
theorem Sl.mk{w:World}{b off cap:Nat}{xs:List Nat}(hb:b<w.heap.size)(d:xs.length<=cap)
 (hc:∀i,i<xs.length->w.cell? ⟨b,off+i,none⟩=some (.int .u64 (lim xs i))):Sl w (.slice (some ⟨b,off,none⟩) xs.length cap) xs :=
 ⟨some ⟨b,off,none⟩,cap,rfl,(fun h=>by cases h),(fun ad h=>by cases h;exact⟨rfl,hb,d,hc⟩)⟩
theorem Sl.nil(w:World):Sl w (.slice none 0 0) []:=⟨none,0,rfl,(fun _=>⟨rfl,rfl⟩),(fun ad h=>by cases h)⟩
theorem Sl.below{w w':World}{v:Value}{xs:List Nat}(h:Sl w v xs)(hb:Below w.heap.size w w'):Sl w' v xs:=by
 obtain⟨a,cap,rfl,hn,hs⟩:=h;refine⟨a,cap,rfl,hn,fun ad e=>?_⟩;obtain⟨h1,h2,h3,h4⟩:=hs ad e;exact⟨h1,zJ h2 hb.size,h3,fun i hi=>(hb.cell (p:=⟨ad.block,ad.off+i,none⟩) h2).trans (h4 i hi)⟩
def From(B:Nat):Value->Prop
 |.slice (some ad) _ _=>B<=ad.block
 |_=>True
def Trimmed(xs:List Nat)(k:Nat):Prop:=k<=xs.length/\(∀j,k<=j->j<xs.length->lim xs j=0)/\(0<k->lim xs (k-1)≠0)
theorem Ht(xs:List Nat)(h:∀j,j<xs.length->lim xs j=0):lv xs=0:=by
 induction xs with
 |nil=>rfl
 |cons x xs ih=>
  have h0:=h 0 (by simp);have:=ih (fun j hj=>by have:=h (j+1) (by simp;omega);simpa [lim] using this);simp[lim]at h0;simp[lv,h0,this]
theorem QC(xs:List Nat)(k i:Nat)(h:i<k):lim (xs.take k) i=lim xs i:=by
 simp[lim,h]
theorem QD(xs:List Nat)(k i:Nat):lim (xs.drop k) i=lim xs (k+i):=by
 simp[lim,List.getElem?_drop]
theorem F0(xs:List Nat)(i:Nat)(h:i<xs.length):lim xs i=xs[i]:=by
 simp[lim,h]
theorem Trimmed.lv{xs:List Nat}{k:Nat}(h:Trimmed xs k):lv (xs.take k)=lv xs:=by
 obtain⟨h1,h2,_⟩:=h;have e:xs=xs.take k++xs.drop k:=(yo k xs).symm;have:Nt.lv (xs.drop k)=0:=Ht _ (fun j hj=>by rw[QD];simp at hj;exact h2 _ (by omega) (by omega))
 conv=>rhs;rw[e]
 rw[CX,this];simp
theorem Trimmed.canon{xs:List Nat}{k:Nat}(h:Trimmed xs k)(hr:∀x∈xs,x<1000000000):Canon (xs.take k):=by
 obtain⟨h1,h2,h3⟩:=h;refine⟨fun x hx=>hr x (yC hx),?_⟩;rw[List.getLast?_eq_getElem?]
 by_cases hk:k=0
 .subst hk;simp
 have d:(xs.take k).length=k:=by simp;omega
 rw[d];have:=h3 (by omega);rw[F0 _ _ (by omega)]at this;rw[List.getElem?_take,zD (by omega),zj (by omega)];intro e;exact this (Option.some.inj e)
def Row(t:TypeId)(w:World)(g:Nat)(zs:List Nat):Prop :=
 w.heap[g]? = some (.cells (zs.map fun x:Nat=>Value.int .u64 (x:Int)).toArray t (0,0))
theorem Row.lt{t:TypeId}{w:World}{g:Nat}{zs:List Nat}(h:Row t w g zs):g<w.heap.size :=
 (Array.getElem?_eq_some_iff.1 h).1
theorem Row.cell{t:TypeId}{w:World}{g:Nat}{zs:List Nat}(h:Row t w g zs){i:Nat}(hi:i<zs.length):
 w.cell? ⟨g,i,none⟩=some (.int .u64 (lim zs i)):=by
 unfold Row at h;simp only[World.cell?,h];simp[lim,hi]
theorem Row.frozen{t:TypeId}{w:World}{g:Nat}{zs:List Nat}(h:Row t w g zs)(i:Nat):w.frozen? ⟨g,i,none⟩=false:=by
 unfold Row at h;simp[World.frozen?,h]
theorem Row.set{t:TypeId}{w:World}{g:Nat}{zs:List Nat}(h:Row t w g zs)(i:Nat)(y:Nat):
 Row t (w.setCell ⟨g,i,none⟩ (.int .u64 (y:Int))) g (zs.set i y):=by
 unfold Row at h ⊢;simp only[World.setCell,xH,h];simp[List.map_set]
theorem KS(n:Nat):madeCells #[.int .u64 0] n=((List.replicate n 0).map fun x:Nat=>Value.int .u64 (x:Int)).toArray:=by
 unfold madeCells;apply Array.ext
 .simp
 intro i h1 h2;have e:i%1=0:=vW i;simp[e]
theorem Row.made0(t:TypeId)(w:World)(n:Nat):Row t (w.alloc (.cells (madeCells #[.int .u64 0] n) t)) w.heap.size (List.replicate n 0):=by
 unfold Row;rw[yR,KS]
theorem Row.sl{t:TypeId}{w:World}{g:Nat}{zs:List Nat}(h:Row t w g zs):Sl w (.slice (some ⟨g,0,none⟩) zs.length zs.length) zs :=
 Sl.mk h.lt (zB _) (fun i hi=>by rw[yE];exact h.cell hi)
def lo(xs:List Nat)(k:Nat):Nat:=lv (xs.take k)
theorem Gs(xs:List Nat)(i:Nat)(h:xs.length<=i):lim xs i=0:=by
 simp[lim,h]
theorem Ca(xs:List Nat)(k:Nat):lo xs (k+1)=lo xs k+1000000000^k*lim xs k:=by
 unfold lo
 by_cases h:k<xs.length
 .rw[zO h,CX];simp only[lv,yt,Nat.min_eq_left (xW h),F0 _ _ h,vY,ya]
 rw[xE (by omega),xE (by omega),Gs _ _ (by omega)];simp
theorem Dz(xs:List Nat):lo xs 0=0:=by simp[lo,lv]
theorem D9(xs:List Nat)(k:Nat)(h:xs.length<=k):lo xs k=lv xs:=by
 unfold lo;rw[xE h]
theorem V0(xs:List Nat)(k y:Nat):lo (xs.set k y) k=lo xs k:=by
 unfold lo;rw[List.take_set_of_le (zB _)]
theorem TG(xs:List Nat)(k y:Nat)(h:k<xs.length):lim (xs.set k y) k=y:=by
 simp[lim,h]
theorem F1(xs:List Nat)(k j y:Nat)(h:j≠k):lim (xs.set k y) j=lim xs j:=by
 simp[lim,Ne.symm h]
theorem EW(n j:Nat):lim (List.replicate n 0) j=0:=by
 by_cases h:j<n
 .simp[lim,h]
 exact Gs _ _ (by simp;omega)
def InR(xs:List Nat):Prop:=∀x∈xs,x<1000000000
theorem InR.lim{xs:List Nat}(h:InR xs)(i:Nat):lim xs i<1000000000:=by
 by_cases hi:i<xs.length
 .rw[F0 _ _ hi];exact h _ (zN hi)
 rw[Gs _ _ (by omega)];omega
theorem InR.set{xs:List Nat}(h:InR xs)(k y:Nat)(hy:y<1000000000):InR (xs.set k y):=by
 intro x hx
 rcases List.mem_or_eq_of_mem_set hx with h' | rfl
 .exact h x h'
 exact hy
theorem InR.zeros(n:Nat):InR (List.replicate n 0):=by
 intro x hx;rw[List.eq_of_mem_replicate hx];omega
theorem KT{xs:List Nat}(h:InR xs):lv xs<1000000000^xs.length:=by
 induction xs with
 |nil=>simp[lv]
 |cons x xs ih=>
  have h1:=h x (by simp);have h2:=ih (fun y hy=>h y (by simp[hy]));simp only[lv,zZ,yY];generalize 1000000000^xs.length=B at *;omega
theorem Vf{xs:List Nat}(h:InR xs)(k:Nat):lo xs k<1000000000^k:=by
 have:=KT (xs:=xs.take k) (fun x hx=>h x (yC hx));unfold lo;have h2:(xs.take k).length<=k:=by simp;omega
 exact zJ this (zi (by omega) h2)
theorem Canon.ge{xs:List Nat}(h:Canon xs)(h0:xs≠[]):1000000000^(xs.length-1)<=lv xs:=by
 obtain⟨ys,y,rfl⟩:∃ys y,xs=ys++[y]:=⟨xs.dropLast,xs.getLast h0,(List.dropLast_concat_getLast h0).symm⟩;have hy:y≠0:=by have:=h.2;simp at this;exact this
 rw[CX];simp only[zV,zZ,ye,lv];have:1000000000^ys.length*1<=1000000000^ys.length*(y+1000000000*0):=xP _ (by omega);simp at this ⊢;omega
theorem Canon.len_le{xs:List Nat}(h:Canon xs){k:Nat}(hk:lv xs<1000000000^k):xs.length<=k:=by
 by_cases h0:xs=[]
 .simp[h0]
 have:=h.ge h0;have h1:1000000000^(xs.length-1)<1000000000^k:=by omega
 have:=(Nat.pow_lt_pow_iff_right (by omega:1<1000000000)).1 h1;omega
theorem Canon.len_mono{xs ys:List Nat}(h:Canon xs)(hy:Canon ys)(d:lv xs<=lv ys):xs.length<=ys.length :=
 h.len_le (yA d (KT hy.1))
def Cd(xs:List Nat):List Value:=xs.map fun x:Nat=>Value.int .u64 (x:Int)
def Own(t:TypeId)(B:Nat)(w:World)(v:Value)(n:Nat)(xs:List Nat):Prop:=w.ownsRow B t 1 v n (Cd xs)
theorem F3(xs:List Nat)(x:Nat):Cd xs++[Value.int .u64 (x:Int)]=Cd (xs++[x]):=by simp[Cd]
theorem Own.len{t:TypeId}{B:Nat}{w:World}{v:Value}{n:Nat}{xs:List Nat}(h:Own t B w v n xs):xs.length=n:=by
 have:=h.1
 simpa [Cd] using this
theorem Own.sl{t:TypeId}{B:Nat}{w:World}{v:Value}{n:Nat}{xs:List Nat}(h:Own t B w v n xs):Sl w v xs:=by
 have hl:=h.len;subst hl
 rcases h.2 with⟨rfl,h0⟩|⟨g,cap,cur,rfl,hg,hh,hn,d,aa,ht⟩
 .have:xs=[]:=List.length_eq_zero_iff.1 h0;subst this;exact Sl.nil _
 refine Sl.mk (Array.getElem?_eq_some_iff.1 hh).1 hn (fun i hi=>?_);have:=World.ownsRow.cellAt h i (by omega);rw[yE,this];simp[Cd,lim,hi]
theorem Own.from{t:TypeId}{B:Nat}{w:World}{v:Value}{n:Nat}{xs:List Nat}(h:Own t B w v n xs):From B v:=by
 rcases h.2 with⟨rfl,h0⟩|⟨g,cap,cur,rfl,hg,_⟩
 .trivial
 exact hg
theorem Own.below{t:TypeId}{B:Nat}{w w':World}{v:Value}{n:Nat}{xs:List Nat}(h:Own t B w v n xs)(hb:Below w.heap.size w w'):Own t B w' v n xs:=by
 obtain⟨h1,h2⟩:=h;refine⟨h1,?_⟩
 rcases h2 with h2|⟨g,cap,cur,hv,hg,hh,r⟩
 .exact Or.inl h2
 exact Or.inr ⟨g,cap,cur,hv,hg,by rw[hb.block g (Array.getElem?_eq_some_iff.1 hh).1];exact hh,r⟩
theorem D1(w:World)(v:Value)(t:TypeId):∀j u,[v][j]? = some u->(w.alloc (.cells #[v] t)).cell? (Addr.add ⟨w.heap.size,0,none⟩ j)=some u:=by
 intro j u hj
 match j,hj with
 |0,hj=>
  simp at hj;subst hj;simp[Addr.add]
theorem Di(k:IntKind)(x:Int):∀u∈[Value.int k x],u.oneCell'=true:=by
 intro u hu;simp at hu;subst hu;rfl
def BM(n:Nat):Prop:=n<1000000000^200
theorem Mi(zs:List Nat)(p y:Nat)(h:p<zs.length):lv (zs.set p y)+1000000000^p*lim zs p=lv zs+1000000000^p*y:=by
 induction zs generalizing p with
 |nil=>simp at h
 |cons z zs ih=>
  cases p with
  |zero=>simp[lv,lim];omega
  |succ p=>
   have:=ih p (by simpa using h);have e:lim (z::zs) (p+1)=lim zs p:=by simp[lim]
   rw[e];simp only[zE,lv,yY];rw[yN (1000000000^p) 1000000000,yf,yf];omega
def Num(w:World)(v:Value)(n:Nat):Prop:=∃xs,Canon xs/\lv xs=n/\Sl w v xs
theorem Num.below{w w':World}{v:Value}{n:Nat}(h:Num w v n)(hb:Below w.heap.size w w'):Num w' v n:=by
 obtain⟨xs,h1,h2,h3⟩:=h;exact⟨xs,h1,h2,h3.below hb⟩
def AO(l:List UInt8):Nat:=l.foldl (fun a c=>a*10+(c.toNat-48)) 0
def CG(c:UInt8):Prop:=48<=c.toNat/\c.toNat<=57
theorem Mj(l:List UInt8)(a:Nat):l.foldl (fun a c=>a*10+(c.toNat-48)) a=a*10^l.length+AO l:=by
 induction l generalizing a with
 |nil=>simp[AO]
 |cons c l ih=>
  simp only[List.foldl_cons,zZ,AO];rw[ih,ih (0*10+(c.toNat-48)),yY,xv,yE,yS,yf,yN 10];omega
theorem CH(l m:List UInt8):AO (l++m)=AO l*10^m.length+AO m:=by
 unfold AO;rw[List.foldl_append,Mj];rfl
theorem FM:AO []=0:=rfl
theorem DF(c:UInt8)(l:List UInt8):AO (c::l)=(c.toNat-48)*10^l.length+AO l:=by
 rw[show c::l=[c]++l from rfl,CH];simp[AO]
theorem Hl{l:List UInt8}(h:∀c∈l,CG c):AO l<10^l.length:=by
 induction l with
 |nil=>simp[AO]
 |cons c l ih=>
  have h1:=h c (by simp);have h2:=ih (fun d hd=>h d (by simp[hd]));rw[DF,zZ,yY];have h3:(c.toNat-48)*10^l.length<=9*10^l.length:=yv _ (by have:=h1.2;omega);omega
theorem KU{l:List UInt8}(h:∀c∈l,CG c)(h0:l≠[])(hl:l.length<=9):Lib.parseUintB 64 l=.ok (AO l):=by
 have key:∀(m:List UInt8)(a:Nat),(∀c∈m,CG c)->a*10^m.length+10^m.length<=1000000000->Lib.parseUintM (2^64-1) a m=.ok (a*10^m.length+AO m):=by
  intro m
  induction m with
  |nil=>intro a _ _;simp[Lib.parseUintM,AO]
  |cons c m ih=>
   intro a hm hb;have h1:=hm c (by simp);rw[zZ,yY]at hb;have hp:0<10^m.length:=vG (by omega)
   have ha:a*10^m.length<=100000000:=by
    rw[<-yf]at hb;omega
   have aa:a<=100000000:=zS (vJ a hp) ha;have hc:=h1.2;unfold Lib.parseUintM;rw[zD (show 48<=c.toNat/\c.toNat<=57 from h1),zC (by omega),zC (by omega),ih _ (fun d hd=>hm d (by simp[hd])) ?_]
   .rw[DF,zZ,yY,yS,yf,yN 10]
    congr 1;omega
   have h3:(c.toNat-48)*10^m.length<=9*10^m.length:=yv _ (by omega);have h4:a*(10^m.length*10)=a*10*10^m.length:=by rw[yN (10^m.length),yf]
   rw[yS];omega
 unfold Lib.parseUintB;rw[zC h0,key l 0 h ?_]
 .rw[xv,yE]
 rw[xv,yE];exact zS (zi (by omega) hl) (by decide)
theorem CY(d:Nat)(h:d<10):(UInt8.ofNat (48+d)).toNat=48+d:=by
 rw[UInt8.toNat_ofNat'];omega
theorem BI(u:Nat):∀c∈Lib.decDigits u,CG c:=by
 induction u using Nat.strongRecOn with
 |_ u ih=>
  rw[Lib.decDigits]
  split
  .intro c hc;simp only[yW,yK,xy]at hc;subst hc;unfold CG;rw[CY _ (by omega)];omega
  intro c hc
  rcases List.mem_append.1 hc with h|h
  .exact ih (u/10) (by omega) c h
  simp only[yW,yK,xy]at h;subst h;unfold CG;rw[CY _ (by omega)];omega
theorem AK(u:Nat):AO (Lib.decDigits u)=u:=by
 induction u using Nat.strongRecOn with
 |_ u ih=>
  rw[Lib.decDigits]
  split
  .simp only[AO,List.foldl_cons,List.foldl_nil,CY u (by omega)];omega
  rw[CH,ih (u/10) (by omega)];simp only[zZ,ye,AO,List.foldl_cons,List.foldl_nil,CY _ (vF u (show 0<10 by omega))];omega
theorem BF(u:Nat):Lib.decDigits u≠[]:=by
 rw[Lib.decDigits]
 split<;>simp
theorem GJ(l m:List UInt8)(h:l≠[]):(l++m).head? = l.head?:=by
 cases l with
 |nil=>exact absurd rfl h
 |cons a l=>rfl
theorem E1(u:Nat)(h:0<u):(Lib.decDigits u).head?≠some 48:=by
 induction u using Nat.strongRecOn with
 |_ u ih=>
  rw[Lib.decDigits]
  split
  .intro e;simp only[List.head?_cons,Option.some.injEq]at e;have:=congrArg UInt8.toNat e;rw[CY _ (by omega)]at this;simp at this;omega
  rw[GJ _ _ (BF _)];exact ih (u/10) (by omega) (by omega)
theorem E2:∀(n:Nat)(l:List UInt8),l.length=n->l≠[]->(∀c∈l,CG c)->(l.length=1\/l.head?≠some 48)->Lib.decDigits (AO l)=l:=by
 intro n
 induction n with
 |zero=>intro l hl h0;exact absurd (List.length_eq_zero_iff.1 hl) h0
 |succ n ih=>
  intro l hl h0 hd hh;obtain⟨m,c,rfl⟩:∃m c,l=m++[c]:=⟨l.dropLast,l.getLast h0,(List.dropLast_concat_getLast h0).symm⟩;have hc:=hd c (by simp)
  have ab:UInt8.ofNat (48+(c.toNat-48))=c:=by
   apply UInt8.toNat_inj.1;rw[CY _ (by have:=hc.2;omega)];have:=hc.1;omega
  have hv:AO (m++[c])=AO m*10+(c.toNat-48):=by rw[CH];simp[AO]
  have ae:c.toNat-48<10:=by have:=hc.2;omega
  cases m with
  |nil=>
   rw[hv];simp only[FM,xv,yE,yT];rw[vQ ae,ab]
  |cons a m=>
   have ad:(a::m).length=n:=by simp at hl ⊢;omega
   have aa:a≠48:=by
    rcases hh with h|h
    .simp at h
    simpa using h
   have ha:=hd a (by simp)
   have af:0<AO (a::m):=by
    rw[DF]
    have h1:1<=a.toNat-48:=by
     have:a.toNat≠48:=fun e=>aa (UInt8.toNat_inj.1 e);have:=ha.1;omega
    have h2:1*10^m.length<=(a.toNat-48)*10^m.length:=yv _ h1;have h3:0<10^m.length:=vG (by omega);omega
   have hi:=ih (a::m) ad (by simp) (fun d h=>hd d (by simp at h ⊢;rcases h with h|h<;>simp[h])) (.inr (by simpa using aa));rw[hv,Lib.decDigits,dif_neg (by omega),show (AO (a::m)*10+(c.toNat-48))/10=AO (a::m) by omega,show (AO (a::m)*10+(c.toNat-48))%10=c.toNat-48 by omega,hi,ab]
theorem Mk(n:Nat)(l:List UInt8):AO (List.replicate n 48++l)=AO l:=by
 induction n with
 |zero=>simp
 |succ n ih=>rw[List.replicate_succ,yi,DF,ih];simp
theorem CC{u k:Nat}(h:u<10^k)(hk:0<k):(Lib.decDigits u).length<=k:=by
 induction k generalizing u with
 |zero=>omega
 |succ k ih=>
  rw[Lib.decDigits]
  split
  .simp
  rename_i h10;have hu:u/10<10^k:=by rw[yY]at h;omega
  have d:0<k:=by
   rcases xK k with e|e
   .subst e;simp at h;omega
   exact e
  have:=ih hu d;simp;omega
theorem D2(u k:Nat)(hk:0<k):(Lib.decDigits u).length<=k<->u<10^k:=by
 constructor
 .intro h;have h1:=Hl (BI u);rw[AK]at h1;exact zJ h1 (zi (by omega) h)
 intro h;exact CC h hk
def KV(x:Nat):List UInt8:=List.replicate (9-(Lib.decDigits x).length) 48++Lib.decDigits x
theorem KW{x:Nat}(h:x<1000000000):(KV x).length=9:=by
 have:=CC (k:=9) (u:=x) (by simpa using h) (by omega);simp[KV];omega
theorem Hu(u x:Nat)(hu:0<u)(hx:x<1000000000):Lib.decDigits (u*1000000000+x)=Lib.decDigits u++KV x:=by
 have hl:=KW hx
 have hv:AO (Lib.decDigits u++KV x)=u*1000000000+x:=by
  rw[CH,hl,AK,KV,Mk,AK]
 rw[<-hv];refine E2 _ _ rfl (by simp[BF]) ?_ (.inr ?_)
 .intro c hc
  rcases List.mem_append.1 hc with h|h
  .exact BI u c h
  rcases List.mem_append.1 h with h|h
  .rw[List.eq_of_mem_replicate h];exact⟨by decide,by decide⟩
  exact BI x c h
 rw[GJ _ _ (BF _)];exact E1 u hu
end Nt
end
section
open Go.RowKit Go.Shelf
namespace Nt
def TH(l:List UInt8):Bool:=!l.isEmpty&&(decide (l.length<=300)&&(l.all (fun c=>decide (48<=c.toNat/\c.toNat<=57))&&(decide (l.length=1)||decide (l.head?≠some 48))))
def isN(s:ByteArray):Bool:=TH s.data.toList
def num(n:Nat):ByteArray:=⟨(Lib.decDigits n).toArray⟩
@[irreducible] def mxd:Nat:=300
theorem E3:mxd=300:=by unfold mxd;rfl
def Lim:Nat:=10^mxd
def Gt:List UInt8:=[48,49,50,51,52,53,54,55,56,57]
theorem DG(l:List UInt8):TH l=true<->l≠[]/\l.length<=300/\(∀c∈l,CG c)/\(l.length=1\/l.head?≠some 48):=by
 unfold TH CG;simp
theorem JW{n:Nat}(h:n<Lim):isN (num n)=true:=by
 unfold isN num;rw[DG];refine⟨BF n,by rw[<-E3];exact CC (k:=mxd) h (by rw[E3];omega),BI n,?_⟩
 rcases xK n with e|e
 .subst e;left;rw[vQ (by omega)];rfl
 right;exact E1 n e
theorem Cc{s:ByteArray}(h:isN s=true):∃n,n<Lim/\s=num n:=by
 unfold isN at h;rw[DG]at h;obtain⟨h1,h2,h3,h4⟩:=h;refine⟨AO s.data.toList,?_,?_⟩
 .exact zJ (Hl h3) (zi (by omega) (by rw[E3];exact h2))
 unfold num;rw[E2 _ _ rfl h1 h3 h4]
theorem QE(l:List UInt8):Lib.trimS l Gt=[]<->∀c∈l,CG c:=by
 have hd:∀c:UInt8,Gt.contains c=true<->CG c:=by
  intro c;unfold Gt CG;simp only[List.contains_eq_mem,yW,yK,xy,yG,<-UInt8.toNat_inj];simp only[UInt8.reduceToNat];omega
 unfold Lib.trimS Lib.trimLeftS Lib.trimRightS;constructor
 .intro h
  have key:∀m:List UInt8,m.dropWhile (Gt.contains ·)=[]->∀c∈m,CG c:=by
   intro m
   induction m with
   |nil=>intro _ c hc;exact absurd hc (by simp)
   |cons a m ih=>
    intro h c hc;rw[List.dropWhile_cons]at h
    split at h
    .rename_i ha
     rcases List.mem_cons.1 hc with e|e
     .rw[e];exact(hd a).1 ha
     exact ih h c e
    cases h
  by_cases hr:(l.reverse.dropWhile (Gt.contains ·))=[]
  .intro c hc;exact key _ hr c (by simpa using hc)
  exfalso;have d:(l.reverse.dropWhile (Gt.contains ·)).reverse≠[]:=by simpa using hr
  have h1:=key _ h
  obtain ⟨a,m,e⟩:∃a m,l.reverse.dropWhile (Gt.contains ·)=a::m:=by
   cases hh:l.reverse.dropWhile (Gt.contains ·) with
   |nil=>exact absurd hh hr
   |cons a m=>exact⟨a,m,rfl⟩
  have h2:=h1 a (by rw[e];simp)
  have h3:Gt.contains a=false:=by
   have:=List.head?_dropWhile_not (Gt.contains ·) l.reverse;rw[e]at this
   simpa using this
  rw[(hd a).2 h2]at h3
  cases h3
 intro h
 have h1:l.reverse.dropWhile (Gt.contains ·)=[]:=by
  have key:∀m:List UInt8,(∀c∈m,CG c)->m.dropWhile (Gt.contains ·)=[]:=by
   intro m
   induction m with
   |nil=>intro _;rfl
   |cons a m ih=>
    intro h;rw[List.dropWhile_cons,zD ((hd a).2 (h a (by simp)))];exact ih (fun c hc=>h c (by simp[hc]))
  exact key _ (fun c hc=>h c (by simpa using hc))
 rw[h1];rfl
theorem OG(s:ByteArray):isN s=true<->s.toList.isEmpty=false/\s.size<=300/\Lib.trimS s.data.toList [48,49,50,51,52,53,54,55,56,57]=[]/\(s.size=1\/∀h:0<s.size,s[0].toNat≠48):=by
 unfold isN;rw[DG,show ([48,49,50,51,52,53,54,55,56,57]:List UInt8)=Gt from rfl,QE,yP];have hl:s.data.toList.length=s.size:=by simp
 rw[hl];constructor
 .rintro⟨h1,h2,h3,h4⟩;refine⟨by simpa using h1,h2,h3,?_⟩
  rcases h4 with h4|h4
  .exact .inl h4
  right;intro h e;apply h4;rw[List.head?_eq_getElem?,zj (by omega)];refine congrArg some (UInt8.toNat_inj.1 ?_);rw[Array.getElem_toList];exact e
 rintro⟨h1,h2,h3,h4⟩;refine⟨by simpa using h1,h2,h3,?_⟩
 rcases h4 with h4|h4
 .exact .inl h4
 right;intro e
 have h0:0<s.data.toList.length:=by
  rcases xK s.data.toList.length with h|h
  .rw[List.length_eq_zero_iff.1 h]at e;simp at e
  exact h
 rw[List.head?_eq_getElem?,zj h0]at e;refine h4 (by omega) ?_;have:=congrArg UInt8.toNat (Option.some.inj e);rw[Array.getElem_toList]at this;exact this
theorem Ad{a b:Bool}(h:a=b):Ending.returned (.bool a)=.returned (.bool b):=by rw[h]
theorem B4(s:ByteArray)(w:World)(hs:s.size<=9223372036854775807):
 Calls prog 128 #[.string s] w fun e w'=>e=.returned (.bool (isN s))/\Below w.heap.size w w':=by
 have d:=KR s w hs;have HP:=zh (OG s)
 have aa:¬(s.toList.isEmpty=false/\s.size<=300/\Lib.trimS s.data.toList [48,49,50,51,52,53,54,55,56,57]=[]/\(s.size=1\/∀h:0<s.size,s[0].toNat≠48))->isN s=false:=fun h=>by
  cases hh:isN s with
  |false=>rfl
  |true=>exact absurd (HP.o.1 hh) h
 have HF:=zh aa;clear aa;generalize isN s=r at HP HF ⊢
 cases h0:s.toList.isEmpty with
 |true=>
  obtain rfl:r=false:=HF.o (by rw[h0];simp);go_enter func128,ntmps128;go_wp2;go_ret;exact⟨Ad (by simp),zI _ _⟩
 |false=>
  have ab:0<s.size:=by
   rcases xK s.size with h|h
   .have:s.toList=[]:=by rw[yP];exact List.length_eq_zero_iff.1 (by simpa using h)
    rw[this]at h0;cases h0
   exact h
  by_cases h1:s.size<=300
  .by_cases ht:Lib.trimS s.data.toList [48,49,50,51,52,53,54,55,56,57]=[]
   .by_cases h2:s.size=1
    .obtain rfl:r=true:=HP.o.2 ⟨h0,h1,ht,.inl h2⟩;rw[ht]at d;have ad:((s.size:Int)==1)=true:=by rw[yw];omega
     clear ht h2;go_enter func128,ntmps128
     go_wp2_with (go_at_call 152;refine d.q fun w' hb=>?_)
     go_ret;exact⟨Ad (by simp),hb⟩
    have ad:((s.size:Int)==1)=false:=by rw[zP];omega
    rw[ht]at d
    by_cases h3:s[0].toNat=48
    .obtain rfl:r=false:=HF.o (fun h=>by rcases h.2.2.2 with h|h;(· exact h2 h);(· exact h ab h3));have ae:((s[0].toNat:Int) != 48)=false:=by rw[h3];rfl
     clear ht h2 h3;go_enter func128,ntmps128
     go_wp2_with (go_at_call 152;refine d.q fun w' hb=>?_)
     go_ret;exact⟨Ad (by simp),hb⟩
    obtain rfl:r=true:=HP.o.2 ⟨h0,h1,ht,.inr (fun _=>h3)⟩;have ae:((s[0].toNat:Int) != 48)=true:=by rw[zy];omega
    clear ht h2 h3;go_enter func128,ntmps128
    go_wp2_with (go_at_call 152;refine d.q fun w' hb=>?_)
    go_ret;exact⟨Ad (by simp),hb⟩
   obtain rfl:r=false:=HF.o (fun h=>ht h.2.2.1);have af:(Lib.trimS s.data.toList [48,49,50,51,52,53,54,55,56,57]).isEmpty=false:=by simpa using ht
   clear ht;generalize Lib.trimS s.data.toList [48,49,50,51,52,53,54,55,56,57]=tl at d af;go_enter func128,ntmps128
   go_wp2_with (go_at_call 152;refine d.q fun w' hb=>?_)
   go_ret;exact⟨Ad (by simp),hb⟩
  obtain rfl:r=false:=HF.o (fun h=>h1 h.2.1);go_enter func128,ntmps128;go_wp2;go_ret;exact⟨Ad (by simp),zI _ _⟩
end Nt
end
section
open Go.RowKit
namespace Nt
def QF(b off cap:Nat)(xs:List Nat)(w:World)(e:Ending)(w':World):Prop :=
 ∃k,e=.returned (.slice (some ⟨b,off,none⟩) k cap)/\Trimmed xs k/\w=w'
theorem OH(w:World)(b off cap:Nat)(xs:List Nat)(hl:xs.length<=1000000)(aa:xs.length<=cap)
 (hc:∀i,i<xs.length->w.cell? ⟨b,off+i,none⟩=some (.int .u64 (lim xs i))):
 Calls prog 154 #[.slice (some ⟨b,off,none⟩) xs.length cap] w (QF b off cap xs w):=by
 go_enter func154,ntmps154;go_wp2
 go_loop [0] (fun v=>∃k,k<=xs.length/\v=.slice (some ⟨b,off,none⟩) k cap/\(∀j,k<=j->j<xs.length->lim xs j=0)) (fun v=>WI v)
 case atStart=>exact⟨_,zB _,rfl,fun j h h'=>by omega⟩
 case round=>
  obtain⟨k,hk,rfl,hz⟩:=hrel;have HZ:=zh hz;clear hz
  by_cases h0:0<k
  .have d:=hc (k-1) (by omega)
   by_cases hx:lim xs (k-1)=0
   .have HX:=zh hx;rw[hx]at d;clear hx hc;go_wp2;refine⟨⟨k-1,by omega,rfl,fun j h h'=>?_⟩,by simp only[WI];omega⟩
    by_cases e:j=k-1
    .rw[e];exact HX.o
    exact HZ.o j (by omega) h'
   have ab:((lim xs (k-1):Int)==0)=false:=by simp;exact hx
   have HX:=zh hx;clear hx hc;go_wp2;go_ret;exact⟨k,rfl,⟨hk,HZ.o,fun _=>HX.o⟩,rfl⟩
  clear hc;go_wp2;go_ret;exact⟨k,rfl,⟨hk,HZ.o,fun h=>by omega⟩,rfl⟩
theorem QG(w:World):
 Calls prog 154 #[.slice none 0 0] w fun e w'=>e=.returned (.slice none 0 0)/\w=w':=by
 go_enter func154,ntmps154;go_wp2;refine wp_loop_rounds 1 ?_;rw[rounds_succ];go_wp2;go_ret;exact⟨rfl,rfl⟩
def TI(w:World)(u:Value)(xs:List Nat)(e:Ending)(w':World):Prop :=
 ∃v k,e=.returned v/\Trimmed xs k/\Sl w v (xs.take k)/\(∀B,From B u->From B v)/\w=w'
theorem Dj(w:World)(v:Value)(xs:List Nat)(hl:xs.length<=1000000)(hs:Sl w v xs):
 Calls prog 154 #[v] w (TI w v xs):=by
 rcases hs.shape with⟨rfl,rfl⟩|⟨b,off,cap,rfl,hb,aa,hc⟩
 .refine(QG w).mono ?_;rintro e w' ⟨rfl,rfl⟩;exact⟨_,0,rfl,⟨zB _,fun j _ h=>absurd h (by simp),fun h=>by omega⟩,Sl.nil _,fun _ h=>h,rfl⟩
 refine(OH w b off cap xs hl aa hc).mono ?_;rintro e w' ⟨k,rfl,ht,rfl⟩;have d:(xs.take k).length=k:=by have:=ht.1;simp;omega
 refine⟨_,k,rfl,ht,?_,fun _ h=>h,rfl⟩;have:=Sl.mk (w:=w) (b:=b) (off:=off) (cap:=cap) (xs:=xs.take k) hb (by have:=ht.1;omega) (fun i hi=>by rw[d]at hi;rw[QC _ _ _ hi];exact hc i (by have:=ht.1;omega));rw[d]at this;exact this
end Nt
end
section
open Go.RowKit Go.Shelf
attribute [local go_sem] Oper.semAt_some
namespace Nt
abbrev B5(n:Nat):={ i:Nat // i<n }
def Cy(n k:Nat):List (B5 n):=((List.range k).filterMap fun j=>if h:n-1-j<n then some ⟨n-1-j,h⟩ else none)
theorem CZ(n:Nat):Cy n 0=[]:=rfl
theorem Cz(n k:Nat)(h:k<n):Cy n (k+1)=Cy n k++[⟨n-1-k,by omega⟩]:=by
 simp only[Cy,xi,List.filterMap_append,List.filterMap_cons,List.filterMap_nil];rw[dif_pos (by omega)]
theorem GK(n k:Nat)(h:k<=n):(Cy n k).length=k:=by
 induction k with
 |zero=>rfl
 |succ k ih=>rw[Cz n k (by omega),zV,ih (by omega)];rfl
def Keep2(b c:Nat)(W W':World):Prop:=W'.heap[b]? = W.heap[b]?/\W'.heap[c]? = W.heap[c]?
theorem Keep2.refl(b c:Nat)(W:World):Keep2 b c W W:=⟨rfl,rfl⟩
theorem Keep2.trans{b c:Nat}{A B C:World}(h:Keep2 b c A B)(k:Keep2 b c B C):Keep2 b c A C:=⟨k.1.trans h.1,k.2.trans h.2⟩
theorem Keep2.of_below{b c n:Nat}{A B:World}(h:Below n A B)(hb:b<n)(hc:c<n):Keep2 b c A B:=⟨h.block b hb,h.block c hc⟩
theorem Keep2.setCell{b c:Nat}(W:World)(p:Addr)(v:Value)(hb:b≠p.block)(hc:c≠p.block):Keep2 b c W (W.setCell p v) :=
 ⟨ze _ _ _ _ hb,ze _ _ _ _ hc⟩
def SlAt(W:World)(b:Nat)(sv:Value)(xs:List Nat):Prop :=
 (xs=[]/\∃cap,sv=.slice none 0 cap)\/∃off cap,sv=.slice (some ⟨b,off,none⟩) xs.length cap/\∀j,j<xs.length->W.cell? ⟨b,off+j,none⟩=some (.int .u64 (lim xs j))
theorem SlAt.keep{W W':World}{b c:Nat}{sv:Value}{xs:List Nat}(h:SlAt W b sv xs)(hk:Keep2 b c W W'):SlAt W' b sv xs:=by
 rcases h with h|⟨off,cap,h,hc⟩
 .exact .inl h
 exact .inr ⟨off,cap,h,fun j hj=>(zT (w:=W) hk.1).trans (hc j hj)⟩
theorem OI(F:Fence)(n:Nat)(hf:F.fn 193)(ah:F.round=none)(hn:1<=n)(l Bs b off cap:Nat)(xs:List Nat)(hl:xs.length<=1000000)(J Jx:List (B5 xs.length)->World->Prop)
 (hY:∀pre (x:B5 xs.length) W,J pre W->pre.length<xs.length->YieldAt F (n-1) prog l #[.int .i64 (x.1:Int),.int .u64 (lim xs x.1)] W fun e W' =>
   (e=.returned (.bool true)/\J (pre++[x]) W'/\Keep2 b Bs W W')\/(e=.returned (.bool false)/\Jx (pre++[x]) W'))
 (W:World)(ad:W.cell? ⟨Bs,0,none⟩=some (.slice (some ⟨b,off,none⟩) xs.length cap))(hc:∀j,j<xs.length->W.cell? ⟨b,off+j,none⟩=some (.int .u64 (lim xs j)))(h0:J [] W):
 CallsIn F n prog 193 #[.func (.yield l) #[] #[],.pointer (some ⟨Bs,0,none⟩)] W fun e W'=>(∃v,e=.returned v) /\
  ((∃ys,ys=Cy xs.length xs.length/\J ys W')\/(∃pre,(∃k,k<=xs.length/\pre=Cy xs.length k)/\Jx pre W')):=by
 refine vV func193 rfl hf ?_ ah;simp only[ntmps193,xJ,zZ,ye,Nat.reduceAdd,Nat.reduceSub,xB,xC,xS,xG,yT,yi]
 gi_wp2
 gi_loopw [3] (fun i wr=>∃k:Nat,k<=xs.length/\i=.int .i64 ((xs.length:Int)-1-k)/\J (Cy xs.length k) wr/\Keep2 b Bs W wr)
  (fun i _=>((intOf i)+1).toNat)
 case atStart=>exact⟨0,zQ _,by simp,h0,Keep2.refl _ _ _⟩
 case round=>
  obtain⟨k,hk,rfl,aa,h⟩:=hrel
  by_cases hlt:k<xs.length
  .have af:=(zT (w:=W) (a:=⟨b,off+(xs.length-1-k),none⟩) h.1).trans (hc (xs.length-1-k) (by omega));have ai:=(zT (w:=W) (a:=⟨Bs,0,none⟩) h.2).trans ad;obtain⟨fn,tmps,assign,body,hy,hR⟩:=hY _ ⟨xs.length-1-k,by omega⟩ wr aa (by rw[GK _ _ hk];exact hlt);dsimp only at hy;have ei:(xs.length:Int)-1-k=((xs.length-1-k:Nat):Int):=by omega
   rw[ei];obtain⟨q,d⟩:∃q,q=xs.length-1-k:=⟨_,rfl⟩;have hq:q<xs.length:=by omega
   have HB:(Cy xs.length (k+1)=Cy xs.length k++[⟨q,hq⟩]):=by rw[Cz _ _ hlt];subst d;rfl
   replace HB:=zh HB;have HQ:Hid (q+k+1=xs.length):=by unfold Hid;omega
   have hx:(⟨xs.length-1-k,by omega⟩:B5 xs.length)=⟨q,hq⟩:=by subst d;rfl
   rw[<-d]at af hy ⊢;rw[hx]at hR;clear d hx ei
   gi_wp2
   refine hR.mono ?_;rintro e W3 (⟨rfl,ae,ag⟩|⟨rfl,ab⟩)
   .gi_wp2
    have aj:=HQ.o
    go_roundw
    case rel=>exact⟨k+1,by omega,congrArg (Value.int .i64) (by omega),by rw[HB.o];exact ae,h.trans ag⟩
    case measure=>simp only[intOf];omega
   gi_wp2
   refine zm (results_none rfl _ _ _) rfl ?_;exact⟨⟨_,rfl⟩,.inr ⟨_,⟨k+1,by omega,HB.o.symm⟩,ab⟩⟩
  obtain rfl:k=xs.length:=by omega
  have ei:(xs.length:Int)-1-xs.length=-1:=by omega
  rw[ei]
  gi_wp2
  go_end0;exact⟨⟨_,rfl⟩,.inl ⟨_,rfl,aa⟩⟩
theorem IJ(F:Fence)(n:Nat)(hf:F.fn 193)(h:F.round=none)(l Bs cap:Nat)(J:List (B5 0)->World->Prop)(W:World)(aa:W.cell? ⟨Bs,0,none⟩=some (.slice none 0 cap))(h0:J [] W):
 CallsIn F n prog 193 #[.func (.yield l) #[] #[],.pointer (some ⟨Bs,0,none⟩)] W fun e W'=>(∃v,e=.returned v)/\J [] W':=by
 refine vV func193 rfl hf ?_ h;simp only[ntmps193,xJ,zZ,ye,Nat.reduceAdd,Nat.reduceSub,xB,xC,xS,xG,yT,yi]
 gi_wp2
 gi_loopw [3] (fun i wr=>i=.int .i64 (-1)/\J [] wr) (fun _ _=>0)
 case atStart=>exact⟨rfl,h0⟩
 case round=>
  obtain⟨rfl,d⟩:=hrel
  gi_wp2
  go_end0;exact⟨⟨_,rfl⟩,d⟩
theorem Da(F:Fence)(n:Nat)(hf:F.fn 155)(d:F.round=none)(a:Option Addr)(len cap:Nat)(w:World):
 CallsIn F n prog 155 #[.slice a len cap] w fun e w'=>e=.returned (.func (.func 193) #[] #[.pointer (some ⟨w.heap.size,0,none⟩)])/\w'=w.alloc (.cells #[.slice a len cap] 186):=by
 refine vV func155 rfl hf ?_ d;simp only[ntmps155,xJ,zZ,ye,Nat.reduceAdd,Nat.reduceSub,xB,xC,xS,xG,yT,yi]
 gi_wp2
 go_ret;exact⟨rfl,rfl⟩
theorem F5(F:Fence)(n:Nat)(hf:F.fn 193)(ab:F.round=none)(hn:1<=n)(Bs b:Nat)(sv:Value)(xs:List Nat)(hl:xs.length<=1000000)(w:World)(d:Bs<w.heap.size)(hb:b<w.heap.size)
 (hc:w.cell? ⟨Bs,0,none⟩=some sv)(hI:SlAt w b sv xs):
 SeqStopsK F n prog 193 #[.pointer (some ⟨Bs,0,none⟩)] (fun x:B5 xs.length=>#[Value.int .i64 (x.1:Int),.int .u64 (lim xs x.1)]) (Keep2 b Bs)
  (fun ys=>ys=Cy xs.length xs.length) (fun pre=>∃k,k<=xs.length/\pre=Cy xs.length k) xs.length w:=fun l J Jx W hW _ _ hY h0=>by
 have aa:=(hW.cell (p:=⟨Bs,0,none⟩) d).trans hc
 rcases hI.keep (Keep2.of_below hW hb d) with⟨rfl,cap,rfl⟩|⟨off,cap,rfl,ad⟩
 .exact(IJ F n hf ab l Bs cap J W aa h0).mono fun e W' ⟨he,hj⟩=>⟨he,.inl ⟨_,rfl,hj⟩⟩
 exact(OI F n hf ab hn l Bs b off cap xs hl J Jx hY W aa ad h0).mono fun e W' h=>h
end Nt
end
section
open Go.RowKit Go.Sort Go.Lib Go.Shelf
namespace Nt
theorem KX(w:World)(T:TypeId)(nd:Nat)(hs:nd<=24):Holds (fun(b:UInt8)=>Value.int .u8 (b.toNat:Int)) (w.alloc (.cells zeros24 T)) w.heap.size 0 (Array.replicate nd (0:UInt8)):=fun j hj=>by
 have d:j<nd:=by simpa using hj
 refine⟨?_,World.frozen?_alloc_new _ _ _ _⟩;rw[World.cell?_alloc_new,yE,zeros24_at _ (by omega),getElem!_pos _ j hj];simp
theorem JX(w:World)(o:Obj)(dk:Array UInt8)(k:Nat):Below w.heap.size w ((putRow (fun(b:UInt8)=>Value.int .u8 (b.toNat:Int)) (w.alloc o) w.heap.size 0 dk).drewN k):=by
 rw[alloc_eq_grow];obtain⟨os',_,e⟩:=putRow_grow_new (fun(b:UInt8)=>Value.int .u8 (b.toNat:Int)) w #[o] w.heap.size 0 dk (zB _);rw[e];exact(Hs w os').trans (by have:=GI (grow w os') k;exact this.mono (by simp[grow]))
theorem Gu(u:Nat)(d:u<18446744073709551616)(w:World)(ae:Lib.TabIs prog w "internal/strconv.uint64pow10" .u64 Lib.pow10Tab):
 Calls prog 195 #[.int .u64 u,.int .i64 10] w fun e w'=>e=.returned (.string ⟨(Lib.decDigits u).toArray⟩)/\Below w.heap.size w w':=by
 by_cases hs:u<100
 .go_enter func195,ntmps195
  go_wp2_with (go_at_call 199;refine(Tryz.internal_strconv_small u hs _).mono ?_;rintro e w' ⟨rfl,rfl⟩)
  go_ret;exact⟨rfl,zI _ _⟩
 have af:1<=u:=by omega
 have ag:Lib.nDigits u<=20:=by have:=Lib.numDigits_eq u af d;split at this<;>omega
 have ad:prog.arrayLen 251=24:=by kernel_rfl
 have ai:∀W,(Instr.sliceAt 251 (.pointer (some ⟨w.heap.size,0,none⟩)) none (some (.int .i64 (Lib.nDigits u:Int))) none).run prog W=.ok (.slice (some ⟨w.heap.size,0,none⟩) (Lib.nDigits u) 24) W:=fun W=>by
  rw[run_sliceAt_array_h W 251 ⟨w.heap.size,0,none⟩ (by kernel_rfl) .i64 (Lib.nDigits u:Int) (by omega) (by rw[ad];omega)];go_simp
 have ab:=KX w 251 (Lib.nDigits u) (by omega);have aa:=Tryz.internal_strconv_formatBase10 w.heap.size 0 24 u (Array.replicate (Lib.nDigits u) 0) (w.alloc (.cells zeros24 251)) ab (by rw[wh];exact Lib.lt_pow_nDigits u) d (by rw[wh];omega);rw[wh]at aa;have HH0:=zh ab;clear ab ad;go_enter func195,ntmps195
 go_wp2_with (first
  |(go_at_call 200;refine(Tryz.internal_strconv_numDigits u af d _ (Lib.tabIs_alloc ae _)).mono ?_;rintro e w' ⟨rfl,rfl⟩))
 go_at_call 201;refine aa.mono ?_;rintro e w' ⟨rfl,k,v',dk,rfl,hF⟩
 have ah:(convert 215 9 (.slice (some ⟨w.heap.size,0,none⟩) (Lib.nDigits u) 24)).run prog ((putRow (fun(b:UInt8)=>Value.int .u8 (b.toNat:Int)) (w.alloc (.cells zeros24 251)) w.heap.size 0 dk).drewN k)=.ok (.string ⟨(Lib.decDigits u).toArray⟩) ((putRow (fun(b:UInt8)=>Value.int .u8 (b.toNat:Int)) (w.alloc (.cells zeros24 251)) w.heap.size 0 dk).drewN k):=by
  have h:=run_convert_bytes_back (P:=prog) ((putRow (fun(b:UInt8)=>Value.int .u8 (b.toNat:Int)) (w.alloc (.cells zeros24 251)) w.heap.size 0 dk).drewN k) 215 9 5 ⟨w.heap.size,0,none⟩ 24 (Lib.decDigits u) underlying215 underlying5 underlying9 (fun j hj=>by
   rw[Lib.row_is_numeral hF j hj,Lib.add_plain,World.cell?_drewN];exact cell?_putRow (fun(b:UInt8)=>Value.int .u8 (b.toNat:Int)) _ w.heap.size 0 _ dk HH0.o (by rw[hF.size,wh]) j (by rw[hF.size];rw[Lib.decDigits_length]at hj;exact hj))
  rw[Lib.decDigits_length]at h;exact h
 go_wp2;go_ret;exact⟨rfl,JX _ _ _ _⟩
theorem Ml(u:Nat)(h:u<18446744073709551616)(w:World)(d:Lib.TabIs prog w "internal/strconv.uint64pow10" .u64 Lib.pow10Tab):
 Calls prog 160 #[.int .u64 u,.int .i64 10] w fun e w'=>e=.returned (.string ⟨(Lib.decDigits u).toArray⟩)/\Below w.heap.size w w':=by
 go_enter func160,ntmps160
 go_wp2_with (go_at_call 195;refine(Gu u h _ d).q fun w' hb=>?_)
 go_ret;exact⟨rfl,hb⟩
end Nt
end
section
open Go.RowKit Go.Shelf
attribute [local go_sem] Oper.semAt_some
namespace Nt
def Fp(xs:List Nat)(x:B5 xs.length):List UInt8:=if x.1<xs.length-1 then KV (lim xs x.1) else Lib.decDigits (lim xs x.1)
def txt(xs:List Nat)(pre:List (B5 xs.length)):List UInt8:=pre.foldl (fun a x=>a++Fp xs x) []
theorem Hv(xs:List Nat)(pre:List (B5 xs.length))(x:B5 xs.length):txt xs (pre++[x])=txt xs pre++Fp xs x:=by
 simp[txt,List.foldl_append]
theorem WJ{x:Nat}(h:x<1000000000):(Lib.decDigits x).length<=9:=CC (by simpa using h) (by omega)
theorem OJ{xs:List Nat}(hx:InR xs)(x:B5 xs.length):(Fp xs x).length<=9:=by
 unfold Fp
 split
 .rw[KW (hx.lim _)];omega
 exact WJ (hx.lim _)
theorem NO{xs:List Nat}(hx:InR xs)(pre:List (B5 xs.length)):(txt xs pre).length<=9*pre.length:=by
 have key:∀(pre:List (B5 xs.length)) (a:List UInt8),(pre.foldl (fun a x=>a++Fp xs x) a).length<=a.length+9*pre.length:=by
  intro pre
  induction pre with
  |nil=>intro a;simp
  |cons x pre ih=>
   intro a;have h1:=ih (a++Fp xs x);have h2:=OJ hx x;simp only[List.foldl_cons,zZ,zV]at h1 ⊢;omega
 have:=key pre []
 simpa [txt] using this
theorem QH{xs:List Nat}(hx:Canon xs)(_h0:xs≠[])(k:Nat)(hk:k<xs.length):
 txt xs (Cy xs.length (k+1))=Lib.decDigits ((lv (xs.drop (xs.length-1-k))))/\0<lv (xs.drop (xs.length-1-k)):=by
 have d:0<xs.length:=by omega
 induction k with
 |zero=>
  have hd:xs.drop (xs.length-1-0)=[lim xs (xs.length-1)]:=by
   rw[Nat.sub_zero,wD (by omega),F0 _ _ (by omega),List.drop_of_length_le (by omega)]
  have h:lim xs (xs.length-1)≠0:=by
   have:=hx.2;rw[List.getLast?_eq_getElem?,zj (by omega)]at this;rw[F0 _ _ (by omega)];intro e;exact this (congrArg some e)
  rw[hd];simp only[lv,vY,ya];refine⟨?_,by omega⟩;rw[Cz _ _ d,CZ,Hv];simp[txt,Fp]
 |succ k ih=>
  obtain⟨h1,h2⟩:=ih (by omega)
  have hd:xs.drop (xs.length-1-(k+1))=lim xs (xs.length-1-(k+1))::xs.drop (xs.length-1-k):=by
   rw[wD (by omega),F0 _ _ (by omega),show xs.length-1-(k+1)+1=xs.length-1-k by omega]
  rw[hd];simp only[lv];refine⟨?_,by omega⟩;rw[Cz _ _ hk,Hv,h1,Fp,zD (by dsimp only;omega)];dsimp only;rw[Nat.add_comm (lim xs (xs.length-1-(k+1))),yN 1000000000];exact(Hu _ _ h2 (InR.lim hx.1 _)).symm
theorem TJ{xs:List Nat}(hx:Canon xs)(h0:xs≠[]):txt xs (Cy xs.length xs.length)=Lib.decDigits (lv xs):=by
 have d:0<xs.length:=List.length_pos_iff.2 h0;have:=(QH hx h0 (xs.length-1) (by omega)).1;rw[Nat.sub_self,List.drop_zero,Nat.sub_add_cancel d]at this;exact this
theorem OK(w:World)(a:Option Addr)(cap:Nat):
 Calls prog 133 #[.slice a 0 cap] w fun e w'=>e=.returned (.tuple #[.string ⟨#[48]⟩,.int .i64 0])/\Below w.heap.size w w':=by
 go_enter func133,ntmps133;go_wp2;go_ret2;exact⟨rfl,(zI _ w).alloc (zB _) _⟩
def Vg(w W1:World)(sv:Value)(xs:List Nat)(pre:List (B5 xs.length))(W:World):Prop :=
 Lib.IsBuilderF 217 5 (w.heap.size+1) (w.heap.size+1) (Lib.byteCells (txt xs pre)) W/\Below (w.heap.size+1) W1 W/\W.heap[w.heap.size+1+1]? = some (.cells #[sv] 186 (0,0))
theorem Dk{A B:World}{row:Option Nat}{b:Nat}{c:Array Value}{t:TypeId}{f:Nat×Nat}(h:A.heap[b]? = some (.cells c t f))(hg:A.grownBy B row)(hr:∀r,row=some r->∃o:Obj,A.heap[r]? = some o/\o.isCells=false):
 B.heap[b]? = some (.cells c t f):=by
 rw[hg.block b (Array.getElem?_eq_some_iff.1 h).1 (fun e=>?_)]
 .exact h
 obtain⟨o,ho,hc⟩:=hr b e.symm;rw[h]at ho
 cases ho
 cases hc
theorem E4{A B:World}{row:Option Nat}{T e:TypeId}{n b:Nat}{p:Value}{bs:List Value}(h:Lib.BuilderAtF T e n b p bs A)(hg:A.grownBy B row)(hr:∀r,row=some r->∃o:Obj,A.heap[r]? = some o/\o.isCells=false):
 Lib.BuilderAtF T e n b p bs B:=by
 obtain⟨h1,v,h2,h3,h4⟩:=h;refine⟨h1,v,Dk h2 hg hr,?_,h4⟩;obtain⟨h5,h6⟩:=h3;refine⟨h5,?_⟩
 rcases h6 with h6|⟨g,cap,cur,fz,k1,k2,k3,k4⟩
 .exact .inl h6
 exact .inr ⟨g,cap,cur,fz,k1,k2,Dk k3 hg hr,k4⟩
theorem JY{A B:World}{row:Option Nat}{T e:TypeId}{n b:Nat}{bs:List Value}(h:Lib.IsBuilderF T e n b bs A)(hg:A.grownBy B row)(hr:∀r,row=some r->∃o:Obj,A.heap[r]? = some o/\o.isCells=false):
 Lib.IsBuilderF T e n b bs B:=h.elim (fun k=>.inl (E4 k hg hr)) (fun k=>.inr (E4 k hg hr))
theorem Eu{A B:World}{T e:TypeId}{n b:Nat}{p:Value}{bs:List Value}(h:Lib.BuilderAtF T e n b p bs A)(hb:Below A.heap.size A B):Lib.BuilderAtF T e n b p bs B:=by
 obtain⟨h1,v,h2,h3,h4⟩:=h;have key:∀{g:Nat} {o:Obj},A.heap[g]? = some o->B.heap[g]? = some o:=fun h=>(hb.block _ (Array.getElem?_eq_some_iff.1 h).1).trans h;refine⟨h1,v,key h2,?_,h4⟩;obtain⟨h5,h6⟩:=h3;refine⟨h5,?_⟩
 rcases h6 with h6|⟨g,cap,cur,fz,k1,k2,k3,k4⟩
 .exact .inl h6
 exact .inr ⟨g,cap,cur,fz,k1,k2,key k3,k4⟩
theorem Fq{A B:World}{T e:TypeId}{n b:Nat}{bs:List Value}(h:Lib.IsBuilderF T e n b bs A)(hb:Below A.heap.size A B):Lib.IsBuilderF T e n b bs B :=
 h.elim (fun k=>.inl (Eu k hb)) (fun k=>.inr (Eu k hb))
theorem KeepsOthers.of_others{W W':World}{t:TypeId}{b:Nat}{cs:Array Value}{T:TypeId}{fz:Nat×Nat}(h:Lib.OthersKept t (some b) W W')(hs:W.heap.size<=W'.heap.size)(hb:W.heap[b]? = some (.cells cs T fz)):KeepsOthers W W' :=
 ⟨hs,fun k o hk ho=>h k o hk (fun e=>by cases e;rw[hb]at hk;cases hk;cases ho) (fun c f e=>by subst e;cases ho)⟩
theorem QI(c:Nat):Lib.repeatL (⟨#[48]⟩:ByteArray).data.toList c=List.replicate c 48:=by
 induction c with
 |zero=>rfl
 |succ c ih=>rw[Lib.repeatL,ih];rfl
theorem Eb(l:List UInt8):Lib.strCells ⟨l.toArray⟩=Lib.byteCells l:=rfl
theorem WK(w:World)(o1 o2 o3:Obj):
 (((w.alloc o1).alloc o2).alloc o3).heap[w.heap.size]? = some o1/\(((w.alloc o1).alloc o2).alloc o3).heap[w.heap.size+1]? = some o2 /\
 (((w.alloc o1).alloc o2).alloc o3).heap[w.heap.size+1+1]? = some o3/\(((w.alloc o1).alloc o2).alloc o3).heap.size=w.heap.size+3/\Below w.heap.size w (((w.alloc o1).alloc o2).alloc o3) :=
 ⟨(yM _ _ _ (by simp;omega)).trans ((yM _ _ _ (by simp)).trans (yR _ _)),
  (yM _ _ _ (by simp)).trans (by have:=yR (w.alloc o1) o2;simpa using this),
  by have:=yR ((w.alloc o1).alloc o2) o3;simpa using this,by simp,
  (((zI _ w).alloc (zB _) _).alloc (by simp) _).alloc (by simp;omega) _⟩
def CS(l:List UInt8):Value:=if 300<l.length then .tuple #[.string ⟨#[]⟩,.int .i64 2] else .tuple #[.string ⟨l.toArray⟩,.int .i64 0]
def KY(l:List UInt8)(w:World)(e:Ending)(w':World):Prop:=e=.returned (CS l)/\Below w.heap.size w w'
theorem Ev{W W':World}{e:TypeId}{b:Option Nat}(h:Below W.heap.size W W'):Lib.OthersKept e b W W' :=
 fun k _ hk _ _=>(h.block k (Array.getElem?_eq_some_iff.1 hk).1).trans hk
theorem Hw{w W1 W W':World}{sv:Value}{xs:List Nat}{pre:List (B5 xs.length)}{x:B5 xs.length}{b:Nat}{bs:List UInt8}{a:Act}{Ix:Code->List (B5 xs.length)->World->Prop}
 (s1:Lib.IsBuilderF 217 5 (w.heap.size+1) (w.heap.size+1) (Lib.byteCells (txt xs pre)) W)(s2:Below (w.heap.size+1) W1 W)(s3:W.heap[w.heap.size+1+1]? = some (.cells #[sv] 186 (0,0)))
 (hI:Lib.IsBuilderF 217 5 (w.heap.size+1) (w.heap.size+1) (Lib.byteCells (txt xs pre++bs)) W')(hb:Below (w.heap.size+1) W W')(ho:Lib.OthersKept 5 (some (w.heap.size+1)) W W')(d:b<w.heap.size)
 (hp:Fp xs x=bs):
 ownPostK (Keep2 b (w.heap.size+1+1)) (Vg w W1 sv xs) Ix (pre++[x]) W .normal a W':=by
 have k3:W'.heap[w.heap.size+1+1]? = some (.cells #[sv] 186 (0,0)):=ho _ _ s3 (by intro e;injection e with e;omega) (by intro c f e;injection e with e1 e2;cases e2);refine⟨?_,⟨hb.block b (by omega),k3.trans s3.symm⟩,?_,s2.trans hb,k3⟩
 .rcases s1 with⟨_,v,h,_⟩|⟨_,v,h,_⟩
  .exact KeepsOthers.of_others ho hb.size h
  exact KeepsOthers.of_others ho hb.size h
 rw[Hv,hp];exact hI
theorem OL(w:World)(a:Option Addr)(cap:Nat)(xs:List Nat)(hl:xs.length<=200)(hx:Hid (Canon xs))(h0:0<xs.length)(b:Nat)(hb:b<w.heap.size)
 (ha:Hid (SlAt w b (.slice a xs.length cap) xs))(hE:Hid (Env w)):
 Calls prog 133 #[.slice a xs.length cap] w (KY (Lib.decDigits (lv xs)) w):=by
 have aL:((xs.length:Int)==0)=false:=by rw[zP];omega
 refine(callsIn_wide (n:=9)).1 ?_;refine vA func133 rfl trivial ?_ rfl;simp only[ntmps133,xJ,zZ,ye,Nat.reduceAdd,Nat.reduceSub,xB,xC,xS,xG,yT,yi]
 gi_wp2_with (first
  |(refine⟨trivial,?_⟩;gi_at_call 155;refine(Da Fence.wide _ trivial rfl _ _ _ _).mono ?_;rintro e w' ⟨rfl,rfl⟩)
  |(gi_at_call 155;refine(Da Fence.wide _ trivial rfl _ _ _ _).mono ?_;rintro e w' ⟨rfl,rfl⟩))
 obtain⟨f1,f2,f3,f4,f5⟩:=WK w (.cells #[.slice a xs.length cap] 186) (.cells #[.pointer none,.slice none 0 0] 217) (.cells #[.slice a xs.length cap] 186);generalize ((w.alloc (.cells #[.slice a xs.length cap] 186)).alloc (.cells #[.pointer none,.slice none 0 0] 217)).alloc (.cells #[.slice a xs.length cap] 186)=W1 at f1 f2 f3 f4 f5 ⊢;have ao:W1.cell? ⟨w.heap.size+1+1,0,none⟩=some (.slice a xs.length cap):=by simp[World.cell?,f3]
 have an:W1.cell? ⟨w.heap.size,0,none⟩=some (.slice a xs.length cap):=by simp[World.cell?,f1]
 have ar:SlAt W1 b (.slice a xs.length cap) xs:=ha.o.keep (c:=b) (Keep2.of_below f5 hb hb)
 refine wpIn_rangeFunc_ownF rfl (by decide) (gf:=193) (lb:=#[.pointer (some ⟨w.heap.size+1+1,0,none⟩)]) rfl trivial (enters_of func193 (by kernel_rfl) rfl)
  (F5 Fence.wide _ trivial rfl (by decide) (w.heap.size+1+1) b _ xs (by omega) W1 (by omega) (by omega) ao ar) (fun h k=>h.trans k)
  (fun W l o o' hl h ho hw=>?kb) (zI _ _) (fun _=>rfl)
  (Vg w W1 (.slice a xs.length cap) xs) (fun _ _ _=>False)
  (fun s A B row hs hg hr=>?own)
  (fun _ _ _ _ _ hs _ _=>hs)
  ⟨.inl ⟨zB _,.slice none 0 0,f2,World.ownsRowF_nil _ _ _ _,by simp[Value.ownBlock]⟩,zI _ _,f3⟩
  (fun x=>{ tmps:=#[.slice a xs.length cap,.pointer (some ⟨w.heap.size,0,none⟩),.string ⟨#[]⟩,.int .i64 0,.pointer (some ⟨w.heap.size+1,0,none⟩),.int .i64 (x.1:Int),.int .u64 (lim xs x.1),undef,.slice a xs.length cap,
    .int .i64 xs.length,.bool false,.slice a xs.length cap,.func (.func 193) #[] #[.pointer (some ⟨w.heap.size+1+1,0,none⟩)],.int .i64 (x.1:Int),.int .u64 (lim xs x.1),
    undef,undef,undef,undef,undef,undef,undef,undef,undef,undef,undef,undef,undef,undef,undef,undef,undef],defers:=[] })
  ?assign ?body ?done ?stop
 case kb=>
  have h1:=(Array.getElem?_eq_some_iff.1 h).1;exact⟨yc (by omega),yc (by omega)⟩
 case own=>
  obtain⟨s1,s2,s3⟩:=hs;have aG:=fun r e=>(hr r e).2;exact⟨JY s1 hg aG,s2.grown hg (by have:=s2.size;omega) (fun k e=>by have:=(hr k e).1;omega),Dk s3 hg aG⟩
 case assign=>
  intro l x W K hK
  gi_wp2
  exact hK
 case body=>
  rintro l pre x W ⟨s1,s2,s3⟩ aa;have aC:=InR.lim hx.o.1 x.1;have h9:=WJ aC;have aQ:=x.2;have aw:Env W:=hE.o.below (f5.trans (s2.mono (by omega)));have af:=Ml (lim xs x.1) (by omega) W aw.tab;have az:=(s2.cell (p:=⟨w.heap.size,0,none⟩) (by simp)).trans an;have aj:=NO hx.o.1 pre;have aE:Fp xs x=if x.1<xs.length-1 then KV (lim xs x.1) else Lib.decDigits (lim xs x.1):=rfl
  have aF:KV (lim xs x.1)=List.replicate (9-(Lib.decDigits (lim xs x.1)).length) 48++Lib.decDigits (lim xs x.1):=rfl;have HP:=zh aE;have HPD:=zh aF;replace s1:=zh s1;replace s2:=zh s2;replace s3:=zh s3;replace aj:=zh aj;have F4:=zh f4;clear aE aF ar f1 f2 f3 ao an f4 aw;generalize ak:Lib.decDigits (lim xs x.1)=dl at h9 af HP HPD;clear ak;have aq:=s2.o.size;have aM:w.heap.size+2<W.heap.size:=by have:=F4.o;omega
  replace aq:=zh aq
  by_cases hq:x.1<xs.length-1
  .obtain ⟨c,hc⟩:∃c:Nat,(9:Int)-(dl.length:Int)=(c:Int):=⟨9-dl.length,by omega⟩;have HC:Hid (c=9-dl.length):=by unfold Hid;omega
   have aK:(x.1:Int)<(xs.length:Int)-1:=by omega
   gi_wp2_with (first
    |(refine⟨trivial,?_⟩;gi_at_call 160;refine(yj l (callsIn_wide.2 af)).q fun w2 d=>?_;have aA:=(d.cell (p:=⟨w.heap.size,0,none⟩) (by simp;omega)).trans az;replace d:=zh d))
   refine⟨trivial,?_⟩;refine(yj l (callsIn_wide.2 (Tryz.strings_Repeat ⟨#[48]⟩ c w2 (by omega) (by simp[ByteArray.size];omega)))).q fun w3 ab=>?_;have ad:Below W.heap.size W w3:=d.o.trans (ab.mono d.o.size);have aO:=ad.size;have ai:Lib.repeatL (⟨#[48]⟩:ByteArray).data.toList c=List.replicate c 48:=QI c;rw[ai];clear ai ab d;have au:=D8 (w.heap.size+1) (w.heap.size+1) (Lib.byteCells (txt xs pre)) ⟨(List.replicate c 48).toArray⟩ w3 (Fq s1.o ad) (by rw[wj];have:=aj.o;simp[ByteArray.size];omega) (by omega);generalize ai:List.replicate c (48:UInt8)=rl at au ⊢;have HRL:=zh ai;replace ad:=zh ad;clear ai
   gi_wp2_with (first
    |(refine⟨trivial,?_⟩;gi_at_call 161;refine(yj l (callsIn_wide.2 au)).q fun w4 ⟨aI,ay,aJ⟩=>?_;clear au))
   refine⟨trivial,?_⟩;have aP:=ay.size;refine(yj l (callsIn_wide.2 (D8 (w.heap.size+1) (w.heap.size+1) _ ⟨dl.toArray⟩ w4 aI (by rw[zV,wj,Lib.strCells_length];have:=aj.o;have:=HRL.o;subst this;simp[ByteArray.size];omega) (by omega)))).q fun w5 ⟨ae,am,ap⟩=>?_
   gi_wp2
   refine Hw s1.o s2.o s3.o (bs:=rl++dl) ?_ (by have:=ad.o.mono (show w.heap.size+1<=W.heap.size by omega);exact(this.trans ay).trans am) (((Ev ad.o).trans aJ).trans ap) (by omega) ?_
   .rw[Eb,Eb]at ae;rw[Lib.byteCells_append,Lib.byteCells_append,<-xT];exact ae
   rw[HP.o,zD hq,HPD.o,<-HRL.o,HC.o]
  .have aK:¬(x.1:Int)<(xs.length:Int)-1:=by omega
   gi_wp2_with (first
    |(refine⟨trivial,?_⟩;gi_at_call 160;refine(yj l (callsIn_wide.2 af)).q fun w2 d=>?_;have aA:=(d.cell (p:=⟨w.heap.size,0,none⟩) (by simp;omega)).trans az;replace d:=zh d))
   refine⟨trivial,?_⟩;have aN:=d.o.size;refine(yj l (callsIn_wide.2 (D8 (w.heap.size+1) (w.heap.size+1) (Lib.byteCells (txt xs pre)) ⟨dl.toArray⟩ w2 (Fq s1.o d.o) (by rw[wj];have:=aj.o;simp[ByteArray.size];omega) (by omega)))).q fun w5 ⟨ae,am,ap⟩=>?_
   gi_wp2
   refine Hw s1.o s2.o s3.o (bs:=dl) ?_ (by have:=d.o.mono (show w.heap.size+1<=W.heap.size by omega);exact this.trans am) ((Ev d.o).trans ap) (by omega) ?_
   .rw[Eb]at ae;rw[Lib.byteCells_append];exact ae
   .rw[HP.o,zC hq]
 case done=>
  rintro D zs W hD rfl ⟨s1,s2,s3⟩ hK;have aH:=TJ hx.o (List.length_pos_iff.1 h0)
  have ag:(txt xs (Cy xs.length xs.length)).length<=1800:=by
   have:=NO (xs:=xs) hx.o.1 (Cy xs.length xs.length);rw[GK _ _ (zB _)]at this;omega
  rw[aH]at s1 ag;have aB:=BF (lv xs);generalize ak:Lib.decDigits (lv xs)=dl at s1 ag aB;have HDL:=zh ak;clear ak;have aq:=s2.size;have hS:=s1;have av:Below w.heap.size w W:=f5.trans (s2.mono (by omega));replace s1:=zh s1;replace s2:=zh s2;replace s3:=zh s3;have HK:=zh hK;have HBW:=zh av;have F4:=zh f4;clear ar f1 f2 f3 ao an f4 hK av aH;have aa:=Tryz.Builder_Len_f (w.heap.size+1) (w.heap.size+1) (Lib.byteCells dl) W hS;rw[wj]at aa;clear hS
  by_cases h300:300<dl.length
  .have ah:CS dl=.tuple #[.string ⟨#[]⟩,.int .i64 2]:=by unfold CS;rw[zD h300]
   have HLV:=zh ah;clear ah
   gi_wp2_with (first
    |(refine⟨trivial,?_⟩;gi_at_call 163;refine(callsIn_wide.2 aa).mono ?_;rintro e w2 ⟨rfl,rfl⟩))
   refine⟨by simp,.inl ⟨_,_,rfl,wN HK.o,?_⟩⟩;refine⟨.tuple #[.string ⟨#[]⟩,.int .i64 2],by simp[results,results133,go_sem],by rw[HDL.o,HLV.o],?_⟩;exact HBW.o.grown (wE _ D (.deferred none)) HBW.o.size (fun k e=>by cases e;have:=F4.o;omega)
  .have ah:CS dl=.tuple #[.string ⟨dl.toArray⟩,.int .i64 0]:=by unfold CS;rw[zC h300]
   have HLV:=zh ah;clear ah
   gi_wp2_with (first
    |(refine⟨trivial,?_⟩;gi_at_call 163;refine(callsIn_wide.2 aa).mono ?_;rintro e w2 ⟨rfl,rfl⟩))
   have al:=Any.Builder_String_k Tryz.lays169 Tryz.Builder_Extra_169 (w.heap.size+1) (w.heap.size+1) dl w2 s1.o aB;refine⟨trivial,?_⟩;refine(callsIn_wide.2 al).q fun w3 ⟨_,ab,aD⟩=>?_;have ax:w3.heap[D]? = some (.deferred (some [])):=aD D _ HK.o (by intro e;injection e with e;have:=F4.o;omega) (by intro c f e;cases e);have HK3:=zh ax;replace ab:=zh ab;clear aa al ax aD
   gi_wp2
   refine⟨by simp,.inl ⟨_,_,rfl,wN HK3.o,?_⟩⟩;refine⟨.tuple #[.string ⟨dl.toArray⟩,.int .i64 0],by simp[results,results133,go_sem],by rw[HDL.o,HLV.o],?_⟩;exact(HBW.o.trans (ab.o.mono (by omega))).grown (wE _ D (.deferred none)) (by have:=ab.o.size;have:=HBW.o.size;omega) (fun k e=>by cases e;have:=F4.o;omega)
 case stop=>
  rintro D c pre W _ _ h _;exact h.elim
theorem DH(w:World)(v:Value)(n:Nat)(hn:Num w v n)(ab:BM n)(hE:Env w):
 Calls prog 133 #[v] w (KY (Lib.decDigits n) w):=by
 obtain⟨xs,hx,rfl,d⟩:=hn;have hl:=hx.len_le (k:=200) ab
 obtain ⟨b,hb,h⟩:∃b,b<w.heap.size/\SlAt w b v xs:=by
  rcases d.shape with⟨rfl,rfl⟩|⟨b,off,cap,rfl,hb,_,hc⟩
  .exact⟨0,hE.pos,.inl ⟨rfl,0,rfl⟩⟩
  exact⟨b,hb,.inr ⟨off,cap,rfl,hc⟩⟩
 obtain⟨a,cap,rfl,_⟩:=d.addr
 by_cases h0:xs=[]
 .subst h0;refine(OK w a cap).q fun w' aa=>?_;refine⟨?_,aa⟩;rw[lv,vQ (by omega)];rfl
 exact OL w a cap xs hl hx (List.length_pos_iff.2 h0) b hb h hE
end Nt
end
section
open Go.RowKit
namespace Nt
theorem KZ:(prog.info? 202).map (fun i=>(i.zero,i.size,i.bytes))=some (some (.int .u64 0),1,8):=by kernel_rfl
theorem Ec(n:Nat)(hn:n<=1000000)(w:World):
 (Instr.makeSlice 186 (.int .i64 (n:Int)) (.int .i64 (n:Int))).run prog w =
   .ok (.slice (some ⟨w.heap.size,0,none⟩) n n) (w.alloc (.cells (madeCells #[.int .u64 0] n) 202)) :=
 wT 186 202 (.int .u64 0) 8 underlying186 KZ rfl .i64 .i64 n (by omega) (by omega) w
theorem QJ{X Y Z B x y br z br':Nat}(h:Z+Y=X+br*B)(e:z+(y+br)=x+br'*1000000000):
 (Z+B*z)+(Y+B*y)=(X+B*x)+br'*(B*1000000000):=by
 have e2:B*z+(B*y+B*br)=B*x+B*(br'*1000000000):=by
  rw[<-xR,<-xR,<-xR,e]
 have e3:br*B=B*br:=yN _ _;have e4:B*(br'*1000000000)=br'*(B*1000000000):=by rw[<-yf,yN B br',yf]
 omega
def RelSub(B:Nat)(w:World)(xs ys:List Nat)(g:Nat)(k br:Nat)(wr:World):Prop :=
 ∃zs,zs.length=xs.length/\InR zs/\Row 202 wr g zs/\br<=1/\lo zs k+lo ys k=lo xs k+br*1000000000^k/\Below B w wr
theorem RelSub.step{B:Nat}{w wr:World}{xs ys:List Nat}{g k br:Nat}(h:RelSub B w xs ys g k br wr)(hB:B<=g)(hk:k<xs.length){z br':Nat}
 (hz:z<1000000000)(d:br'<=1)(e:z+(lim ys k+br)=lim xs k+br'*1000000000):
 RelSub B w xs ys g (k+1) br' (wr.setCell ⟨g,k,none⟩ (.int .u64 (z:Int))):=by
 obtain⟨zs,h1,h2,h3,h4,h5,h6⟩:=h;refine⟨zs.set k z,by simpa using h1,h2.set k z hz,h3.set k z,d,?_,h6.setCell hB _⟩;rw[Ca,Ca,Ca,V0,TG _ _ _ (by omega),yY];exact QJ h5 e
theorem RelSub.step'{B:Nat}{w wr:World}{xs ys:List Nat}{g k br:Nat}(h:RelSub B w xs ys g k br wr)(hB:B<=g)(hk:k<xs.length){z br':Nat}{y:Int}
 (hz:z<1000000000)(d:br'<=1)(e:z+(lim ys k+br)=lim xs k+br'*1000000000)(hy:y=(z:Int)):
 RelSub B w xs ys g (k+1) br' (wr.setCell ⟨g,k,none⟩ (.int .u64 y)):=by
 subst hy;exact h.step hB hk hz d e
def Cj(B:Nat)(w:World)(n:Nat)(e:Ending)(w':World):Prop :=
 ∃v,e=.returned v/\Num w' v n/\From B v/\Below B w w'
theorem QK(w:World)(a:Option Addr)(cap:Nat)(xs:List Nat)(c:Option Addr)(cap':Nat)(ys:List Nat)(hl:xs.length<=100000)(ap:ys.length<=xs.length)
 (hx:InR xs)(hy:InR ys)(an:lv ys<=lv xs)
 (ha:xs≠[]->∃b off,a=some ⟨b,off,none⟩/\b<w.heap.size/\∀i,i<xs.length->w.cell? ⟨b,off+i,none⟩=some (.int .u64 (lim xs i)))
 (hc:ys≠[]->∃b off,c=some ⟨b,off,none⟩/\b<w.heap.size/\∀i,i<ys.length->w.cell? ⟨b,off+i,none⟩=some (.int .u64 (lim ys i))):
 Calls prog 159 #[.slice a xs.length cap,.slice c ys.length cap'] w (Cj w.heap.size w (lv xs-lv ys)):=by
 have ae:=Ec xs.length (by omega);go_enter func159,ntmps159;go_wp2
 go_loopw [6,15] (fun br i wr=>∃k b:Nat,k<=xs.length/\i=.int .i64 k/\br=.int .u64 b/\RelSub w.heap.size w xs ys w.heap.size k b wr)
  (fun _ i _=>xs.length-(intOf i).toNat)
 case atStart=>exact⟨0,0,zQ _,rfl,rfl,List.replicate xs.length 0,by simp,InR.zeros _,Row.made0 _ _ _,zQ _,by simp[Dz],(zI _ _).alloc (zB _) _⟩
 case round=>
  obtain⟨k,b,hk,rfl,rfl,hrel⟩:=hrel
  by_cases hkn:k<xs.length
  .obtain ⟨bx,ox,ag,ai,ab⟩:=ha (by intro e;simp[e]at hkn);obtain⟨zs,z1,z2,z3,z4,z5,z6⟩:=id hrel;have al:=(z6.cell (p:=⟨bx,ox+k,none⟩) ai).trans (ab k hkn);have ao:=hx.lim k;have ak:=hy.lim k;have ar:=z3.frozen k;have aq:=z3.cell (i:=k) (by omega);subst ag;clear ab ha z2 z3 z5 hx hy ae;replace z6:=zh z6
   by_cases hky:k<ys.length
   .obtain ⟨b2,oy,ah,aj,ad⟩:=hc (by intro e;simp[e]at hky);subst ah;have am:=(Hid.o z6).cell (p:=⟨b2,oy+k,none⟩) aj |>.trans (ad k hky)
    have HR:=zh hrel;clear hrel hc ad z6
    by_cases aa:lim xs k<b+lim ys k
    .go_wp2;exact⟨⟨k+1,1,by omega,by go_num,rfl,HR.o.step' (zB _) hkn (z:=lim xs k+1000000000-(b+lim ys k)) (by omega) (by omega) (by omega) (by omega)⟩,by simp only[intOf];omega⟩
    go_wp2;exact⟨⟨k+1,0,by omega,by go_num,rfl,HR.o.step' (zB _) hkn (z:=lim xs k-(b+lim ys k)) (by omega) (by omega) (by omega) (by omega)⟩,by simp only[intOf];omega⟩
   clear hc z6;have d:=Gs ys k (by omega);have HR:=zh hrel;have HY:=zh d;clear hrel ak d
   by_cases aa:lim xs k<b
   .go_wp2;have:=HY.o;exact⟨⟨k+1,1,by omega,by go_num,rfl,HR.o.step' (zB _) hkn (z:=lim xs k+1000000000-b) (by omega) (by omega) (by omega) (by omega)⟩,by simp only[intOf];omega⟩
   go_wp2;have:=HY.o;exact⟨⟨k+1,0,by omega,by go_num,rfl,HR.o.step' (zB _) hkn (z:=lim xs k-b) (by omega) (by omega) (by omega) (by omega)⟩,by simp only[intOf];omega⟩
  obtain rfl:k=xs.length:=by omega
  obtain⟨zs,z1,z2,z3,z4,z5,z6⟩:=id hrel;have Z1:=zh z1;have Z5:=zh z5;have af:=z3.sl;rw[z1]at af;clear z1 z5 hrel ha hc ae
  go_wp2_with (go_at_call 154;refine(Dj _ _ _ (by have:=Z1.o;omega) af).mono ?_;rintro e w' ⟨v,k,rfl,ht,hs,hf,rfl⟩)
  go_ret;have e5:=Z5.o;have e1:=Z1.o;rw[D9 _ _ (by omega),D9 _ _ (by omega),D9 _ _ (by omega)]at e5;have aa:=KT z2;rw[e1]at aa
  have hb:b=0:=by
   rcases xK b with h|h
   .exact h
   have:1*1000000000^xs.length<=b*1000000000^xs.length:=yv _ h;omega
  rw[hb,xv]at e5;exact⟨v,rfl,⟨zs.take k,ht.canon z2,by rw[ht.lv];omega,hs⟩,hf _ (zB _),z6⟩
theorem NP(w:World)(v u:Value)(n m:Nat)(hn:Num w v n)(hm:Num w u m)(d:m<=n)(hb:BM n):
 Calls prog 159 #[v,u] w (Cj w.heap.size w (n-m)):=by
 obtain⟨xs,hx,rfl,h⟩:=hn;obtain⟨ys,hy,rfl,aa⟩:=hm;have hl:=hx.len_le (k:=200) hb;have ab:=hy.len_mono hx d;obtain⟨a,cap,rfl,ha⟩:=h.addr;obtain⟨c,cap',rfl,hc⟩:=aa.addr;exact QK w a cap xs c cap' ys (by omega) ab hx.1 hy.1 d ha hc
def QL(B:Nat)(w:World)(l:List UInt8)(v:Value)(i:Value)(wr:World):Prop :=
 ∃(k e:Nat)(zs:List Nat)(j:Int),i=.int .i64 j/\e=j.toNat/\j+9*k=l.length/\k<=l.length/\-9<j/\InR zs/\Own 202 B wr v k zs/\AO (l.take e)*1000000000^k+lv zs=AO l/\Below B w wr
theorem Own.from_block{t:TypeId}{B:Nat}{w:World}{v:Value}{n:Nat}{xs:List Nat}(h:Own t B w v n xs)(b:Nat)(e:v.ownBlock=some b):B<=b:=by
 have:=h.from
 cases v<;>simp[Value.ownBlock]at e
 rename_i a l c
 cases a with
 |none=>simp at e
 |some ad=>simp at e;subst e;exact this
theorem OM(s:ByteArray)(w:World)(hs:s.size<=1000)(hd:∀c∈s.data.toList,CG c):
 Calls prog 131 #[.string s] w (Cj w.heap.size w (AO s.data.toList)):=by
 obtain⟨i0,hi,aw,ax,ay⟩:=wZ KZ;have d:s.data.toList.length=s.size:=by simp
 have HSL:=zh d;have HD:=zh hd;clear d hd;go_enter func131,ntmps131;go_wp2
 go_loopw [3,4] (fun v i wr=>QL w.heap.size w s.data.toList v i wr) (fun _ i _=>(intOf i).toNat)
 case atStart=>
  have:=HSL.o;exact⟨0,s.size,[],s.size,rfl,by simp,by omega,by omega,by omega,fun x hx=>absurd hx (by simp),yO _ _ _ _,by rw[xE (by omega)];simp[lv],zI _ _⟩
 case round=>
  obtain⟨k,e,zs,j,rfl,he,hk,ap,hj,z1,z2,z3,z4⟩:=hrel;have d:=HSL.o;rw[d]at hk ap;clear d;have av:=z4.size
  by_cases hp:0<j
  .obtain ⟨q,hq⟩:∃q:Nat,j=(q:Int):=⟨j.toNat,by omega⟩;subst hq;have am:e=q:=by omega
   subst am;have ar:e<=s.size:=by omega
   obtain⟨a,ha⟩:∃a,a=e-9:=⟨_,rfl⟩;have al:a<=e:=by omega
   have aj:=JV (s.extract a e) (by simp;omega) (AO ((s.data.toList.take e).drop a)) ?pc wr
   case pc=>
    have e1:(s.extract a e).data.toList=(s.data.toList.take e).drop a:=by rw[Lib.extract_data,List.drop_take]
    rw[e1];refine KU (fun c hc=>HD.o c (yC (wI hc))) ?_ ?_
    .intro h;have:=congrArg List.length h;simp at this;have:=HSL.o;simp at this;omega
    simp;omega
   have aq:AO ((s.data.toList.take e).drop a)<1000000000:=by
    have h1:=Hl (l:=(s.data.toList.take e).drop a) (fun c hc=>HD.o c (yC (wI hc)));have h2:((s.data.toList.take e).drop a).length<=9:=by simp;omega
    exact zJ h1 (zS (zi (by omega) h2) (by decide))
   have aa:AO (s.data.toList.take a)*1000000000^(k+1)+(lv zs+1000000000^k*AO ((s.data.toList.take e).drop a))=AO s.data.toList:=by
    have ae:s.data.toList.take e=s.data.toList.take a++(s.data.toList.take e).drop a:=by
     have h1:=(yo a (s.data.toList.take e)).symm;rw[List.take_take,Nat.min_eq_left al]at h1;exact h1
    rw[<-z3]
    conv=>rhs;rw[ae,CH]
    have ai:((s.data.toList.take e).drop a).length=e-a:=by
     rw[List.length_drop,yt,HSL.o,Nat.min_eq_left ar]
    rw[ai]
    rcases xK a with h0|h0
    .rw[h0,List.take_zero,FM,xv,xv,yE,yE,yN (1000000000^k)];omega
    have h9:e-a=9:=by omega
    rw[h9,yY,yS,yN (1000000000^k) (AO _)]
    have:AO (s.data.toList.take a)*(1000000000^k*1000000000)=AO (s.data.toList.take a)*10^9*1000000000^k:=by
     rw[yN (1000000000^k),yf,show (10:Nat)^9=1000000000 from rfl]
    omega
   generalize AO ((s.data.toList.take e).drop a)=x at aj aq aa;replace z1:=zh z1;replace z3:=zh z3;replace z4:=zh z4;replace aa:=zh aa;replace he:=zh he;replace hk:=zh hk;have aB:max (0:Int) ((e:Int)-9)=(a:Int):=by omega
   have HA:=zh ha;clear ha
   go_wp2_with (first
    |(go_at_call 153;refine aj.q fun w1 ab=>?_;replace ab:=zh ab)
    |(at_builtin;refine wpList_append_own _ rfl _ _ 186 rfl w.heap.size 202 i0 (.int .u64 0) 1 8 underlying186 hi aw ax ay rfl (by decide) u3 k (Cd zs) rfl ((z2.below ab.o).alloc _) ⟨w1.heap.size,0,none⟩ 1 1 [.int .u64 (x:Int)] rfl rfl (D1 _ _ _) (Di _ _) (by unfold maxLen;omega) (by omega) (by have:=ab.o.size;simp;omega) ?_;intro v2 w2 ad ah _))
   have af:=ab.o;have az:=af.size;rw[F3]at ad;refine⟨⟨k+1,a,zs++[x],(e:Int)-9,rfl,by have:=HA.o;omega,by have:=hk.o;have:=HSL.o;omega,?_,by omega,?_,ad,?_,((z4.o.trans (af.mono av)).alloc (by omega) _).grown ah (by simp;omega) (fun b e=>z2.from_block b e)⟩,by simp only[intOf];omega⟩
   .have:=hk.o;have:=HSL.o;omega
   .intro y hy
    rcases List.mem_append.1 hy with h|h
    .exact z1.o y h
    simp at h;omega
   rw[CX,z2.len];have:=aa.o;simp only[lv,vY,ya];omega
  obtain rfl:e=0:=by omega
  have d:=z2.sl;have ag:=z2.len;have ao:=z2.from;replace z3:=zh z3;replace ag:=zh ag;replace z4:=zh z4;have aA:¬(0:Int)<j:=hp;have ht:=Dj wr u3 zs (by have:=ag.o;omega) d;obtain⟨a3,l3,c3,e3⟩:∃a l c,u3=.slice a l c:=by obtain⟨a,c,h,_⟩:=d;exact⟨a,_,c,h⟩
  subst e3;clear z2 d he hk
  go_wp2_with (go_at_call 154;refine ht.mono ?_;rintro e w' ⟨v,k',rfl,ak,au,an,rfl⟩)
  go_ret;have:=z3.o;rw[List.take_zero,FM,xv,yE]at this;exact⟨v,rfl,⟨zs.take k',ak.canon z1,by rw[ak.lv,this],au⟩,an _ ao,z4.o⟩
def QM(B:Nat)(w:World)(xs ys:List Nat)(v:Value)(k c:Nat)(wr:World):Prop :=
 ∃zs,InR zs/\Own 202 B wr v k zs/\c<=1/\lv zs+c*1000000000^k=lo xs k+lo ys k/\Below B w wr
theorem QN{Z X Y P c c' x y:Nat}(h:Z+c*P=X+Y)(hc:c'=(x+c+y)/1000000000):
 Z+P*((x+c+y)%1000000000)+c'*(P*1000000000)=X+P*x+(Y+P*y):=by
 have e1:P*(x+c+y)=P*x+P*c+P*y:=by rw[xR,xR]
 have e2:P*(x+c+y)=P*((x+c+y)%1000000000)+P*(1000000000*((x+c+y)/1000000000)):=by rw[<-xR,Nat.mod_add_div]
 have e3:c'*(P*1000000000)=P*(1000000000*((x+c+y)/1000000000)):=by rw[hc,yN,yf]
 have e4:c*P=P*c:=yN _ _;omega
theorem Hm{B:Nat}{w wr w':World}{xs ys zs:List Nat}{v v':Value}{k c:Nat}{x:Int}(h1:InR zs)(h2:Own 202 B wr v k zs)(h3:c<=1)
 (h4:lv zs+c*1000000000^k=lo xs k+lo ys k)(h5:Below B w wr)(hx:InR xs)(hy:InR ys)(hB:B<=wr.heap.size){o:Obj}
 (d:w'.ownsRow B 202 1 v' (k+1) (Cd zs++[Value.int .u64 x]))(hg:(wr.alloc o).grownBy w' v.ownBlock)(aa:∀b,v.ownBlock=some b->B<=b)
 (ab:x=(((lim xs k+c+lim ys k)%1000000000:Nat):Int)):
 QM B w xs ys v' (k+1) ((lim xs k+c+lim ys k)/1000000000) w':=by
 have b1:=hx.lim k;have b2:=hy.lim k;subst ab;rw[F3]at d;have hl:=h2.len;refine⟨zs++[(lim xs k+c+lim ys k)%1000000000],?_,d,by omega,?_,(h5.alloc hB o).grown hg (by simp;omega) (fun b e=>aa b e)⟩
 .intro y hy
  rcases List.mem_append.1 hy with h|h
  .exact h1 y h
  simp at h;subst h;exact vF _ (by omega)
 rw[CX,hl,Ca,Ca,yY];simp only[lv,vY,ya];exact QN h4 rfl
theorem IY(a b c:Nat):((a:Int)+b+c)%1000000000=(((a+b+c)%1000000000:Nat):Int):=by
 rw[vT,yr,yr];rfl
theorem IZ(a b c:Nat):((a:Int)+b+c)/1000000000=(((a+b+c)/1000000000:Nat):Int):=by
 rw[vU,yr,yr];rfl
theorem Ja(a b:Nat):((a:Int)+b)%1000000000=(((a+b)%1000000000:Nat):Int):=by
 rw[vT,yr];rfl
theorem Jb(a b:Nat):((a:Int)+b)/1000000000=(((a+b)/1000000000:Nat):Int):=by
 rw[vU,yr];rfl
theorem NQ{B:Nat}{w wr w':World}{xs ys zs:List Nat}{v v':Value}{c:Nat}{x:Int}(h1:InR zs)(h2:Own 202 B wr v xs.length zs)(h3:c<=1)
 (h4:lv zs+c*1000000000^xs.length=lo xs xs.length+lo ys xs.length)(h5:Below B w wr)(ad:ys.length<=xs.length)(hB:B<=wr.heap.size){o:Obj}
 (d:w'.ownsRow B 202 1 v' (xs.length+1) (Cd zs++[Value.int .u64 x]))(hg:(wr.alloc o).grownBy w' v.ownBlock)(aa:∀b,v.ownBlock=some b->B<=b)(ab:x=(c:Int)):
 ∃us,InR us/\Sl w' v' us/\us.length=xs.length+1/\lv us=lv xs+lv ys/\Below B w w':=by
 subst ab;rw[F3]at d;have hl:=h2.len;have ho:Own 202 B w' v' (xs.length+1) (zs++[c]):=d;refine⟨zs++[c],?_,ho.sl,ho.len,?_,(h5.alloc hB o).grown hg (by simp;omega) (fun b e=>aa b e)⟩
 .intro y hy
  rcases List.mem_append.1 hy with h|h
  .exact h1 y h
  simp at h;omega
 rw[D9 _ _ (zB _),D9 _ _ ad]at h4;rw[CX,hl];simp only[lv,vY,ya];have:c*1000000000^xs.length=1000000000^xs.length*c:=yN _ _;omega
def La(B:Nat)(w:World)(xs ys:List Nat)(g cap:Nat)(out carry i:Value)(wr:World):Prop :=
 ∃k c:Nat,k<=xs.length/\i=.int .i64 k/\carry=.int .u64 c/\out=.slice (some ⟨g,0,none⟩) k cap/\QM B w xs ys out k c wr
theorem QO(w:World)(a:Option Addr)(cap:Nat)(xs:List Nat)(c:Option Addr)(cap':Nat)(ys:List Nat)(hl:xs.length<=1000)(av:ys.length<=xs.length)
 (hx:InR xs)(hy:InR ys)
 (ha:xs≠[]->∃b off,a=some ⟨b,off,none⟩/\b<w.heap.size/\∀i,i<xs.length->w.cell? ⟨b,off+i,none⟩=some (.int .u64 (lim xs i)))
 (hc:ys≠[]->∃b off,c=some ⟨b,off,none⟩/\b<w.heap.size/\∀i,i<ys.length->w.cell? ⟨b,off+i,none⟩=some (.int .u64 (lim ys i))):
 Calls prog 165 #[.slice a xs.length cap,.slice c ys.length cap'] w (Cj w.heap.size w (lv xs+lv ys)):=by
 obtain⟨i0,hi,an,ae,ao⟩:=wZ KZ;have ar:¬xs.length<ys.length:=by omega
 go_enter func165,ntmps165
 go_wp2_with (at_make;refine wpList_make_own _ rfl _ _ 186 rfl w.heap.size 202 i0 (.int .u64 0) 1 underlying186 hi an ae _ _ _ (xs.length+1) rfl rfl (by omega) (by rw[ao];omega) (by unfold maxLen;omega) (zB _) ?_;intro w1 ab ad)
 go_loopw [5,6,22] (fun out carry i wr=>La w.heap.size w xs ys w.heap.size (xs.length+1) out carry i wr)
  (fun _ _ i _=>xs.length-(intOf i).toNat)
 case atStart=>exact⟨0,0,zQ _,rfl,rfl,rfl,[],(fun x hx=>absurd hx (by simp)),ab,zQ _,by simp[Dz,lv],(zI _ _).grown ad (zB _) (fun k h=>by cases h)⟩
 case round=>
  obtain⟨k,b,hk,rfl,rfl,rfl,zs,z1,z2,z3,z4,z5⟩:=hrel;have af:=z5.size
  by_cases hkn:k<xs.length
  .obtain ⟨bx,ox,ai,ak,ag⟩:=ha (by intro e;simp[e]at hkn);have ap:=(z5.cell (p:=⟨bx,ox+k,none⟩) ak).trans (ag k hkn);have au:=hx.lim k;have am:=hy.lim k;subst ai;clear ag ha ab ad
   by_cases hky:k<ys.length
   .obtain⟨b2,oy,aj,al,ah⟩:=hc (by intro e;simp[e]at hky);subst aj;have aq:=z5.cell (p:=⟨b2,oy+k,none⟩) al |>.trans (ah k hky)
    replace z1:=zh z1;replace z4:=zh z4;replace z5:=zh z5;replace hx:=zh hx;replace hy:=zh hy;have HO:=z2;clear hc ah
    go_wp2_with (at_builtin;refine xz _ rfl _ _ 186 rfl w.heap.size 202 i0 1 underlying186 hi ae w.heap.size k (xs.length+1) (Cd zs) rfl (HO.alloc _) ⟨wr.heap.size,0,none⟩ 1 1 [.int .u64 (((lim xs k:Int)+b+lim ys k)%1000000000)] rfl rfl (D1 _ _ _) (Di _ _) (by omega) ?_;intro w2 d aa)
    refine⟨⟨k+1,(lim xs k+b+lim ys k)/1000000000,by omega,by go_num,congrArg (Value.int .u64) (IZ _ _ _),rfl,?_⟩,by simp only[intOf];omega⟩;exact Hm z1.o z2 z3 z4.o z5.o hx.o hy.o af d aa (fun b e=>by cases e;exact zB _) (IY _ _ _)
   have HY0:=zh (Gs ys k (by omega));replace z1:=zh z1;replace z4:=zh z4;replace z5:=zh z5;replace hx:=zh hx;replace hy:=zh hy;have HO:=z2;clear hc am
   go_wp2_with (at_builtin;refine xz _ rfl _ _ 186 rfl w.heap.size 202 i0 1 underlying186 hi ae w.heap.size k (xs.length+1) (Cd zs) rfl (HO.alloc _) ⟨wr.heap.size,0,none⟩ 1 1 [.int .u64 (((lim xs k:Int)+b)%1000000000)] rfl rfl (D1 _ _ _) (Di _ _) (by omega) ?_;intro w2 d aa)
   have e0:=HY0.o;refine⟨⟨k+1,(lim xs k+b+lim ys k)/1000000000,by omega,by go_num,?_,rfl,?_⟩,by simp only[intOf];omega⟩
   .rw[e0,ya];exact congrArg (Value.int .u64) (Jb _ _)
   exact Hm z1.o z2 z3 z4.o z5.o hx.o hy.o af d aa (fun b e=>by cases e;exact zB _) (by rw[e0,ya];exact Ja _ _)
  obtain rfl:k=xs.length:=by omega
  replace z1:=zh z1;replace z4:=zh z4;replace z5:=zh z5;have HO:=z2;clear ha hc hx hy ab ad
  go_wp2_with (at_builtin;refine xz _ rfl _ _ 186 rfl w.heap.size 202 i0 1 underlying186 hi ae w.heap.size xs.length (xs.length+1) (Cd zs) rfl (HO.alloc _) ⟨wr.heap.size,0,none⟩ 1 1 [.int .u64 (b:Int)] rfl rfl (D1 _ _ _) (Di _ _) (by omega) ?_;intro w2 d aa)
  obtain⟨us,u1,u2,u3,u4,u5⟩:=NQ z1.o z2 z3 z4.o z5.o (by omega) af d aa (fun b e=>by cases e;exact zB _) rfl;have U3:=zh u3;have U4:=zh u4;clear u3 u4 d aa;refine(Dj _ _ us (by have:=U3.o;omega) u2).mono ?_;rintro e w' ⟨v,k,rfl,ht,hs,hf,rfl⟩;go_wp2;go_ret;exact⟨v,rfl,⟨us.take k,ht.canon u1,by rw[ht.lv,U4.o],hs⟩,hf _ (zB _),u5⟩
theorem IK(w:World)(a:Option Addr)(cap:Nat)(xs:List Nat)(c:Option Addr)(cap':Nat)(ys:List Nat)(hl:xs.length<=1000)(an:ys.length<xs.length)
 (hx:InR xs)(hy:InR ys)
 (ha:xs≠[]->∃b off,a=some ⟨b,off,none⟩/\b<w.heap.size/\∀i,i<xs.length->w.cell? ⟨b,off+i,none⟩=some (.int .u64 (lim xs i)))
 (hc:ys≠[]->∃b off,c=some ⟨b,off,none⟩/\b<w.heap.size/\∀i,i<ys.length->w.cell? ⟨b,off+i,none⟩=some (.int .u64 (lim ys i))):
 Calls prog 165 #[.slice c ys.length cap',.slice a xs.length cap] w (Cj w.heap.size w (lv xs+lv ys)):=by
 obtain⟨i0,hi,ao,ae,ap⟩:=wZ KZ;have au:ys.length<xs.length:=an;go_enter func165,ntmps165
 go_wp2_with (at_make;refine wpList_make_own _ rfl _ _ 186 rfl w.heap.size 202 i0 (.int .u64 0) 1 underlying186 hi ao ae _ _ _ (xs.length+1) rfl rfl (by omega) (by rw[ap];omega) (by unfold maxLen;omega) (zB _) ?_;intro w1 ab ad)
 go_loopw [5,6,22] (fun out carry i wr=>La w.heap.size w xs ys w.heap.size (xs.length+1) out carry i wr)
  (fun _ _ i _=>xs.length-(intOf i).toNat)
 case atStart=>exact⟨0,0,zQ _,rfl,rfl,rfl,[],(fun x hx=>absurd hx (by simp)),ab,zQ _,by simp[Dz,lv],(zI _ _).grown ad (zB _) (fun k h=>by cases h)⟩
 case round=>
  obtain⟨k,b,hk,rfl,rfl,rfl,zs,z1,z2,z3,z4,z5⟩:=hrel;have af:=z5.size
  by_cases hkn:k<xs.length
  .obtain ⟨bx,ox,ai,ak,ag⟩:=ha (by intro e;simp[e]at hkn);have aq:=(z5.cell (p:=⟨bx,ox+k,none⟩) ak).trans (ag k hkn);have av:=hx.lim k;have am:=hy.lim k;subst ai;clear ag ha ab ad
   by_cases hky:k<ys.length
   .obtain⟨b2,oy,aj,al,ah⟩:=hc (by intro e;simp[e]at hky);subst aj;have ar:=z5.cell (p:=⟨b2,oy+k,none⟩) al |>.trans (ah k hky)
    replace z1:=zh z1;replace z4:=zh z4;replace z5:=zh z5;replace hx:=zh hx;replace hy:=zh hy;have HO:=z2;clear hc ah
    go_wp2_with (at_builtin;refine xz _ rfl _ _ 186 rfl w.heap.size 202 i0 1 underlying186 hi ae w.heap.size k (xs.length+1) (Cd zs) rfl (HO.alloc _) ⟨wr.heap.size,0,none⟩ 1 1 [.int .u64 (((lim xs k:Int)+b+lim ys k)%1000000000)] rfl rfl (D1 _ _ _) (Di _ _) (by omega) ?_;intro w2 d aa)
    refine⟨⟨k+1,(lim xs k+b+lim ys k)/1000000000,by omega,by go_num,congrArg (Value.int .u64) (IZ _ _ _),rfl,?_⟩,by simp only[intOf];omega⟩;exact Hm z1.o z2 z3 z4.o z5.o hx.o hy.o af d aa (fun b e=>by cases e;exact zB _) (IY _ _ _)
   have HY0:=zh (Gs ys k (by omega));replace z1:=zh z1;replace z4:=zh z4;replace z5:=zh z5;replace hx:=zh hx;replace hy:=zh hy;have HO:=z2;clear hc am
   go_wp2_with (at_builtin;refine xz _ rfl _ _ 186 rfl w.heap.size 202 i0 1 underlying186 hi ae w.heap.size k (xs.length+1) (Cd zs) rfl (HO.alloc _) ⟨wr.heap.size,0,none⟩ 1 1 [.int .u64 (((lim xs k:Int)+b)%1000000000)] rfl rfl (D1 _ _ _) (Di _ _) (by omega) ?_;intro w2 d aa)
   have e0:=HY0.o;refine⟨⟨k+1,(lim xs k+b+lim ys k)/1000000000,by omega,by go_num,?_,rfl,?_⟩,by simp only[intOf];omega⟩
   .rw[e0,ya];exact congrArg (Value.int .u64) (Jb _ _)
   exact Hm z1.o z2 z3 z4.o z5.o hx.o hy.o af d aa (fun b e=>by cases e;exact zB _) (by rw[e0,ya];exact Ja _ _)
  obtain rfl:k=xs.length:=by omega
  replace z1:=zh z1;replace z4:=zh z4;replace z5:=zh z5;have HO:=z2;clear ha hc hx hy ab ad
  go_wp2_with (at_builtin;refine xz _ rfl _ _ 186 rfl w.heap.size 202 i0 1 underlying186 hi ae w.heap.size xs.length (xs.length+1) (Cd zs) rfl (HO.alloc _) ⟨wr.heap.size,0,none⟩ 1 1 [.int .u64 (b:Int)] rfl rfl (D1 _ _ _) (Di _ _) (by omega) ?_;intro w2 d aa)
  obtain⟨us,u1,u2,u3,u4,u5⟩:=NQ z1.o z2 z3 z4.o z5.o (by omega) af d aa (fun b e=>by cases e;exact zB _) rfl;have U3:=zh u3;have U4:=zh u4;clear u3 u4 d aa;refine(Dj _ _ us (by have:=U3.o;omega) u2).mono ?_;rintro e w' ⟨v,k,rfl,ht,hs,hf,rfl⟩;go_wp2;go_ret;exact⟨v,rfl,⟨us.take k,ht.canon u1,by rw[ht.lv,U4.o],hs⟩,hf _ (zB _),u5⟩
theorem TK(w:World)(v u:Value)(n m:Nat)(hn:Num w v n)(hm:Num w u m)(aa:BM n)(d:BM m):
 Calls prog 165 #[v,u] w (Cj w.heap.size w (n+m)):=by
 obtain⟨xs,hx,rfl,ab⟩:=hn;obtain⟨ys,hy,rfl,ad⟩:=hm;have hl:=hx.len_le (k:=200) aa;have ae:=hy.len_le (k:=200) d;obtain⟨a,cap,rfl,ha⟩:=ab.addr;obtain⟨c,cap',rfl,hc⟩:=ad.addr
 by_cases h:ys.length<=xs.length
 .exact QO w a cap xs c cap' ys (by omega) h hx.1 hy.1 ha hc
 rw[Nat.add_comm];exact IK w c cap' ys a cap xs (by omega) (by omega) hy.1 hx.1 hc ha
end Nt
end
section
open Go.RowKit Go.Shelf
attribute [local go_sem] Oper.semAt_some
namespace Nt
def BG(x y:Nat):Int:=if x<y then -1 else if y<x then 1 else 0
theorem WL(x y:Nat)(w:World):
 Calls prog 194 #[.int .u64 (x:Int),.int .u64 (y:Int)] w fun e w'=>e=.returned (.int .i64 (BG x y))/\w=w':=by
 have h:x<y\/(¬x<y/\y<x)\/(¬x<y/\¬y<x):=by omega
 unfold BG
 rcases h with h|⟨h,h'⟩|⟨h,h'⟩
 all_goals
  go_enter func194,ntmps194;go_wp2;go_ret
  simp_all
theorem X7(x y:Nat)(w:World):
 Calls prog 70 #[.int .i64 (x:Int),.int .i64 (y:Int)] w fun e w'=>e=.returned (.int .i64 (BG x y))/\w=w':=by
 have h:x<y\/(¬x<y/\y<x)\/(¬x<y/\¬y<x):=by omega
 unfold BG
 rcases h with h|⟨h,h'⟩|⟨h,h'⟩
 all_goals
  go_enter func70,ntmps70;go_wp2;go_ret
  simp_all
theorem Jc(x:Nat)(w:World):
 Calls prog 70 #[.int .i64 (x:Int),.int .i64 (x:Int)] w fun e w'=>e=.returned (.int .i64 0)/\w=w':=by
 go_enter func70,ntmps70;go_wp2;go_ret;exact⟨rfl,rfl⟩
theorem Jd(x:Nat)(w:World):
 Calls prog 194 #[.int .u64 (x:Int),.int .u64 (x:Int)] w fun e w'=>e=.returned (.int .i64 0)/\w=w':=by
 go_enter func194,ntmps194;go_wp2;go_ret;exact⟨rfl,rfl⟩
theorem Ed{x y:Nat}(h:x<y):BG x y=-1:=by simp[BG,h]
theorem FN{x y:Nat}(h:y<x):BG x y=1:=by unfold BG;rw[zC (by omega),zD h]
theorem NR(x:Nat):BG x x=0:=by simp[BG]
theorem Je{x y:Nat}(h:BG x y=0):x=y:=by
 unfold BG at h
 split at h
 .cases h
 split at h
 .cases h
 omega
theorem KeepsOthers.of_below{W W':World}(h:Below W.heap.size W W'):KeepsOthers W W' :=
 ⟨h.size,fun k _ hk _=>(h.block k (Array.getElem?_eq_some_iff.1 hk).1).trans hk⟩
theorem Lb(w:World)(a:Option Addr)(n cap:Nat)(c:Option Addr)(m cap':Nat)(d:n≠m):
 Calls prog 156 #[.slice a n cap,.slice c m cap'] w fun e w'=>e=.returned (.int .i64 (BG n m))/\Below w.heap.size w w':=by
 have aa:(BG n m != 0)=true:=by
  rw[zy];intro h;exact d (Je h)
 go_enter func156,ntmps156
 go_wp2_with (go_at_call 70;refine(X7 n m _).mono ?_;rintro e w' ⟨rfl,rfl⟩)
 refine zm (v:=.int .i64 (BG n m)) (by simp[results,results156,go_sem]) rfl ⟨rfl,?_⟩;exact((zI _ w).alloc (zB _) _).alloc (by simp) _
theorem Lc{n:Nat}(k:Nat)(hk:k<=n)(p:B5 n):p∈Cy n k<->n-k<=p.1:=by
 induction k with
 |zero=>simp[CZ];omega
 |succ k ih=>
  rw[Cz n k (by omega),yQ,ih (by omega)];simp only[yW,yK,xy];constructor
  .rintro(h|h)
   .omega
   have hv:=congrArg Subtype.val h;dsimp only at hv;omega
  intro h
  by_cases e:p.1=n-1-k
  .right;exact Subtype.ext e
  left;omega
theorem Ld{xs ys:List Nat}(he:xs.length=ys.length)(k:Nat)(hk:k<=xs.length)(h:∀j,k<=j->j<xs.length->lim xs j=lim ys j):lv xs+lo ys k=lv ys+lo xs k:=by
 obtain⟨d,hd⟩:∃d,k+d=xs.length:=⟨xs.length-k,by omega⟩
 induction d generalizing k with
 |zero=>rw[D9 ys k (by omega),D9 xs k (by omega)];omega
 |succ d ih=>
  have:=ih (k+1) (by omega) (fun j h1 h2=>h j (by omega) h2) (by omega);rw[Ca,Ca,h k (zB _) (by omega)]at this;omega
theorem Mm{xs ys:List Nat}(he:xs.length=ys.length)(h:∀p:B5 xs.length,p∈Cy xs.length xs.length->lim xs p.1=lim ys p.1):lv xs=lv ys:=by
 have:=Ld he 0 (zQ _) (fun j _ hj=>h ⟨j,hj⟩ ((Lc _ (zB _) _).2 (by simp)));rw[Dz,Dz]at this;omega
theorem Hx{A a B b P x y:Nat}(h:A+(b+P*y)=B+(a+P*x))(ha:a<P)(d:x<y):A<B:=by
 have:P*(x+1)<=P*y:=xP _ d;rw[xR]at this;omega
theorem Le{xs ys:List Nat}(he:xs.length=ys.length)(hx:InR xs)(hy:InR ys){k:Nat}(hk:k<=xs.length){pre:List (B5 xs.length)}{x:B5 xs.length}(hp:Cy xs.length k=pre++[x])
 (d:∀p:B5 xs.length,p∈pre->lim xs p.1=lim ys p.1)(aa:lim xs x.1≠lim ys x.1):BG (lv xs) (lv ys)=BG (lim xs x.1) (lim ys x.1):=by
 cases k with
 |zero=>rw[CZ]at hp;simp at hp
 |succ k=>
  rw[Cz _ _ (by omega)]at hp;obtain⟨h1,h2⟩:=List.append_inj' hp rfl;simp only[List.cons.injEq,and_true]at h2;subst h1;have hv:xs.length-1-k=x.1:=congrArg Subtype.val h2;rw[<-hv]at aa ⊢;clear h2 hp hv;have:=Ld he (xs.length-1-k+1) (by omega) (fun j h1 h2=>d ⟨j,h2⟩ ((Lc k (by omega) _).2 (by simp;omega)));rw[Ca,Ca]at this;have a1:=Vf hx (xs.length-1-k);have a2:=Vf hy (xs.length-1-k)
  rcases wn (lim xs (xs.length-1-k)) (lim ys (xs.length-1-k)) with h|h
  .rw[Ed h,Ed (Hx this a1 h)]
  have h':lim ys (xs.length-1-k)<lim xs (xs.length-1-k):=by omega
  rw[FN h',FN (Hx this.symm a2 h')]
theorem Mn(w:World)(a:Option Addr)(cap:Nat)(xs:List Nat)(c:Option Addr)(cap':Nat)(ys:List Nat)(he:xs.length=ys.length)(hl:xs.length<=1000000)(hx:Hid (InR xs))(hy:Hid (InR ys))(b:Nat)(hb:b<w.heap.size)
 (ha:SlAt w b (.slice a xs.length cap) xs)
 (hc:ys≠[]->∃b off,c=some ⟨b,off,none⟩/\b<w.heap.size/\∀i,i<ys.length->w.cell? ⟨b,off+i,none⟩=some (.int .u64 (lim ys i))):
 Calls prog 156 #[.slice a xs.length cap,.slice c ys.length cap'] w fun e w'=>e=.returned (.int .i64 (BG (lv xs) (lv ys)))/\Below w.heap.size w w':=by
 have HEQ:=zh he;refine(callsIn_wide (n:=9)).1 ?_;refine vA func156 rfl trivial ?_ rfl;simp only[ntmps156,xJ,zZ,ye,Nat.reduceAdd,Nat.reduceSub,xB,xC,xS,xG,yT,yi];rw[<-he];have HE:=zh he;clear he
 gi_wp2_with (first
  |(refine⟨trivial,?_⟩;gi_at_call 70;refine(callsIn_wide.2 (Jc xs.length _)).mono ?_;rintro e w' ⟨rfl,rfl⟩)
  |(gi_at_call 70;refine(callsIn_wide.2 (Jc xs.length _)).mono ?_;rintro e w' ⟨rfl,rfl⟩)
  |(refine⟨trivial,?_⟩;gi_at_call 155;refine(Da Fence.wide _ trivial rfl _ _ _ _).mono ?_;rintro e w' ⟨rfl,rfl⟩)
  |(gi_at_call 155;refine(Da Fence.wide _ trivial rfl _ _ _ _).mono ?_;rintro e w' ⟨rfl,rfl⟩))
 have aa:Below w.heap.size w (((w.alloc (.cells #[.slice c xs.length cap'] 186)).alloc (.cells #[.int .i64 0] 3)).alloc (.cells #[.slice a xs.length cap] 186)) :=
  (((zI _ w).alloc (zB _) _).alloc (by simp) _).alloc (by simp;omega) _
 have hm:(((w.alloc (.cells #[.slice c xs.length cap'] 186)).alloc (.cells #[.int .i64 0] 3)).alloc (.cells #[.slice a xs.length cap] 186)).cell? ⟨w.heap.size,0,none⟩=some (.slice c xs.length cap'):=by go_simp
 have hr:(((w.alloc (.cells #[.slice c xs.length cap'] 186)).alloc (.cells #[.int .i64 0] 3)).alloc (.cells #[.slice a xs.length cap] 186)).cell? ⟨w.heap.size+1,0,none⟩=some (.int .i64 0):=by go_simp
 have ae:(((w.alloc (.cells #[.slice c xs.length cap'] 186)).alloc (.cells #[.int .i64 0] 3)).alloc (.cells #[.slice a xs.length cap] 186)).frozen? ⟨w.heap.size+1,0,none⟩=false:=by go_simp
 have af:(((w.alloc (.cells #[.slice c xs.length cap'] 186)).alloc (.cells #[.int .i64 0] 3)).alloc (.cells #[.slice a xs.length cap] 186)).cell? ⟨w.heap.size+1+1,0,none⟩=some (.slice a xs.length cap):=by go_simp
 have aq:(((w.alloc (.cells #[.slice c xs.length cap'] 186)).alloc (.cells #[.int .i64 0] 3)).alloc (.cells #[.slice a xs.length cap] 186)).heap.size=w.heap.size+3:=by simp
 generalize (((w.alloc (.cells #[.slice c xs.length cap'] 186)).alloc (.cells #[.int .i64 0] 3)).alloc (.cells #[.slice a xs.length cap] 186))=W1 at aa hm hr ae af aq ⊢
 have ag:∀i,i<xs.length->∃b off,c=some ⟨b,off,none⟩/\W1.cell? ⟨b,off+i,none⟩=some (.int .u64 (lim ys i))/\b<W1.heap.size:=fun i hi=>by
  have e:=HE.o;obtain⟨b2,o2,h1,h2,h3⟩:=hc (by intro e2;rw[e2]at e;simp only[ye]at e;omega);exact⟨b2,o2,h1,(aa.cell (p:=⟨b2,o2+i,none⟩) h2).trans (h3 i (by omega)),by omega⟩
 have ah:SlAt W1 b (.slice a xs.length cap) xs:=ha.keep (c:=b) (Keep2.of_below aa hb hb);clear hc ha HE
 refine wpIn_rangeFunc_ownF rfl (by decide) (gf:=193) (lb:=#[.pointer (some ⟨w.heap.size+1+1,0,none⟩)]) rfl trivial (enters_of func193 (by kernel_rfl) rfl)
  (F5 Fence.wide _ trivial rfl (by decide) (w.heap.size+1+1) b _ xs hl W1 (by omega) (by omega) af ah) (fun h k=>h.trans k)
  (fun W l o o' hl h ho hw=>?kb) (zI _ _) (fun _=>rfl)
  (fun pre W=>(∀p∈pre,lim xs p.1=lim ys p.1)/\Below W1.heap.size W1 W)
  (fun c pre W=>c=.ret/\∃x pre',pre=pre'++[x]/\(∀p∈pre',lim xs p.1=lim ys p.1)/\lim xs x.1≠lim ys x.1/\W.cell? ⟨w.heap.size+1,0,none⟩=some (.int .i64 (BG (lim xs x.1) (lim ys x.1)))/\Below w.heap.size w W)
  (OwnFrom.and (ownFrom_pure _ _) (ownFrom_below (zB _) (zB _)))
  (fun c s A B row hs hg am=>?ix)
  ⟨by simp,zI _ _⟩
  (fun x=>{ tmps:=#[.slice a xs.length cap,.slice c xs.length cap',undef,.pointer (some ⟨w.heap.size,0,none⟩),.pointer (some ⟨w.heap.size+1,0,none⟩),.int .i64 0,.int .i64 (x.1:Int),.int .u64 (lim xs x.1),undef,
    .slice a xs.length cap,.int .i64 xs.length,.slice c xs.length cap',.int .i64 xs.length,.int .i64 0,.int .i64 0,.bool false,undef,.slice a xs.length cap,
    .func (.func 193) #[] #[.pointer (some ⟨w.heap.size+1+1,0,none⟩)],.int .i64 (x.1:Int),.int .u64 (lim xs x.1),undef,undef,undef,undef,undef,undef,undef,undef,undef],defers:=[] })
  ?assign ?body ?done ?stop
 case kb=>
  have h1:=(Array.getElem?_eq_some_iff.1 h).1;exact⟨yc (by omega),yc (by omega)⟩
 case ix=>
  obtain⟨e,x,pre',e1,e2,e3,e4,e5⟩:=hs;refine⟨e,x,pre',e1,e2,e3,cell_kept e4 hg (fun r e=>(am r e).2),e5.grown hg e5.size (fun k e=>?_)⟩;have:=(am k e).1;omega
 case assign=>
  intro l x W K hK
  gi_wp2
  exact hK
 case body=>
  rintro l pre x W ⟨ab,d⟩ ar;have av:=(d.cell (p:=⟨w.heap.size,0,none⟩) (by simp;omega)).trans hm;have ak:=(d.cell (p:=⟨w.heap.size+1,0,none⟩) (by simp;omega)).trans hr;have an:=(d.frozen (p:=⟨w.heap.size+1,0,none⟩) (by simp;omega)).trans ae;obtain⟨b2,o2,ap,al,ao⟩:=ag x.1 x.2;have ai:=(d.cell (p:=⟨b2,o2+x.1,none⟩) ao).trans al;obtain⟨i,hi⟩:=x;dsimp only at ai ⊢;subst ap;have HP:=zh ab;have HB:=zh d;have HB1:=zh aa;clear ab d aa ag ah hm hr ae af al
  by_cases hq:lim xs i=lim ys i
  .have HQ:=zh hq;rw[<-hq]at ai;clear hq
   gi_wp2_with (first
    |(refine⟨trivial,?_⟩;gi_at_call 194;refine(yj l (callsIn_wide.2 (Jd (lim xs i) _))).mono ?_;rintro e w' ⟨rfl,rfl⟩)
    |(gi_at_call 194;refine(yj l (callsIn_wide.2 (Jd (lim xs i) _))).mono ?_;rintro e w' ⟨rfl,rfl⟩))
   refine⟨KeepsOthers.of_below (zI _ _),Keep2.refl _ _ _,?_,HB.o⟩;intro p hp
   rcases List.mem_append.1 hp with h|h
   .exact HP.o p h
   simp only[yW,yK,xy]at h;subst h;exact HQ.o
  .have au:(BG (lim xs i) (lim ys i) != 0)=true:=by rw[zy];intro h;exact hq (Je h)
   have HQ:=zh hq;clear hq
   gi_wp2_with (first
    |(refine⟨trivial,?_⟩;gi_at_call 194;refine(yj l (callsIn_wide.2 (WL (lim xs i) (lim ys i) _))).mono ?_;rintro e w' ⟨rfl,rfl⟩)
    |(gi_at_call 194;refine(yj l (callsIn_wide.2 (WL (lim xs i) (lim ys i) _))).mono ?_;rintro e w' ⟨rfl,rfl⟩))
   exact⟨xu _ _ _,rfl,⟨i,hi⟩,pre,rfl,HP.o,HQ.o,World.cell?_setCell_same' _ _ _ (by rw[ak];rfl),(HB1.o.trans (HB.o.mono (by omega))).setCell (by simp) _⟩
 case done=>
  rintro D zs W hD rfl ⟨ad,d⟩ hK;have ak:=(d.cell (p:=⟨w.heap.size+1,0,none⟩) (by simp;omega)).trans hr;have an:=(d.frozen (p:=⟨w.heap.size+1,0,none⟩) (by simp;omega)).trans ae;have HA:=zh ad;have HB:=zh (aa.trans (d.mono (by omega)));clear ad d aa ag ah hm hr ae af
  gi_wp2
  refine⟨by simp,.inl ⟨_,_,rfl,wN (((xu W ⟨w.heap.size+1,0,none⟩ (.int .i64 0)).same D _ hK rfl)),?_⟩⟩
  have aj:((W.setCell ⟨w.heap.size+1,0,none⟩ (.int .i64 0)).putObj D (.deferred none)).cell? ⟨w.heap.size+1,0,none⟩=some (.int .i64 0) :=
   cell_kept (World.cell?_setCell_same' _ _ _ (by rw[ak];rfl)) (wE _ D (.deferred none)) (fun r e=>by cases e;exact⟨_,(xu W ⟨w.heap.size+1,0,none⟩ (.int .i64 0)).same D _ hK rfl,rfl⟩)
  have ad:lv xs=lv ys:=Mm HEQ.o HA.o;rw[ad,NR];refine⟨.int .i64 0,by simp[results,results156,go_sem,aj],rfl,?_⟩;exact(HB.o.setCell (p:=⟨w.heap.size+1,0,none⟩) (by simp) _).grown (wE _ D _) (by have:=HB.o.size;simp[World.setCell];omega) (fun k e=>by cases e;omega)
 case stop=>
  rintro D c pre W hD ⟨k,hk,ab⟩ ⟨rfl,x,pre',h1,h2,h3,h4,h5⟩ hK;have H2:=zh h2;have H3:=zh h3;have H5:=zh h5;have HPR:=zh (ab.symm.trans h1);clear h2 h3 h5 ab h1 aa ag ah hm hr ae af
  gi_wp2
  refine⟨by simp,.inl ⟨_,_,rfl,wN hK,?_⟩⟩
  have aj:(W.putObj D (.deferred none)).cell? ⟨w.heap.size+1,0,none⟩=some (.int .i64 (BG (lim xs x.1) (lim ys x.1))) :=
   cell_kept h4 (wE _ D (.deferred none)) (fun r e=>by cases e;exact⟨_,hK,rfl⟩)
  rw[Le HEQ.o hx.o hy.o hk HPR.o H2.o H3.o];refine⟨.int .i64 (BG (lim xs x.1) (lim ys x.1)),by simp[results,results156,go_sem,aj],rfl,?_⟩;exact H5.o.grown (wE _ D _) H5.o.size (fun k e=>by cases e;omega)
theorem SlAt.of{w:World}{v:Value}{xs:List Nat}(h:Sl w v xs)(h0:0<w.heap.size):∃b,b<w.heap.size/\SlAt w b v xs:=by
 rcases h.shape with⟨rfl,rfl⟩|⟨b,off,cap,rfl,hb,_,hc⟩
 .exact⟨0,h0,.inl ⟨rfl,0,rfl⟩⟩
 exact⟨b,hb,.inr ⟨off,cap,rfl,hc⟩⟩
theorem E5(w:World)(v u:Value)(n m:Nat)(hn:Num w v n)(hm:Num w u m)(ad:BM n)(h0:0<w.heap.size):
 Calls prog 156 #[v,u] w fun e w'=>e=.returned (.int .i64 (BG n m))/\Below w.heap.size w w':=by
 obtain⟨xs,hx,rfl,d⟩:=hn;obtain⟨ys,hy,rfl,aa⟩:=hm;have hl:=hx.len_le (k:=200) ad
 by_cases he:xs.length=ys.length
 .obtain⟨b,hb,ab⟩:=SlAt.of d h0;obtain⟨a,cap,rfl,_⟩:=d.addr;obtain⟨c,cap',rfl,hc⟩:=aa.addr;exact Mn w a cap xs c cap' ys he (by omega) hx.1 hy.1 b hb ab hc
 obtain⟨a,cap,rfl,_⟩:=d.addr;obtain⟨c,cap',rfl,hc⟩:=aa.addr;refine(Lb w a xs.length cap c ys.length cap' he).q fun w' hb=>?_;refine⟨?_,hb⟩
 rcases wn xs.length ys.length with h|h
 .have h1:=KT hx.1;have h2:=hy.ge (by intro e;simp[e]at h);have h3:1000000000^xs.length<=1000000000^(ys.length-1):=zi (by omega) (by omega);rw[Ed h,Ed (by omega)]
 have h':ys.length<xs.length:=by omega
 have h1:=KT hy.1;have h2:=hx.ge (by intro e;simp[e]at h');have h3:1000000000^ys.length<=1000000000^(xs.length-1):=zi (by omega) (by omega);rw[FN h',FN (by omega)]
end Nt
end
section
open Go.RowKit Go.Shelf
namespace Nt
def Mo(n:Nat)(p:Nat->Bool)(w:World)(e:Ending)(w':World):Prop :=
 ∃r:Nat,e=.returned (.int .i64 (r:Int))/\r<=n/\(∀i,i<r->p i=false)/\(r<n->p r=true)/\Below w.heap.size w w'
theorem F7(n:Nat)(hn:n<=1000000000)(p:Nat->Bool)(c1 c2:Value)(w:World)
 (ad:Hid (∀a b,a<=b->b<n->p a=true->p b=true))
 (H:Hid (∀W i,Below w.heap.size w W->i<n->Calls prog 158 #[.int .i64 (i:Int),c1,c2] W fun e W'=>e=.returned (.bool (p i))/\Below W.heap.size W W')):
 Calls prog 157 #[.int .i64 (n:Int),.func (.func 158) #[] #[c1,c2]] w (Mo n p w):=by
 go_enter func157,ntmps157;go_wp2
 go_loopw [5,6] (fun i j wr=>∃a b:Nat,a<=b/\b<=n/\i=.int .i64 a/\j=.int .i64 b/\Hid ((∀k,k<a->p k=false)/\(b<n->p b=true))/\Below w.heap.size w wr)
  (fun i j _=>(intOf j-intOf i).toNat)
 case atStart=>exact⟨0,n,zQ _,zB _,rfl,rfl,⟨fun k h=>by omega,fun h=>by omega⟩,zI _ _⟩
 case round=>
  obtain⟨a,b,ai,af,rfl,rfl,aa,d⟩:=hrel;replace d:=zh d
  by_cases hlt:a<b
  .go_wp2_with fail
   obtain⟨q,hq⟩:∃q:Nat,q=(a+b)/2:=⟨_,rfl⟩;have e:((a:Int)+b)/2=(q:Int):=by rw[hq];omega
   rw[e];have ag:a<=q:=by omega
   have aj:q<b:=by omega
   clear hq e;refine(H.o _ q d.o (by omega)).q fun w' ae=>?_;have ab:=d.t ae;clear ae d
   by_cases hp:p q=true
   .have HP:=zh hp;rw[hp];clear hp;go_wp2;exact⟨⟨a,q,ag,by omega,rfl,rfl,⟨aa.o.1,fun _=>HP.o⟩,ab.o⟩,by simp only[intOf];omega⟩
   replace hp:p q=false:=by simpa using hp
   have HP:=zh hp;rw[hp];clear hp;go_wp2;refine⟨⟨q+1,b,by omega,af,by go_num,rfl,⟨fun k hk=>?_,aa.o.2⟩,ab.o⟩,by simp only[intOf];omega⟩
   cases ah:p k with
   |false=>rfl
   |true=>rw[<-HP.o];exact(ad.o k q (by omega) (by omega) ah).symm
  obtain rfl:a=b:=by omega
  go_wp2;go_ret;exact⟨a,rfl,af,aa.o.1,aa.o.2,d.o⟩
end Nt
end
end Go.Proofs.YtefmpngjjmddjaaGreatDoor

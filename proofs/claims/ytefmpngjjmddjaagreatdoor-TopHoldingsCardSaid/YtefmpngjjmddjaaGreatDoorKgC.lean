/- Parts of the proof. -/
import Derived.DataShut
import Derived.Test.YtefmpngjjmddjaaGreatDoorKgB
set_option maxHeartbeats 16000000
set_option maxRecDepth 1000000
open Go.Proofs.Tryz
namespace Go.Proofs.YtefmpngjjmddjaaGreatDoor
section
open Go.RowKit Go.Shelf
namespace Nt
theorem Vi(p q:Rat)(hp:ShortQ p)(hq:ShortQ q)(w:World)(hE:Env w):
 Calls prog 104 #[qv p,qv q] w fun e w'=>e=.returned (.tuple #[qv (p+q),.int .i64 0])/\Below w.heap.size w w':=by
 by_cases hg:decide (p.num<0)=decide (q.num<0)
 .have h:=OZ (decide (p.num<0)) p.num.natAbs p.den q.num.natAbs q.den w hE hp.1 hp.2 hq.1 hq.2 p.den_nz q.den_nz;rw[Rf rfl hg rfl rfl,Kg]at h;have e:qv q=.agg #[.bool (decide (p.num<0)),.string (T (some q.num.natAbs)),.string (T (some q.den))]:=by rw[hg];rfl
  rw[e];exact h
 have d:(decide (p.num<0)==decide (q.num<0))=false:=by rw[zP];exact hg
 rcases wn (p.num.natAbs*q.den) (q.num.natAbs*p.den) with hl|hl
 .have h:=Pa (decide (p.num<0)) (decide (q.num<0)) p.num.natAbs p.den q.num.natAbs q.den w hE hp.1 hp.2 hq.1 hq.2 p.den_nz q.den_nz d hl;rw[Rh rfl rfl rfl rfl hg hl,Kg]at h;exact h
 have h:=Pb (decide (p.num<0)) (decide (q.num<0)) p.num.natAbs p.den q.num.natAbs q.den w hE hp.1 hp.2 hq.1 hq.2 p.den_nz q.den_nz d hl;rw[Ri rfl rfl rfl rfl hg hl,Kg]at h;exact h
theorem Pc(p q:Rat)(hp:ShortQ p)(hq:ShortQ q)(w:World)(hE:Env w):
 Calls prog 102 #[qv p,qv q] w fun e w'=>e=.returned (.tuple #[qv (p*q),.int .i64 0])/\Below w.heap.size w w':=by
 have h1:=C7 hp.1 hq.1;have h2:=C7 hp.2 hq.2;have h3:=Jf;have h:=GM (decide (p.num<0)) (decide (q.num<0)) p.num.natAbs p.den q.num.natAbs q.den w hE (AH hp.1) (AH hp.2) (AH hq.1) (AH hq.2) (by omega) (by omega) (xt p.den_nz q.den_nz);have e:=VB p q;rw[show (decide (p.num<0) != decide (q.num<0))=!(decide (p.num<0)==decide (q.num<0)) from rfl]at e;rw[e]at h;exact h
theorem MC(p q:Rat)(hp:ShortQ p)(hq:ShortQ q)(h0:q.num≠0)(w:World)(hE:Env w):
 Calls prog 102 #[qv p,.agg #[.bool (decide (q.num<0)),.string (T (some q.den)),.string (T (some q.num.natAbs))]] w fun e w'=>e=.returned (.tuple #[qv (p/q),.int .i64 0])/\Below w.heap.size w w':=by
 have h1:=C7 hp.1 hq.2;have h2:=C7 hp.2 hq.1;have h3:=Jf;have h:=GM (decide (p.num<0)) (decide (q.num<0)) p.num.natAbs p.den q.den q.num.natAbs w hE (AH hp.1) (AH hp.2) (AH hq.2) (AH hq.1) (by omega) (by omega) (xt p.den_nz (by omega));have e:=Rj p q;rw[show (decide (p.num<0) != decide (q.num<0))=!(decide (p.num<0)==decide (q.num<0)) from rfl]at e;rw[e]at h;exact h
theorem VJ(q:Rat):(.agg #[.bool (!decide (q.num<0)&&!((T (some q.num.natAbs)).toList==[48])),.string (T (some q.num.natAbs)),.string (T (some q.den))]:Value)=qv (-q):=by
 unfold qv;rw[B8];have e1:(-q).num=-q.num:=rfl;have e2:(-q).den=q.den:=rfl;rw[e1,e2,Int.natAbs_neg]
 have e3:(!decide (q.num<0)&&!decide (q.num.natAbs=0))=decide (-q.num<0):=by
  generalize q.num=z;rw[xX];simp;omega
 rw[e3]
theorem WS(q:Rat)(w:World):
 Calls prog 123 #[qv q] w fun e w'=>e=.returned (qv (-q))/\Below w.heap.size w w':=by
 refine(Uc (decide (q.num<0)) (T (some q.num.natAbs)) (T (some q.den)) w).q fun w' hb=>?_;exact⟨by rw[VJ],hb⟩
theorem ShortQ.neg{q:Rat}(h:ShortQ q):ShortQ (-q):=⟨by show (-q.num).natAbs<L1;rw[Int.natAbs_neg];exact h.1,h.2⟩
abbrev Ud(w:World)(g1 g2:Bool)(n1 d1 n2 d2:ByteArray):World :=
 ((w.alloc (.cells #[.bool g1,.string n1,.string d1] 48)).alloc (.cells #[.bool g2,.string n2,.string d2] 48)).alloc (.cells #[.bool false,.string ⟨#[]⟩,.string ⟨#[]⟩] 48)
def TwoBoxes(W:World)(B:Nat)(g1 g2:Bool)(n1 d1 n2 d2:ByteArray):Prop:=B3 W B g1 n1 d1/\B3 W (B+1) g2 n2 d2/\B3 W (B+1+1) false ⟨#[]⟩ ⟨#[]⟩
theorem TwoBoxes.new(w:World)(g1 g2:Bool)(n1 d1 n2 d2:ByteArray):TwoBoxes (Ud w g1 g2 n1 d1 n2 d2) w.heap.size g1 g2 n1 d1 n2 d2:=by
 have e1:(w.alloc (.cells #[.bool g1,.string n1,.string d1] 48)).heap.size=w.heap.size+1:=by simp
 have e2:((w.alloc (.cells #[.bool g1,.string n1,.string d1] 48)).alloc (.cells #[.bool g2,.string n2,.string d2] 48)).heap.size=w.heap.size+1+1:=by simp
 refine⟨((B3.new w _ _ _).alloc _).alloc _,?_,?_⟩
 .have h:=B3.new (w.alloc (.cells #[.bool g1,.string n1,.string d1] 48)) g2 n2 d2;rw[e1]at h;exact h.alloc _
 have h:=B3.new ((w.alloc (.cells #[.bool g1,.string n1,.string d1] 48)).alloc (.cells #[.bool g2,.string n2,.string d2] 48)) false ⟨#[]⟩ ⟨#[]⟩;rw[e2]at h;exact h
theorem C9(w:World)(g1 g2:Bool)(n1 d1 n2 d2:ByteArray):Below w.heap.size w (Ud w g1 g2 n1 d1 n2 d2) :=
 (((zI _ w).alloc (zB _) _).alloc (by simp) _).alloc (by simp;omega) _
theorem TwoBoxes.below{W W':World}{B:Nat}{g1 g2:Bool}{n1 d1 n2 d2:ByteArray}(h:TwoBoxes W B g1 g2 n1 d1 n2 d2)(hb:Below W.heap.size W W'):TwoBoxes W' B g1 g2 n1 d1 n2 d2:=⟨h.1.below hb,h.2.1.below hb,h.2.2.below hb⟩
theorem VK(p q:Rat)(hp:ShortQ p)(hq:ShortQ q)(h0:q.num≠0)(w:World)(hE:Env w):
 Calls prog 121 #[qv p,qv q] w fun e w'=>e=.returned (.tuple #[qv (p/q),.int .i64 0])/\Below w.heap.size w w':=by
 have hc:=fun W (h:Env W)=>MC p q hp hq h0 W h;have ad:=zh (TwoBoxes.new w (decide (p.num<0)) (decide (q.num<0)) (T (some p.num.natAbs)) (T (some p.den)) (T (some q.num.natAbs)) (T (some q.den)));have d:=zh (C9 w (decide (p.num<0)) (decide (q.num<0)) (T (some p.num.natAbs)) (T (some p.den)) (T (some q.num.natAbs)) (T (some q.den)));simp only[qv]at hc ⊢;replace hE:=zh hE;replace hc:=zh hc;clear hp hq h0;go_enter func121,ntmps121
 go_wp2_with fail
 refine(hc.o _ (hE.o.below d.o)).q fun w1 aa=>?_;have q1:=ad.o.below aa;have ab:=d.t aa;obtain⟨c1,c2,c3,c4,c5,c6⟩:=q1.2.2.facts;have ae:=q1.2.2.lt;clear aa;replace q1:=zh q1;go_wp2;refine zm (v:=.tuple #[.agg #[.bool (decide ((p/q).num<0)),.string (T (some (p/q).num.natAbs)),.string (T (some (p/q).den))],.int .i64 0]) (by simp[results,results121,go_sem,c1,c2,c3]) rfl ⟨rfl,?_⟩
 repeat refine yH ?_ (by simp only[];omega) _
 exact ab.o
theorem TwoBoxes.six{W:World}{B:Nat}{g1 g2:Bool}{n1 d1 n2 d2:ByteArray}(h:TwoBoxes W B g1 g2 n1 d1 n2 d2):
 W.cell? ⟨B,0,none⟩=some (.bool g1)/\W.cell? ⟨B,1,none⟩=some (.string n1)/\W.cell? ⟨B,2,none⟩=some (.string d1) /\
 W.cell? ⟨B+1,0,none⟩=some (.bool g2)/\W.cell? ⟨B+1,1,none⟩=some (.string n2)/\W.cell? ⟨B+1,2,none⟩=some (.string d2) :=
 ⟨h.1.facts.1,h.1.facts.2.1,h.1.facts.2.2.1,h.2.1.facts.1,h.2.1.facts.2.1,h.2.1.facts.2.2.1⟩
theorem TwoBoxes.six_set{W:World}{B:Nat}{g1 g2:Bool}{n1 d1 n2 d2:ByteArray}(h:TwoBoxes W B g1 g2 n1 d1 n2 d2)(x y z:Value):
 (((W.setCell ⟨B+1+1,0,none⟩ x).setCell ⟨B+1+1,1,none⟩ y).setCell ⟨B+1+1,2,none⟩ z).cell? ⟨B,0,none⟩=some (.bool g1)/\(((W.setCell ⟨B+1+1,0,none⟩ x).setCell ⟨B+1+1,1,none⟩ y).setCell ⟨B+1+1,2,none⟩ z).cell? ⟨B,1,none⟩=some (.string n1)/\(((W.setCell ⟨B+1+1,0,none⟩ x).setCell ⟨B+1+1,1,none⟩ y).setCell ⟨B+1+1,2,none⟩ z).cell? ⟨B,2,none⟩=some (.string d1) /\
 (((W.setCell ⟨B+1+1,0,none⟩ x).setCell ⟨B+1+1,1,none⟩ y).setCell ⟨B+1+1,2,none⟩ z).cell? ⟨B+1,0,none⟩=some (.bool g2)/\(((W.setCell ⟨B+1+1,0,none⟩ x).setCell ⟨B+1+1,1,none⟩ y).setCell ⟨B+1+1,2,none⟩ z).cell? ⟨B+1,1,none⟩=some (.string n2)/\(((W.setCell ⟨B+1+1,0,none⟩ x).setCell ⟨B+1+1,1,none⟩ y).setCell ⟨B+1+1,2,none⟩ z).cell? ⟨B+1,2,none⟩=some (.string d2):=by
 obtain⟨h1,h2,h3,h4,h5,h6⟩:=h.six;exact⟨(AD _ _ _ _ _ _ _ (by omega)).trans h1,(AD _ _ _ _ _ _ _ (by omega)).trans h2,(AD _ _ _ _ _ _ _ (by omega)).trans h3,(AD _ _ _ _ _ _ _ (by omega)).trans h4,(AD _ _ _ _ _ _ _ (by omega)).trans h5,(AD _ _ _ _ _ _ _ (by omega)).trans h6⟩
theorem VL(g1 g2 g3:Bool)(n1 d1 n2 d2:ByteArray)(r:Bool)(n d:ByteArray)(E:Int)(w:World)(hE:Env w)
 (ho:∀W,Calls prog 123 #[.agg #[.bool g2,.string n2,.string d2]] W fun e w'=>e=.returned (.agg #[.bool g3,.string n2,.string d2])/\Below W.heap.size W w')
 (hc:∀W,Env W->Calls prog 104 #[.agg #[.bool g1,.string n1,.string d1],.agg #[.bool g3,.string n2,.string d2]] W fun e w'=>e=.returned (.tuple #[.agg #[.bool r,.string n,.string d],.int .i64 E])/\Below W.heap.size W w'):
 Calls prog 122 #[.agg #[.bool g1,.string n1,.string d1],.agg #[.bool g2,.string n2,.string d2]] w fun e w'=>e=.returned (.tuple #[.agg #[.bool r,.string n,.string d],.int .i64 E])/\Below w.heap.size w w':=by
 have aa:=zh (TwoBoxes.new w g1 g2 n1 d1 n2 d2);have ag:=zh (C9 w g1 g2 n1 d1 n2 d2);obtain⟨W0,h⟩:∃W0,W0=Ud w g1 g2 n1 d1 n2 d2:=⟨_,rfl⟩;rw[<-h]at aa ag;simp only[Ud]at h;have q0d:Hid (TwoBoxes W0.drew w.heap.size g1 g2 n1 d1 n2 d2):=aa.o;have af:Hid (Below w.heap.size w W0.drew):=ag.o.drew;replace hE:=zh hE;replace h:=zh h;replace ho:=zh ho;replace hc:=zh hc;go_enter func122,ntmps122
 go_wp2_with fail
 rw[<-h.o];obtain⟨a1,a2,a3,b1,b2,b3⟩:=aa.o.six
 go_region_held3 (fun w'=>w'.cell? ⟨w.heap.size,0,none⟩=some (.bool g1)/\w'.cell? ⟨w.heap.size,1,none⟩=some (.string n1)/\w'.cell? ⟨w.heap.size,2,none⟩=some (.string d1)/\w'.cell? ⟨w.heap.size+1,0,none⟩=some (.bool g2)/\w'.cell? ⟨w.heap.size+1,1,none⟩=some (.string n2)/\w'.cell? ⟨w.heap.size+1,2,none⟩=some (.string d2)) (first|(with_reducible exact aa.o.six)|(with_reducible exact q0d.o.six)|(with_reducible exact q2.o.six)|(with_reducible exact q3.o.six)|(with_reducible exact q3.o.six_set _ _ _)|go_keep)
  (first
    |(go_at_call 123;refine(ho.o _).q fun w2 ad=>?_;have q2:=zh (q0d.o.below ad);have ab:=af.t ad;clear ad)
    |(go_at_call 104;refine(hc.o _ ?_).mono ?_;(exact hE.o.below ab.o);rintro e w3 ⟨rfl,ae⟩;have q3:=zh (q2.o.below ae);obtain⟨c1,c2,c3,c4,c5,c6⟩:=q3.o.2.2.facts;have ah:=ab.t ae;clear ae))
 go_wp2;refine zm (v:=.tuple #[.agg #[.bool r,.string n,.string d],.int .i64 E]) (by simp[results,results122,go_sem,c1,c2,c3]) rfl ⟨rfl,?_⟩
 repeat refine yH ?_ (by simp only[];omega) _
 exact ah.o
theorem VN(p q:Rat)(hp:ShortQ p)(hq:ShortQ q)(w:World)(hE:Env w):
 Calls prog 122 #[qv p,qv q] w fun e w'=>e=.returned (.tuple #[qv (p-q),.int .i64 0])/\Below w.heap.size w w':=by
 have hc:=fun W (h:Env W)=>Vi p (-q) hp hq.neg W h;rw[<-Rat.sub_eq_add_neg]at hc;have ho:=fun W=>WS q W
 have e:qv (-q)=.agg #[.bool (decide ((-q).num<0)),.string (T (some q.num.natAbs)),.string (T (some q.den))]:=by
  unfold qv;rw[show (-q).num.natAbs=q.num.natAbs from Int.natAbs_neg _];rfl
 rw[e]at hc ho;exact VL _ _ _ _ _ _ _ _ _ _ _ w hE ho hc
def B2(W:World)(b:Nat)(z:Bool)(f:Nat):Prop:=W.heap[b]? = some (.cells #[.bool z,.func (.func f) #[] #[]] 161 (0,0))
theorem B2.lt{W:World}{b:Nat}{z:Bool}{f:Nat}(h:B2 W b z f):b<W.heap.size:=(Array.getElem?_eq_some_iff.1 h).1
theorem B2.facts{W:World}{b:Nat}{z:Bool}{f:Nat}(h:B2 W b z f):W.cell? ⟨b,0,none⟩=some (.bool z)/\W.cell? ⟨b,1,none⟩=some (.func (.func f) #[] #[]):=by
 unfold B2 at h;simp[World.cell?,h]
theorem B2.below{W W':World}{b:Nat}{z:Bool}{f:Nat}(h:B2 W b z f)(hb:Below W.heap.size W W'):B2 W' b z f:=(hb.block b h.lt).trans h
def RunBoxes(W:World)(B:Nat)(z:Bool)(f:Nat)(g1 g2:Bool)(n1 d1 n2 d2:ByteArray):Prop :=
 B2 W B z f/\B3 W (B+1) g1 n1 d1/\B3 W (B+2) g2 n2 d2/\B3 W (B+3) false ⟨#[]⟩ ⟨#[]⟩
theorem RunBoxes.new(w:World)(z:Bool)(f:Nat)(g1 g2:Bool)(n1 d1 n2 d2:ByteArray):
 RunBoxes ((((w.alloc (.cells #[.bool z,.func (.func f) #[] #[]] 161)).alloc (.cells #[.bool g1,.string n1,.string d1] 48)).alloc (.cells #[.bool g2,.string n2,.string d2] 48)).alloc (.cells #[.bool false,.string ⟨#[]⟩,.string ⟨#[]⟩] 48)) w.heap.size z f g1 g2 n1 d1 n2 d2:=by
 have e1:(w.alloc (.cells #[.bool z,.func (.func f) #[] #[]] 161)).heap.size=w.heap.size+1:=by simp
 have e2:((w.alloc (.cells #[.bool z,.func (.func f) #[] #[]] 161)).alloc (.cells #[.bool g1,.string n1,.string d1] 48)).heap.size=w.heap.size+2:=by simp
 have e3:(((w.alloc (.cells #[.bool z,.func (.func f) #[] #[]] 161)).alloc (.cells #[.bool g1,.string n1,.string d1] 48)).alloc (.cells #[.bool g2,.string n2,.string d2] 48)).heap.size=w.heap.size+3:=by simp
 refine⟨?_,?_,?_,?_⟩
 .unfold B2;rw[yM _ _ _ (by rw[e3];omega),yM _ _ _ (by rw[e2];omega),yM _ _ _ (by rw[e1];omega)];exact yR _ _
 .have h:=B3.new (w.alloc (.cells #[.bool z,.func (.func f) #[] #[]] 161)) g1 n1 d1;rw[e1]at h;exact(h.alloc _).alloc _
 .have h:=B3.new ((w.alloc (.cells #[.bool z,.func (.func f) #[] #[]] 161)).alloc (.cells #[.bool g1,.string n1,.string d1] 48)) g2 n2 d2;rw[e2]at h;exact h.alloc _
 have h:=B3.new (((w.alloc (.cells #[.bool z,.func (.func f) #[] #[]] 161)).alloc (.cells #[.bool g1,.string n1,.string d1] 48)).alloc (.cells #[.bool g2,.string n2,.string d2] 48)) false ⟨#[]⟩ ⟨#[]⟩;rw[e3]at h;exact h
theorem RunBoxes.below{W W':World}{B:Nat}{z:Bool}{f:Nat}{g1 g2:Bool}{n1 d1 n2 d2:ByteArray}(h:RunBoxes W B z f g1 g2 n1 d1 n2 d2)(hb:Below W.heap.size W W'):RunBoxes W' B z f g1 g2 n1 d1 n2 d2 :=
 ⟨h.1.below hb,h.2.1.below hb,h.2.2.1.below hb,h.2.2.2.below hb⟩
theorem A6(w:World)(o1 o2 o3 o4:Obj):Below w.heap.size w ((((w.alloc o1).alloc o2).alloc o3).alloc o4) :=
 ((((zI _ w).alloc (zB _) _).alloc (by simp) _).alloc (by simp;omega) _).alloc (by simp;omega) _
theorem WT(z:Bool)(f:Nat)(g1 g2:Bool)(n1 d1 n2 d2:ByteArray)(w:World)(hE:Env w)(s1:n1.size<=140737488355328)(s2:d1.size<=140737488355328)(_s3:n2.size<=140737488355328)(_s4:d2.size<=140737488355328)(v1:A5 g1 n1 d1=false):
 Calls prog 103 #[.agg #[.bool z,.func (.func f) #[] #[]],.agg #[.bool g1,.string n1,.string d1],.agg #[.bool g2,.string n2,.string d2]] w fun e w'=>e=.returned (.tuple #[.agg #[.bool false,.string ⟨#[]⟩,.string ⟨#[]⟩],.int .i64 1])/\Below w.heap.size w w':=by
 have V1:=zh v1;clear v1;replace hE:=zh hE;go_enter func103,ntmps103
 go_wp2_with fail
 refine(AQ g1 n1 d1 _ (hE.o.below (A6 w _ _ _ _)) s1 s2).q fun w1 d=>?_;rw[V1.o];have q1:=(RunBoxes.new w z f g1 g2 n1 d1 n2 d2).below d;have h:=zh ((A6 w _ _ _ _).trans (d.mono (A6 w _ _ _ _).size));obtain⟨a1,a2⟩:=q1.1.facts;obtain⟨b1,b2,b3,b4,b5,b6⟩:=q1.2.1.facts;obtain⟨c1,c2,c3,c4,c5,c6⟩:=q1.2.2.1.facts;obtain⟨d1',d2',d3,d4,d5,d6⟩:=q1.2.2.2.facts;have aa:=q1.2.2.2.lt;replace q1:=zh q1;clear d;go_wp2;refine zm (v:=.tuple #[.agg #[.bool false,.string ⟨#[]⟩,.string ⟨#[]⟩],.int .i64 1]) (by simp[results,results103,go_sem,d1',d2',d3]) rfl ⟨rfl,?_⟩
 repeat refine yH ?_ (by simp only[];omega) _
 exact h.o
theorem WU(z:Bool)(f:Nat)(g1 g2:Bool)(n1 d1 n2 d2:ByteArray)(w:World)(hE:Env w)(s1:n1.size<=140737488355328)(s2:d1.size<=140737488355328)(s3:n2.size<=140737488355328)(s4:d2.size<=140737488355328)(v1:A5 g1 n1 d1=true)(v2:A5 g2 n2 d2=false):
 Calls prog 103 #[.agg #[.bool z,.func (.func f) #[] #[]],.agg #[.bool g1,.string n1,.string d1],.agg #[.bool g2,.string n2,.string d2]] w fun e w'=>e=.returned (.tuple #[.agg #[.bool false,.string ⟨#[]⟩,.string ⟨#[]⟩],.int .i64 1])/\Below w.heap.size w w':=by
 have V1:=zh v1;clear v1;have V2:=zh v2;clear v2;replace hE:=zh hE;go_enter func103,ntmps103
 go_wp2_with fail
 refine(AQ g1 n1 d1 _ (hE.o.below (A6 w _ _ _ _)) s1 s2).q fun w1 h=>?_;rw[V1.o];have q1:=(RunBoxes.new w z f g1 g2 n1 d1 n2 d2).below h;have d:=zh ((A6 w _ _ _ _).trans (h.mono (A6 w _ _ _ _).size));obtain⟨a1,a2⟩:=q1.1.facts;obtain⟨b1,b2,b3,b4,b5,b6⟩:=q1.2.1.facts;obtain⟨c1,c2,c3,c4,c5,c6⟩:=q1.2.2.1.facts;obtain⟨d1',d2',d3,d4,d5,d6⟩:=q1.2.2.2.facts;have ad:=q1.2.2.2.lt;replace q1:=zh q1;clear h
 go_wp2_with fail
 refine(AQ g2 n2 d2 _ (hE.o.below d.o) s3 s4).q fun w2 aa=>?_;rw[V2.o];have q2:=q1.o.below aa;have ab:=d.t aa;clear a1 a2 b1 b2 b3 b4 b5 b6 c1 c2 c3 c4 c5 c6 d1' d2' d3 d4 d5 d6 aa q1;obtain⟨a1,a2⟩:=q2.1.facts;obtain⟨b1,b2,b3,b4,b5,b6⟩:=q2.2.1.facts;obtain⟨c1,c2,c3,c4,c5,c6⟩:=q2.2.2.1.facts;obtain⟨d1',d2',d3,d4,d5,d6⟩:=q2.2.2.2.facts;have ae:=q2.2.2.2.lt;replace q2:=zh q2;go_wp2;refine zm (v:=.tuple #[.agg #[.bool false,.string ⟨#[]⟩,.string ⟨#[]⟩],.int .i64 1]) (by simp[results,results103,go_sem,d1',d2',d3]) rfl ⟨rfl,?_⟩
 repeat refine yH ?_ (by simp only[];omega) _
 exact ab.o
theorem FS(z:Bool)(f:Nat)(g1 g2:Bool)(n1 d1 n2 d2:ByteArray)(w:World)(hE:Env w)(s1:n1.size<=140737488355328)(s2:d1.size<=140737488355328)(s3:n2.size<=140737488355328)(s4:d2.size<=140737488355328)(v1:A5 g1 n1 d1=true)(v2:A5 g2 n2 d2=true)(hz:z=false\/(z=true/\(n2.toList==[48])=false))(hl:¬(n1.size<=140/\d1.size<=140/\n2.size<=140/\d2.size<=140)):
 Calls prog 103 #[.agg #[.bool z,.func (.func f) #[] #[]],.agg #[.bool g1,.string n1,.string d1],.agg #[.bool g2,.string n2,.string d2]] w fun e w'=>e=.returned (.tuple #[.agg #[.bool false,.string ⟨#[]⟩,.string ⟨#[]⟩],.int .i64 2])/\Below w.heap.size w w':=by
 have V1:=zh v1;clear v1;have V2:=zh v2;clear v2
 rcases hz with rfl|⟨rfl,h0⟩
 all_goals
 have hk:140<n1.size\/(n1.size<=140/\140<d1.size)\/(n1.size<=140/\d1.size<=140/\140<n2.size)\/(n1.size<=140/\d1.size<=140/\n2.size<=140/\140<d2.size):=by omega
 clear hl
 rcases hk with l1|⟨l1,l2⟩|⟨l1,l2,l3⟩|⟨l1,l2,l3,l4⟩
 all_goals
  replace hE:=zh hE;go_enter func103,ntmps103
  go_wp2_with fail
  refine(AQ g1 n1 d1 _ (hE.o.below (A6 w _ _ _ _)) s1 s2).q fun w1 h=>?_;rw[V1.o];have q1:=(RunBoxes.new w _ f g1 g2 n1 d1 n2 d2).below h;have d:=zh ((A6 w _ _ _ _).trans (h.mono (A6 w _ _ _ _).size));obtain⟨a1,a2⟩:=q1.1.facts;obtain⟨b1,b2,b3,b4,b5,b6⟩:=q1.2.1.facts;obtain⟨c1,c2,c3,c4,c5,c6⟩:=q1.2.2.1.facts;obtain⟨d1',d2',d3,d4,d5,d6⟩:=q1.2.2.2.facts;have ad:=q1.2.2.2.lt;replace q1:=zh q1;clear h
  go_wp2_with fail
  refine(AQ g2 n2 d2 _ (hE.o.below d.o) s3 s4).q fun w2 aa=>?_;rw[V2.o];have q2:=q1.o.below aa;have ab:=d.t aa;clear a1 a2 b1 b2 b3 b4 b5 b6 c1 c2 c3 c4 c5 c6 d1' d2' d3 d4 d5 d6 aa q1;obtain⟨a1,a2⟩:=q2.1.facts;obtain⟨b1,b2,b3,b4,b5,b6⟩:=q2.2.1.facts;obtain⟨c1,c2,c3,c4,c5,c6⟩:=q2.2.2.1.facts;obtain⟨d1',d2',d3,d4,d5,d6⟩:=q2.2.2.2.facts;have ae:=q2.2.2.2.lt;replace q2:=zh q2;go_wp2;refine zm (v:=.tuple #[.agg #[.bool false,.string ⟨#[]⟩,.string ⟨#[]⟩],.int .i64 2]) (by simp[results,results103,go_sem,d1',d2',d3]) rfl ⟨rfl,?_⟩
  repeat refine yH ?_ (by simp only[];omega) _
  exact ab.o
theorem Ue(g1 g2:Bool)(n1 d1 n2 d2:ByteArray)(w:World)(hE:Env w)(s1:n1.size<=140737488355328)(s2:d1.size<=140737488355328)(s3:n2.size<=140737488355328)(s4:d2.size<=140737488355328)(v1:A5 g1 n1 d1=true)(v2:A5 g2 n2 d2=true)(l1:n1.size<=140)(l2:d1.size<=140)(l3:n2.size<=140)(l4:d2.size<=140)(r:Bool)(n d:ByteArray)(E:Int)
 (hf:∀W,Env W->Calls prog 104 #[.agg #[.bool g1,.string n1,.string d1],.agg #[.bool g2,.string n2,.string d2]] W fun e w'=>e=.returned (.tuple #[.agg #[.bool r,.string n,.string d],.int .i64 E])/\Below W.heap.size W w'):
 Calls prog 103 #[.agg #[.bool false,.func (.func 104) #[] #[]],.agg #[.bool g1,.string n1,.string d1],.agg #[.bool g2,.string n2,.string d2]] w fun e w'=>e=.returned (.tuple #[.agg #[.bool r,.string n,.string d],.int .i64 E])/\Below w.heap.size w w':=by
 have V1:=zh v1;clear v1;have V2:=zh v2;clear v2;have HF:=zh hf;clear hf;replace hE:=zh hE;go_enter func103,ntmps103
 go_wp2_with fail
 refine(AQ g1 n1 d1 _ (hE.o.below (A6 w _ _ _ _)) s1 s2).q fun w1 ab=>?_;rw[V1.o];have q1:=(RunBoxes.new w _ _ g1 g2 n1 d1 n2 d2).below ab;have h:=zh ((A6 w _ _ _ _).trans (ab.mono (A6 w _ _ _ _).size));obtain⟨a1,a2⟩:=q1.1.facts;obtain⟨b1,b2,b3,b4,b5,b6⟩:=q1.2.1.facts;obtain⟨c1,c2,c3,c4,c5,c6⟩:=q1.2.2.1.facts;obtain⟨d1',d2',d3,d4,d5,d6⟩:=q1.2.2.2.facts;have ag:=q1.2.2.2.lt;replace q1:=zh q1;clear ab
 go_wp2_with fail
 refine(AQ g2 n2 d2 _ (hE.o.below h.o) s3 s4).q fun w2 ad=>?_;rw[V2.o];have q2:=q1.o.below ad;have aa:=h.t ad;clear a1 a2 b1 b2 b3 b4 b5 b6 c1 c2 c3 c4 c5 c6 d1' d2' d3 d4 d5 d6 ad q1;obtain⟨a1,a2⟩:=q2.1.facts;obtain⟨b1,b2,b3,b4,b5,b6⟩:=q2.2.1.facts;obtain⟨c1,c2,c3,c4,c5,c6⟩:=q2.2.2.1.facts;obtain⟨d1',d2',d3,d4,d5,d6⟩:=q2.2.2.2.facts;have ah:=q2.2.2.2.lt;replace q2:=zh q2
 go_wp2_with fail
 refine(HF.o _ (hE.o.below aa.o)).q fun w3 ae=>?_;have q3:=q2.o.below ae;have af:=aa.t ae;clear a1 a2 b1 b2 b3 b4 b5 b6 c1 c2 c3 c4 c5 c6 d1' d2' d3 d4 d5 d6 ae q2;obtain⟨d1',d2',d3,d4,d5,d6⟩:=q3.2.2.2.facts;have ai:=q3.2.2.2.lt;replace q3:=zh q3;go_wp2;refine zm (v:=.tuple #[.agg #[.bool r,.string n,.string d],.int .i64 E]) (by simp[results,results103,go_sem,d1',d2',d3]) rfl ⟨rfl,?_⟩
 repeat refine yH ?_ (by simp only[];omega) _
 exact af.o
theorem Uf(g1 g2:Bool)(n1 d1 n2 d2:ByteArray)(w:World)(hE:Env w)(s1:n1.size<=140737488355328)(s2:d1.size<=140737488355328)(s3:n2.size<=140737488355328)(s4:d2.size<=140737488355328)(v1:A5 g1 n1 d1=true)(v2:A5 g2 n2 d2=true)(l1:n1.size<=140)(l2:d1.size<=140)(l3:n2.size<=140)(l4:d2.size<=140)(r:Bool)(n d:ByteArray)(E:Int)
 (hf:∀W,Env W->Calls prog 122 #[.agg #[.bool g1,.string n1,.string d1],.agg #[.bool g2,.string n2,.string d2]] W fun e w'=>e=.returned (.tuple #[.agg #[.bool r,.string n,.string d],.int .i64 E])/\Below W.heap.size W w'):
 Calls prog 103 #[.agg #[.bool false,.func (.func 122) #[] #[]],.agg #[.bool g1,.string n1,.string d1],.agg #[.bool g2,.string n2,.string d2]] w fun e w'=>e=.returned (.tuple #[.agg #[.bool r,.string n,.string d],.int .i64 E])/\Below w.heap.size w w':=by
 have V1:=zh v1;clear v1;have V2:=zh v2;clear v2;have HF:=zh hf;clear hf;replace hE:=zh hE;go_enter func103,ntmps103
 go_wp2_with fail
 refine(AQ g1 n1 d1 _ (hE.o.below (A6 w _ _ _ _)) s1 s2).q fun w1 ab=>?_;rw[V1.o];have q1:=(RunBoxes.new w _ _ g1 g2 n1 d1 n2 d2).below ab;have h:=zh ((A6 w _ _ _ _).trans (ab.mono (A6 w _ _ _ _).size));obtain⟨a1,a2⟩:=q1.1.facts;obtain⟨b1,b2,b3,b4,b5,b6⟩:=q1.2.1.facts;obtain⟨c1,c2,c3,c4,c5,c6⟩:=q1.2.2.1.facts;obtain⟨d1',d2',d3,d4,d5,d6⟩:=q1.2.2.2.facts;have ag:=q1.2.2.2.lt;replace q1:=zh q1;clear ab
 go_wp2_with fail
 refine(AQ g2 n2 d2 _ (hE.o.below h.o) s3 s4).q fun w2 ad=>?_;rw[V2.o];have q2:=q1.o.below ad;have aa:=h.t ad;clear a1 a2 b1 b2 b3 b4 b5 b6 c1 c2 c3 c4 c5 c6 d1' d2' d3 d4 d5 d6 ad q1;obtain⟨a1,a2⟩:=q2.1.facts;obtain⟨b1,b2,b3,b4,b5,b6⟩:=q2.2.1.facts;obtain⟨c1,c2,c3,c4,c5,c6⟩:=q2.2.2.1.facts;obtain⟨d1',d2',d3,d4,d5,d6⟩:=q2.2.2.2.facts;have ah:=q2.2.2.2.lt;replace q2:=zh q2
 go_wp2_with fail
 refine(HF.o _ (hE.o.below aa.o)).q fun w3 ae=>?_;have q3:=q2.o.below ae;have af:=aa.t ae;clear a1 a2 b1 b2 b3 b4 b5 b6 c1 c2 c3 c4 c5 c6 d1' d2' d3 d4 d5 d6 ae q2;obtain⟨d1',d2',d3,d4,d5,d6⟩:=q3.2.2.2.facts;have ai:=q3.2.2.2.lt;replace q3:=zh q3;go_wp2;refine zm (v:=.tuple #[.agg #[.bool r,.string n,.string d],.int .i64 E]) (by simp[results,results103,go_sem,d1',d2',d3]) rfl ⟨rfl,?_⟩
 repeat refine yH ?_ (by simp only[];omega) _
 exact af.o
theorem Lm(g1 g2:Bool)(n1 d1 n2 d2:ByteArray)(w:World)(hE:Env w)(s1:n1.size<=140737488355328)(s2:d1.size<=140737488355328)(s3:n2.size<=140737488355328)(s4:d2.size<=140737488355328)(v1:A5 g1 n1 d1=true)(v2:A5 g2 n2 d2=true)(l1:n1.size<=140)(l2:d1.size<=140)(l3:n2.size<=140)(l4:d2.size<=140)(r:Bool)(n d:ByteArray)(E:Int)
 (hf:∀W,Env W->Calls prog 102 #[.agg #[.bool g1,.string n1,.string d1],.agg #[.bool g2,.string n2,.string d2]] W fun e w'=>e=.returned (.tuple #[.agg #[.bool r,.string n,.string d],.int .i64 E])/\Below W.heap.size W w'):
 Calls prog 103 #[.agg #[.bool false,.func (.func 102) #[] #[]],.agg #[.bool g1,.string n1,.string d1],.agg #[.bool g2,.string n2,.string d2]] w fun e w'=>e=.returned (.tuple #[.agg #[.bool r,.string n,.string d],.int .i64 E])/\Below w.heap.size w w':=by
 have V1:=zh v1;clear v1;have V2:=zh v2;clear v2;have HF:=zh hf;clear hf;replace hE:=zh hE;go_enter func103,ntmps103
 go_wp2_with fail
 refine(AQ g1 n1 d1 _ (hE.o.below (A6 w _ _ _ _)) s1 s2).q fun w1 ab=>?_;rw[V1.o];have q1:=(RunBoxes.new w _ _ g1 g2 n1 d1 n2 d2).below ab;have h:=zh ((A6 w _ _ _ _).trans (ab.mono (A6 w _ _ _ _).size));obtain⟨a1,a2⟩:=q1.1.facts;obtain⟨b1,b2,b3,b4,b5,b6⟩:=q1.2.1.facts;obtain⟨c1,c2,c3,c4,c5,c6⟩:=q1.2.2.1.facts;obtain⟨d1',d2',d3,d4,d5,d6⟩:=q1.2.2.2.facts;have ag:=q1.2.2.2.lt;replace q1:=zh q1;clear ab
 go_wp2_with fail
 refine(AQ g2 n2 d2 _ (hE.o.below h.o) s3 s4).q fun w2 ad=>?_;rw[V2.o];have q2:=q1.o.below ad;have aa:=h.t ad;clear a1 a2 b1 b2 b3 b4 b5 b6 c1 c2 c3 c4 c5 c6 d1' d2' d3 d4 d5 d6 ad q1;obtain⟨a1,a2⟩:=q2.1.facts;obtain⟨b1,b2,b3,b4,b5,b6⟩:=q2.2.1.facts;obtain⟨c1,c2,c3,c4,c5,c6⟩:=q2.2.2.1.facts;obtain⟨d1',d2',d3,d4,d5,d6⟩:=q2.2.2.2.facts;have ah:=q2.2.2.2.lt;replace q2:=zh q2
 go_wp2_with fail
 refine(HF.o _ (hE.o.below aa.o)).q fun w3 ae=>?_;have q3:=q2.o.below ae;have af:=aa.t ae;clear a1 a2 b1 b2 b3 b4 b5 b6 c1 c2 c3 c4 c5 c6 d1' d2' d3 d4 d5 d6 ae q2;obtain⟨d1',d2',d3,d4,d5,d6⟩:=q3.2.2.2.facts;have ai:=q3.2.2.2.lt;replace q3:=zh q3;go_wp2;refine zm (v:=.tuple #[.agg #[.bool r,.string n,.string d],.int .i64 E]) (by simp[results,results103,go_sem,d1',d2',d3]) rfl ⟨rfl,?_⟩
 repeat refine yH ?_ (by simp only[];omega) _
 exact af.o
theorem Ug(g1 g2:Bool)(n1 d1 n2 d2:ByteArray)(w:World)(hE:Env w)(s1:n1.size<=140737488355328)(s2:d1.size<=140737488355328)(s3:n2.size<=140737488355328)(s4:d2.size<=140737488355328)(v1:A5 g1 n1 d1=true)(v2:A5 g2 n2 d2=true)(h0:(n2.toList==[48])=false)(l1:n1.size<=140)(l2:d1.size<=140)(l3:n2.size<=140)(l4:d2.size<=140)(r:Bool)(n d:ByteArray)(E:Int)
 (hf:∀W,Env W->Calls prog 121 #[.agg #[.bool g1,.string n1,.string d1],.agg #[.bool g2,.string n2,.string d2]] W fun e w'=>e=.returned (.tuple #[.agg #[.bool r,.string n,.string d],.int .i64 E])/\Below W.heap.size W w'):
 Calls prog 103 #[.agg #[.bool true,.func (.func 121) #[] #[]],.agg #[.bool g1,.string n1,.string d1],.agg #[.bool g2,.string n2,.string d2]] w fun e w'=>e=.returned (.tuple #[.agg #[.bool r,.string n,.string d],.int .i64 E])/\Below w.heap.size w w':=by
 have V1:=zh v1;clear v1;have V2:=zh v2;clear v2;have HF:=zh hf;clear hf;replace hE:=zh hE;go_enter func103,ntmps103
 go_wp2_with fail
 refine(AQ g1 n1 d1 _ (hE.o.below (A6 w _ _ _ _)) s1 s2).q fun w1 ab=>?_;rw[V1.o];have q1:=(RunBoxes.new w _ _ g1 g2 n1 d1 n2 d2).below ab;have h:=zh ((A6 w _ _ _ _).trans (ab.mono (A6 w _ _ _ _).size));obtain⟨a1,a2⟩:=q1.1.facts;obtain⟨b1,b2,b3,b4,b5,b6⟩:=q1.2.1.facts;obtain⟨c1,c2,c3,c4,c5,c6⟩:=q1.2.2.1.facts;obtain⟨d1',d2',d3,d4,d5,d6⟩:=q1.2.2.2.facts;have ag:=q1.2.2.2.lt;replace q1:=zh q1;clear ab
 go_wp2_with fail
 refine(AQ g2 n2 d2 _ (hE.o.below h.o) s3 s4).q fun w2 ad=>?_;rw[V2.o];have q2:=q1.o.below ad;have aa:=h.t ad;clear a1 a2 b1 b2 b3 b4 b5 b6 c1 c2 c3 c4 c5 c6 d1' d2' d3 d4 d5 d6 ad q1;obtain⟨a1,a2⟩:=q2.1.facts;obtain⟨b1,b2,b3,b4,b5,b6⟩:=q2.2.1.facts;obtain⟨c1,c2,c3,c4,c5,c6⟩:=q2.2.2.1.facts;obtain⟨d1',d2',d3,d4,d5,d6⟩:=q2.2.2.2.facts;have ah:=q2.2.2.2.lt;replace q2:=zh q2
 go_wp2_with fail
 refine(HF.o _ (hE.o.below aa.o)).q fun w3 ae=>?_;have q3:=q2.o.below ae;have af:=aa.t ae;clear a1 a2 b1 b2 b3 b4 b5 b6 c1 c2 c3 c4 c5 c6 d1' d2' d3 d4 d5 d6 ae q2;obtain⟨d1',d2',d3,d4,d5,d6⟩:=q3.2.2.2.facts;have ai:=q3.2.2.2.lt;replace q3:=zh q3;go_wp2;refine zm (v:=.tuple #[.agg #[.bool r,.string n,.string d],.int .i64 E]) (by simp[results,results103,go_sem,d1',d2',d3]) rfl ⟨rfl,?_⟩
 repeat refine yH ?_ (by simp only[];omega) _
 exact af.o
theorem AT{g:Bool}{n d:ByteArray}(h:A5 g n d=true):n.size<=300/\d.size<=300:=by
 unfold A5 at h;simp only[zq]at h;exact⟨AU h.1,AU h.2.1⟩
theorem Bu{q:Rat}(h:ShortQ q):(T (some q.num.natAbs)).size<=140/\(T (some q.den)).size<=140:=⟨(Hn _).2 h.1,(Hn _).2 h.2⟩
theorem AV{q:Rat}(h1:(T (some q.num.natAbs)).size<=140)(h2:(T (some q.den)).size<=140):ShortQ q:=⟨(Hn _).1 h1,(Hn _).1 h2⟩
theorem CI{q:Rat}(h:q≠0):q.num≠0:=fun e=>h (Rat.num_eq_zero.1 e)
theorem Vj(g1 g2:Bool)(n1 d1 n2 d2:ByteArray)(r:Bool)(n d:ByteArray)(E:Int)(w:World)(hE:Env w)
 (hr:∀W,Env W->Calls prog 103 #[.agg #[.bool false,.func (.func 104) #[] #[]],.agg #[.bool g1,.string n1,.string d1],.agg #[.bool g2,.string n2,.string d2]] W fun e w'=>e=.returned (.tuple #[.agg #[.bool r,.string n,.string d],.int .i64 E])/\Below W.heap.size W w'):
 Calls prog 52 #[.agg #[.bool g1,.string n1,.string d1],.agg #[.bool g2,.string n2,.string d2]] w fun e w'=>e=.returned (.tuple #[.agg #[.bool r,.string n,.string d],.int .i64 E])/\Below w.heap.size w w':=by
 have ad:=zh (TwoBoxes.new w g1 g2 n1 d1 n2 d2);have h:=zh (C9 w g1 g2 n1 d1 n2 d2);replace hE:=zh hE;replace hr:=zh hr;go_enter func52,ntmps52
 go_wp2_with fail
 refine(hr.o _ (hE.o.below h.o)).q fun w1 aa=>?_;have q1:=ad.o.below aa;have ab:=h.t aa;obtain⟨c1,c2,c3,c4,c5,c6⟩:=q1.2.2.facts;have ae:=q1.2.2.lt;clear aa;replace q1:=zh q1;go_wp2;refine zm (v:=.tuple #[.agg #[.bool r,.string n,.string d],.int .i64 E]) (by simp[results,results52,go_sem,c1,c2,c3]) rfl ⟨rfl,?_⟩
 repeat refine yH ?_ (by simp only[];omega) _
 exact ab.o
theorem Jl(p q:Rat)(hp:ShortQ p)(hq:ShortQ q)(w:World)(hE:Env w):
 Calls prog 52 #[qv p,qv q] w fun e w'=>e=.returned (.tuple #[qv (p+q),.int .i64 0])/\Below w.heap.size w w':=by
 have l1:=Bu hp;have l2:=Bu hq;refine Vj _ _ _ _ _ _ _ _ _ _ w hE fun W hW=>?_;exact Ue _ _ _ _ _ _ W hW (by omega) (by omega) (by omega) (by omega) (AP hp.ok) (AP hq.ok) l1.1 l1.2 l2.1 l2.2 _ _ _ _ fun W2 h2=>Vi p q hp hq W2 h2
theorem WV(p q:Rat)(hp:OkQ p)(hq:OkQ q)(hl:¬(ShortQ p/\ShortQ q))(w:World)(hE:Env w):
 Calls prog 52 #[qv p,qv q] w fun e w'=>e=.returned (.tuple #[zv,.int .i64 2])/\Below w.heap.size w w':=by
 have v1:=AP hp;have v2:=AP hq;have l1:=AT v1;have l2:=AT v2;refine Vj _ _ _ _ _ _ false ⟨#[]⟩ ⟨#[]⟩ 2 w hE fun W hW=>?_;exact FS false 104 _ _ _ _ _ _ W hW (by omega) (by omega) (by omega) (by omega) v1 v2 (.inl rfl) fun h=>hl ⟨AV h.1 h.2.1,AV h.2.2.1 h.2.2.2⟩
theorem Vk(g1 g2:Bool)(n1 d1 n2 d2:ByteArray)(r:Bool)(n d:ByteArray)(E:Int)(w:World)(hE:Env w)
 (hr:∀W,Env W->Calls prog 103 #[.agg #[.bool false,.func (.func 122) #[] #[]],.agg #[.bool g1,.string n1,.string d1],.agg #[.bool g2,.string n2,.string d2]] W fun e w'=>e=.returned (.tuple #[.agg #[.bool r,.string n,.string d],.int .i64 E])/\Below W.heap.size W w'):
 Calls prog 87 #[.agg #[.bool g1,.string n1,.string d1],.agg #[.bool g2,.string n2,.string d2]] w fun e w'=>e=.returned (.tuple #[.agg #[.bool r,.string n,.string d],.int .i64 E])/\Below w.heap.size w w':=by
 have ad:=zh (TwoBoxes.new w g1 g2 n1 d1 n2 d2);have h:=zh (C9 w g1 g2 n1 d1 n2 d2);replace hE:=zh hE;replace hr:=zh hr;go_enter func87,ntmps87
 go_wp2_with fail
 refine(hr.o _ (hE.o.below h.o)).q fun w1 aa=>?_;have q1:=ad.o.below aa;have ab:=h.t aa;obtain⟨c1,c2,c3,c4,c5,c6⟩:=q1.2.2.facts;have ae:=q1.2.2.lt;clear aa;replace q1:=zh q1;go_wp2;refine zm (v:=.tuple #[.agg #[.bool r,.string n,.string d],.int .i64 E]) (by simp[results,results87,go_sem,c1,c2,c3]) rfl ⟨rfl,?_⟩
 repeat refine yH ?_ (by simp only[];omega) _
 exact ab.o
theorem Jm(p q:Rat)(hp:ShortQ p)(hq:ShortQ q)(w:World)(hE:Env w):
 Calls prog 87 #[qv p,qv q] w fun e w'=>e=.returned (.tuple #[qv (p-q),.int .i64 0])/\Below w.heap.size w w':=by
 have l1:=Bu hp;have l2:=Bu hq;refine Vk _ _ _ _ _ _ _ _ _ _ w hE fun W hW=>?_;exact Uf _ _ _ _ _ _ W hW (by omega) (by omega) (by omega) (by omega) (AP hp.ok) (AP hq.ok) l1.1 l1.2 l2.1 l2.2 _ _ _ _ fun W2 h2=>VN p q hp hq W2 h2
theorem Ro(p q:Rat)(hp:OkQ p)(hq:OkQ q)(hl:¬(ShortQ p/\ShortQ q))(w:World)(hE:Env w):
 Calls prog 87 #[qv p,qv q] w fun e w'=>e=.returned (.tuple #[zv,.int .i64 2])/\Below w.heap.size w w':=by
 have v1:=AP hp;have v2:=AP hq;have l1:=AT v1;have l2:=AT v2;refine Vk _ _ _ _ _ _ false ⟨#[]⟩ ⟨#[]⟩ 2 w hE fun W hW=>?_;exact FS false 122 _ _ _ _ _ _ W hW (by omega) (by omega) (by omega) (by omega) v1 v2 (.inl rfl) fun h=>hl ⟨AV h.1 h.2.1,AV h.2.2.1 h.2.2.2⟩
theorem Vl(g1 g2:Bool)(n1 d1 n2 d2:ByteArray)(r:Bool)(n d:ByteArray)(E:Int)(w:World)(hE:Env w)
 (hr:∀W,Env W->Calls prog 103 #[.agg #[.bool false,.func (.func 102) #[] #[]],.agg #[.bool g1,.string n1,.string d1],.agg #[.bool g2,.string n2,.string d2]] W fun e w'=>e=.returned (.tuple #[.agg #[.bool r,.string n,.string d],.int .i64 E])/\Below W.heap.size W w'):
 Calls prog 51 #[.agg #[.bool g1,.string n1,.string d1],.agg #[.bool g2,.string n2,.string d2]] w fun e w'=>e=.returned (.tuple #[.agg #[.bool r,.string n,.string d],.int .i64 E])/\Below w.heap.size w w':=by
 have ad:=zh (TwoBoxes.new w g1 g2 n1 d1 n2 d2);have h:=zh (C9 w g1 g2 n1 d1 n2 d2);replace hE:=zh hE;replace hr:=zh hr;go_enter func51,ntmps51
 go_wp2_with fail
 refine(hr.o _ (hE.o.below h.o)).q fun w1 aa=>?_;have q1:=ad.o.below aa;have ab:=h.t aa;obtain⟨c1,c2,c3,c4,c5,c6⟩:=q1.2.2.facts;have ae:=q1.2.2.lt;clear aa;replace q1:=zh q1;go_wp2;refine zm (v:=.tuple #[.agg #[.bool r,.string n,.string d],.int .i64 E]) (by simp[results,results51,go_sem,c1,c2,c3]) rfl ⟨rfl,?_⟩
 repeat refine yH ?_ (by simp only[];omega) _
 exact ab.o
theorem Gx(p q:Rat)(hp:ShortQ p)(hq:ShortQ q)(w:World)(hE:Env w):
 Calls prog 51 #[qv p,qv q] w fun e w'=>e=.returned (.tuple #[qv (p*q),.int .i64 0])/\Below w.heap.size w w':=by
 have l1:=Bu hp;have l2:=Bu hq;refine Vl _ _ _ _ _ _ _ _ _ _ w hE fun W hW=>?_;exact Lm _ _ _ _ _ _ W hW (by omega) (by omega) (by omega) (by omega) (AP hp.ok) (AP hq.ok) l1.1 l1.2 l2.1 l2.2 _ _ _ _ fun W2 h2=>Pc p q hp hq W2 h2
theorem Rp(p q:Rat)(hp:OkQ p)(hq:OkQ q)(hl:¬(ShortQ p/\ShortQ q))(w:World)(hE:Env w):
 Calls prog 51 #[qv p,qv q] w fun e w'=>e=.returned (.tuple #[zv,.int .i64 2])/\Below w.heap.size w w':=by
 have v1:=AP hp;have v2:=AP hq;have l1:=AT v1;have l2:=AT v2;refine Vl _ _ _ _ _ _ false ⟨#[]⟩ ⟨#[]⟩ 2 w hE fun W hW=>?_;exact FS false 102 _ _ _ _ _ _ W hW (by omega) (by omega) (by omega) (by omega) v1 v2 (.inl rfl) fun h=>hl ⟨AV h.1 h.2.1,AV h.2.2.1 h.2.2.2⟩
theorem Vm(g1 g2:Bool)(n1 d1 n2 d2:ByteArray)(r:Bool)(n d:ByteArray)(E:Int)(w:World)(hE:Env w)
 (hr:∀W,Env W->Calls prog 103 #[.agg #[.bool true,.func (.func 121) #[] #[]],.agg #[.bool g1,.string n1,.string d1],.agg #[.bool g2,.string n2,.string d2]] W fun e w'=>e=.returned (.tuple #[.agg #[.bool r,.string n,.string d],.int .i64 E])/\Below W.heap.size W w'):
 Calls prog 85 #[.agg #[.bool g1,.string n1,.string d1],.agg #[.bool g2,.string n2,.string d2]] w fun e w'=>e=.returned (.tuple #[.agg #[.bool r,.string n,.string d],.int .i64 E])/\Below w.heap.size w w':=by
 have ad:=zh (TwoBoxes.new w g1 g2 n1 d1 n2 d2);have h:=zh (C9 w g1 g2 n1 d1 n2 d2);replace hE:=zh hE;replace hr:=zh hr;go_enter func85,ntmps85
 go_wp2_with fail
 refine(hr.o _ (hE.o.below h.o)).q fun w1 aa=>?_;have q1:=ad.o.below aa;have ab:=h.t aa;obtain⟨c1,c2,c3,c4,c5,c6⟩:=q1.2.2.facts;have ae:=q1.2.2.lt;clear aa;replace q1:=zh q1;go_wp2;refine zm (v:=.tuple #[.agg #[.bool r,.string n,.string d],.int .i64 E]) (by simp[results,results85,go_sem,c1,c2,c3]) rfl ⟨rfl,?_⟩
 repeat refine yH ?_ (by simp only[];omega) _
 exact ab.o
theorem Pd(p q:Rat)(hp:ShortQ p)(hq:ShortQ q)(h0:q≠0)(w:World)(hE:Env w):
 Calls prog 85 #[qv p,qv q] w fun e w'=>e=.returned (.tuple #[qv (p/q),.int .i64 0])/\Below w.heap.size w w':=by
 have l1:=Bu hp;have l2:=Bu hq;have hn:=CI h0;have hz:=B8 q.num.natAbs;rw[zH (by omega)]at hz;refine Vm _ _ _ _ _ _ _ _ _ _ w hE fun W hW=>?_;exact Ug _ _ _ _ _ _ W hW (by omega) (by omega) (by omega) (by omega) (AP hp.ok) (AP hq.ok) hz l1.1 l1.2 l2.1 l2.2 _ _ _ _ fun W2 h2=>VK p q hp hq hn W2 h2
theorem Rq(p q:Rat)(hp:OkQ p)(hq:OkQ q)(h0:q≠0)(hl:¬(ShortQ p/\ShortQ q))(w:World)(hE:Env w):
 Calls prog 85 #[qv p,qv q] w fun e w'=>e=.returned (.tuple #[zv,.int .i64 2])/\Below w.heap.size w w':=by
 have v1:=AP hp;have v2:=AP hq;have l1:=AT v1;have l2:=AT v2;have hn:=CI h0;have hz:=B8 q.num.natAbs;rw[zH (by omega)]at hz;refine Vm _ _ _ _ _ _ false ⟨#[]⟩ ⟨#[]⟩ 2 w hE fun W hW=>?_;exact FS true 121 _ _ _ _ _ _ W hW (by omega) (by omega) (by omega) (by omega) v1 v2 (.inr ⟨rfl,hz⟩) fun h=>hl ⟨AV h.1 h.2.1,AV h.2.2.1 h.2.2.2⟩
def Ki(p q:Rat):Int:=if p<q then -1 else if p=q then 0 else 1
theorem Uh(q:Rat):q.num<0<->q<0:=by
 rw[Rat.lt_iff]
 show _<->q.num*1<0*_
 omega
theorem GN(p q:Rat):(p-q).num<0<->p<q:=by
 rw[Uh,Rat.sub_lt_iff,Rat.zero_add]
theorem FT(p q:Rat):p-q=0<->p=q:=by
 constructor
 .intro h;have e:p-q+q=0+q:=congrArg (·+q) h
  rwa [Rat.sub_add_cancel,Rat.zero_add]at e
 intro h;rw[h];exact Rat.sub_self
theorem Pe(g1 g2:Bool)(n1 d1 n2 d2:ByteArray)(r:Bool)(n d:ByteArray)(E c f:Int)(w:World)(hE:Env w)
 (hs:∀W,Env W->Calls prog 87 #[.agg #[.bool g1,.string n1,.string d1],.agg #[.bool g2,.string n2,.string d2]] W fun e w'=>e=.returned (.tuple #[.agg #[.bool r,.string n,.string d],.int .i64 E])/\Below W.heap.size W w')
 (hk:(E≠0/\c=0/\f=E)\/(E=0/\r=true/\c=-1/\f=0)\/(E=0/\r=false/\(n.toList==[48])=true/\c=0/\f=0)\/(E=0/\r=false/\(n.toList==[48])=false/\c=1/\f=0)):
 Calls prog 55 #[.agg #[.bool g1,.string n1,.string d1],.agg #[.bool g2,.string n2,.string d2]] w fun e w'=>e=.returned (.tuple #[.int .i64 c,.int .i64 f])/\Below w.heap.size w w':=by
 have h:Hid (Below w.heap.size w ((w.alloc (.cells #[.bool g1,.string n1,.string d1] 48)).alloc (.cells #[.bool g2,.string n2,.string d2] 48))):=((zI _ w).alloc (zB _) _).alloc (by simp) _;replace hE:=zh hE;replace hs:=zh hs
 rcases hk with⟨h1,rfl,rfl⟩|⟨rfl,rfl,rfl,rfl⟩|⟨rfl,rfl,h1,rfl,rfl⟩|⟨rfl,rfl,h1,rfl,rfl⟩
 rotate_left
 all_goals
  go_enter func55,ntmps55
  go_wp2_with fail
  refine(hs.o _ (hE.o.below h.o)).q fun w1 ab=>?_;have aa:=h.t ab;clear ab;go_wp2;go_ret2;exact⟨rfl,aa.o.alloc aa.o.size _⟩
theorem Fu(p q:Rat)(hp:ShortQ p)(hq:ShortQ q)(w:World)(hE:Env w):
 Calls prog 55 #[qv p,qv q] w fun e w'=>e=.returned (.tuple #[.int .i64 (Ki p q),.int .i64 0])/\Below w.heap.size w w':=by
 refine Pe _ _ _ _ _ _ _ _ _ 0 (Ki p q) 0 w hE (fun W hW=>Jm p q hp hq W hW) ?_;unfold Ki;rw[B8]
 by_cases h1:p<q
 .exact .inr (.inl ⟨rfl,zG ((GN p q).2 h1),zD h1,rfl⟩)
 have hn:=(not_congr (GN p q)).2 h1;rw[zC h1]
 by_cases h2:p=q
 .refine .inr (.inr (.inl ⟨rfl,zH hn,?_,zD h2,rfl⟩));rw[(FT p q).2 h2];rfl
 refine .inr (.inr (.inr ⟨rfl,zH hn,?_,zC h2,rfl⟩));have h3:=CI (fun h=>h2 ((FT p q).1 h));exact zH (by omega)
theorem MD(n:Int):Lib.trimPrefix (Lib.itoa n) [45]=Lib.decDigits n.natAbs:=by
 unfold Lib.itoa
 by_cases h:n<0
 .rw[zD h];simp[Lib.trimPrefix,Lib.hasPrefix]
 rw[zC h];have e:n.toNat=n.natAbs:=by omega
 rw[e];unfold Lib.trimPrefix Lib.hasPrefix;rw[zC];intro hp;have hd:=BI n.natAbs
 cases hl:Lib.decDigits n.natAbs with
 |nil=>exact BF _ hl
 |cons c r=>
  rw[hl]at hp hd;simp at hp;have:=(hd c (by simp)).1;rw[<-hp]at this;revert this;decide
theorem Ln(n:Int)(h0:-9223372036854775808<=n)(h1:n<=9223372036854775807)(w:World)(hE:Env w):
 Calls prog 105 #[.int .i64 n] w fun e w'=>e=.returned (.string (T (some n.natAbs)))/\Below w.heap.size w w':=by
 have hi:=QA n h0 h1 w hE.tab;have ht:=fun W=>Tryz.strings_TrimPrefix ⟨(Lib.itoa n).toArray⟩ ⟨#[45]⟩ W
 have e:(⟨(Lib.trimPrefix (⟨(Lib.itoa n).toArray⟩:ByteArray).data.toList (⟨#[45]⟩:ByteArray).data.toList).toArray⟩:ByteArray)=T (some n.natAbs):=by
  show (⟨(Lib.trimPrefix (Lib.itoa n) [45]).toArray⟩:ByteArray)=_
  rw[MD];rfl
 rw[e]at ht;clear e;go_enter func105,ntmps105
 go_wp2_with fail
 refine hi.q fun w1 d=>?_;replace d:=zh d
 go_wp2_with fail
 refine(ht _).q fun w2 h=>?_;subst h;go_wp2;go_ret;exact⟨rfl,d.o⟩
theorem AR(w:World)(o:Obj):Below w.heap.size w (w.alloc o):=(zI _ w).alloc (zB _) _
theorem E9{n:Int}(h0:-9223372036854775808<=n)(h1:n<=9223372036854775807):n.natAbs<L1:=by
 have h:10^20<=L1:=zi (by omega) (by rw[E6];omega);omega
theorem XB(m n:Int)(af:-9223372036854775808<=m)(ag:m<=9223372036854775807)(ah:-9223372036854775808<=n)(ai:n<=9223372036854775807)(h0:n≠0)(r:Bool)(x y:ByteArray)(w:World)(hE:Env w)
 (hl:∀W,Env W->Calls prog 108 #[.bool (!(decide (m<0)==decide (n<0))),.string (T (some m.natAbs)),.string (T (some n.natAbs))] W fun e w'=>e=.returned (.tuple #[.agg #[.bool r,.string x,.string y],.int .i64 0])/\Below W.heap.size W w'):
 Calls prog 56 #[.int .i64 m,.int .i64 n] w fun e w'=>e=.returned (.tuple #[.agg #[.bool r,.string x,.string y],.int .i64 0])/\Below w.heap.size w w':=by
 have hz:(n==0)=false:=by rw[zP];exact h0
 have c1:=fun W (h:Env W)=>Ln m af ag W h;have c2:=fun W (h:Env W)=>Ln n ah ai W h;replace hE:=zh hE;replace hl:=zh hl;replace h0:=zh h0;clear af ag ah ai;go_enter func56,ntmps56
 go_wp2_with fail
 refine(c1 _ (hE.o.below (AR _ _))).q fun w1 ab=>?_;have q1:=(B3.new w false ⟨#[]⟩ ⟨#[]⟩).below ab;have d:=zh ((AR w (.cells #[.bool false,.string ⟨#[]⟩,.string ⟨#[]⟩] 48)).trans (ab.mono (by simp)));clear ab;replace q1:=zh q1
 go_wp2_with fail
 refine(c2 _ (hE.o.below d.o)).q fun w2 ad=>?_;have q2:=q1.o.below ad;have aa:=d.t ad;clear ad;replace q2:=zh q2
 go_wp2_with fail
 refine(hl.o _ (hE.o.below aa.o)).q fun w3 ae=>?_;have q3:=q2.o.below ae;have aj:=aa.t ae;obtain⟨d1,d2,d3,d4,d5,d6⟩:=q3.facts;have ak:=q3.lt;clear ae;replace q3:=zh q3;go_wp2;refine zm (v:=.tuple #[.agg #[.bool r,.string x,.string y],.int .i64 0]) (by simp[results,results56,go_sem,d1,d2,d3]) rfl ⟨rfl,?_⟩
 repeat refine yH ?_ (by simp only[];omega) _
 exact aj.o
def ofQ(m n:Int):Rat:=mkRat (sg (!(decide (m<0)==decide (n<0))) m.natAbs) n.natAbs
theorem EY(m n:Int)(d:-9223372036854775808<=m)(h:m<=9223372036854775807)(aa:-9223372036854775808<=n)(ab:n<=9223372036854775807)(h0:n≠0)(w:World)(hE:Env w):
 Calls prog 56 #[.int .i64 m,.int .i64 n] w fun e w'=>e=.returned (.tuple #[qv (ofQ m n),.int .i64 0])/\Below w.heap.size w w' :=
 XB m n d h aa ab h0 _ _ _ w hE fun W hW=>Dl _ m.natAbs n.natAbs W hW (AH (E9 d h)) (AH (E9 aa ab)) (by omega)
def REnv(w:World):Prop:=Env w/\∃m:Int,w.cell? ⟨5,0,none⟩=some (.int .i64 m)
theorem REnv.lt{w:World}(h:REnv w):5<w.heap.size:=by
 obtain⟨_,m,hm⟩:=h;exact xp w _ hm
theorem REnv.below{w w':World}(h:REnv w)(hb:Below w.heap.size w w'):REnv w':=by
 have hl:=h.lt;obtain⟨h1,m,hm⟩:=h;exact⟨h1.below hb,m,(hb.cell (p:=⟨5,0,none⟩) hl).trans hm⟩
end Nt
end
section
open Go.ChangeShapes Go.WideShapes Go.ChangeAt Go.RowKit Go.Shelf Go.Joins
namespace Nt
theorem Rr{k:IntKind}{n:Int}(h:(Lit.int k n).wf=true):k.min<=n/\n<=k.max:=by simpa [Lit.wf] using h
section
variable {H:Type} {enc:TypeId×Value->H} {w:World} {base:Nat} {spare:Nat->Bool} {held:Bool}
end
end Nt
end
section
open Go.ChangeShapes Go.WideShapes Go.ChangeAt Go.RowKit Go.Shelf Go.Joins Go.Deep
namespace Ci
open Nt
def ME(x:Int):Prop:=-9223372036854775808<=x/\x<=9223372036854775807
def Eg{H:Type}(x:ByteArray):DataW H:=.lit (.string x.data.toList)
def H8{H:Type}(x:Int):DataW H:=.lit (.int .i64 x)
def Lq{H α:Type}(f:α->DataW H)(l:List α)(d:DataW H):Prop:=(d=.nil/\l=[])\/∃rest,d=.slice (l.map f) rest
section
variable {H:Type} {enc:TypeId×Value->H} {w:World} {base:Nat} {held:Bool}
theorem Pf{b o k:Nat}:(⟨b,o,none⟩:Addr).add k=⟨b,o+k,none⟩:=by unfold Addr.add;split<;>simp_all
theorem i64_in{x:Int}(h:(Lit.int .i64 x).wf=true):ME x:=by
 have:=Rr h;exact this
theorem VO{fuel:Nat}{cs:List Value}{x:DataW H×List MemPlace}(h:DataW.trod enc prog w base (fun _=>true) held fuel 37 cs=some x):
 ∃(A:Option Addr)(cap:Nat)(l:List Int),cs=[.slice A l.length cap]/\Lq H8 l x.1/\InInt w A l/\∀y,y∈l->ME y:=by
 rcases open_slice1 underlying37 (by kernel_rfl) h with⟨h1,h2⟩|⟨a,len,cap,m,n,V,D,Pl,ad,hb,hl,hm,ab,hx,hi⟩
 .exact⟨none,0,[],h1,.inl ⟨by rw[h2],rfl⟩,fun h=>absurd h (by simp),fun y hy=>by cases hy⟩
 simp only[wm]at ab;subst ab
 have each:∀i,i<m->∃y:Int,V i=.int .i64 y/\D i=H8 y/\ME y:=by
  intro i ae;obtain⟨y,e1,e2,e3⟩:=DataW.trod_int underlying3 (hi i ae).2;exact⟨y,by simpa using e1,congrArg Prod.fst e2,i64_in e3⟩
 obtain⟨Y,hY⟩:=choose_lt each;refine⟨some a,m,(List.range len).map Y,by simpa using ad,.inr ⟨_,by rw[hx,xm];simp only[];congr 1;exact xh fun i d=>(hY i (by have:=List.mem_range.1 d;omega)).2.1⟩,fun h0=>?_,fun y hy=>?_⟩
 .simp only[zW,yZ]at h0;have aa:=(hi 0 (by omega)).1;have af:=World.cell?_spot aa;obtain⟨b,o,s⟩:=a;have hs:s=none:=by simpa [Addr.add] using af
  subst hs;refine⟨b,o,rfl,?_,fun j hj=>?_⟩
  .have:=xp w _ aa
   simpa [Pf] using this
  have ag:j<len:=by simpa using hj
  have hc:=(hi j (by omega)).1;rw[Pf,(hY j (by omega)).1]at hc;simp only[zz,wP];exact hc
 obtain⟨i,d,rfl⟩:=List.mem_map.1 hy;exact(hY i (by have:=List.mem_range.1 d;omega)).2.2
theorem H9{fuel:Nat}{cs:List Value}{x:DataW H×List MemPlace}(h:DataW.trod enc prog w base (fun _=>true) held fuel 23 cs=some x):
 ∃(A:Option Addr)(cap:Nat)(l:List ByteArray),cs=[.slice A l.length cap]/\Lq Eg l x.1/\InStr w A l:=by
 rcases open_slice1 underlying23 (by kernel_rfl) h with⟨h1,h2⟩|⟨a,len,cap,m,n,V,D,Pl,ab,hb,hl,hm,aa,hx,hi⟩
 .exact⟨none,0,[],h1,.inl ⟨by rw[h2],rfl⟩,fun h=>absurd h (by simp)⟩
 simp only[wm]at aa;subst aa
 have each:∀i,i<m->∃y:ByteArray,V i=.string y/\D i=Eg y:=by
  intro i ae;obtain⟨y,e1,e2,_⟩:=wJ underlying9 (hi i ae).2;exact⟨y,by simpa using e1,congrArg Prod.fst e2⟩
 obtain⟨Y,hY⟩:=choose_lt each;refine⟨some a,m,(List.range len).map Y,by simpa using ab,.inr ⟨_,by rw[hx,xm];simp only[];congr 1;exact xh fun i ad=>(hY i (by have:=List.mem_range.1 ad;omega)).2⟩,fun h0=>?_⟩;simp only[zW,yZ]at h0;have d:=(hi 0 (by omega)).1;have af:=World.cell?_spot d;obtain⟨b,o,s⟩:=a;have hs:s=none:=by simpa [Addr.add] using af
 subst hs;refine⟨b,o,rfl,?_,fun j hj=>?_⟩
 .have:=xp w _ d
  simpa [Pf] using this
 have ag:j<len:=by simpa using hj
 have hc:=(hi j (by omega)).1;rw[Pf,(hY j (by omega)).1]at hc;simp only[zz,wP];exact hc
end
end Ci
end
section
open Go.RowKit Go.Shelf
namespace Ci
open Nt
theorem DJ(s:ByteArray)(w:World)(hs:s.size<=9223372036854775807):
 Calls prog 58 #[.string s] w fun e w'=>e=.returned (.bool (Ak s))/\w'=w:=by
 have HB:=zh (fun(k:Nat) (h:k<s.size) (hb:¬Be k s[k].toNat)=>Jg (s:=s) h hb);have HA:=zh (Jh (s:=s));go_enter func58,ntmps58;go_wp2
 go_loop [8] (fun i=>∃k:Nat,k<=s.size/\i=.int .i64 k/\Hid (∀i (h:i<s.size),i<k->Be i s[i].toNat)) (fun i=>s.size-(intOf i).toNat)
 case atStart=>exact⟨0,zQ _,rfl,fun i _ h=>absurd h (yB _)⟩
 case round=>
  obtain⟨k,hk,rfl,hI⟩:=hrel
  by_cases hlt:k<s.size
  .have hc:s[k].toNat<=255:=by have:=s[k].toNat_lt;omega
   have i0:(0:Int)<=(k:Int):=by omega
   have i1:(k:Int)<(s.size:Int):=by omega
   have HN:Hid (Be k s[k].toNat->∀i (h:i<s.size),i<k+1->Be i s[i].toNat):=fun h i hi h2=>by
    by_cases e:i=k
    .subst e;exact h
    exact hI.o i hi (by omega)
   have HB2:=zh (HB.o k hlt);clear hI
   by_cases e0:k=0
   .have b0:((k:Int)==0)=true:=by rw[yw];omega
    have b0n:((k:Int) != 0)=false:=by rw[xF];omega
    have b3:(k==0)=true:=by rw[yw];omega
    replace e0:=zh e0;have d:(s[k].toNat<=47/\0<=s[k].toNat)\/(48<=s[k].toNat/\s[k].toNat<=57)\/(58<=s[k].toNat/\s[k].toNat<=64)\/(65<=s[k].toNat/\s[k].toNat<=90)\/(91<=s[k].toNat/\s[k].toNat<=94)\/(95<=s[k].toNat/\s[k].toNat<=95)\/(96<=s[k].toNat/\s[k].toNat<=96)\/(97<=s[k].toNat/\s[k].toNat<=122)\/(123<=s[k].toNat/\s[k].toNat<=255):=by omega
    rcases d with⟨g1,g2⟩|⟨g1,g2⟩|⟨g1,g2⟩|⟨g1,g2⟩|⟨g1,g2⟩|⟨g1,g2⟩|⟨g1,g2⟩|⟨g1,g2⟩|⟨g1,g2⟩
    .have b1:((s[k].toNat:Int) != 95)=true:=by rw[zy];omega
     have b2:((s[k].toNat:Int)==95)=false:=by rw[zP];omega
     have HR:Hid (Ak s=false):=HB2.o (by have:=e0.o;unfold Be;omega);clear HN HB2;go_wp2;go_ret;exact⟨Ad HR.o.symm,rfl⟩
    .have b1:((s[k].toNat:Int) != 95)=true:=by rw[zy];omega
     have b2:((s[k].toNat:Int)==95)=false:=by rw[zP];omega
     have HR:Hid (Ak s=false):=HB2.o (by have:=e0.o;unfold Be;omega);clear HN HB2;go_wp2;go_ret;exact⟨Ad HR.o.symm,rfl⟩
    .have b1:((s[k].toNat:Int) != 95)=true:=by rw[zy];omega
     have b2:((s[k].toNat:Int)==95)=false:=by rw[zP];omega
     have HR:Hid (Ak s=false):=HB2.o (by have:=e0.o;unfold Be;omega);clear HN HB2;go_wp2;go_ret;exact⟨Ad HR.o.symm,rfl⟩
    .have b1:((s[k].toNat:Int) != 95)=true:=by rw[zy];omega
     have b2:((s[k].toNat:Int)==95)=false:=by rw[zP];omega
     have HR:=zh (HN.o (by have:=e0.o;unfold Be;omega));clear HN HB2;go_wp2;go_round
     case rel=>exact⟨k+1,by omega,by go_num,HR⟩
     case measure=>simp[intOf];omega
    .have b1:((s[k].toNat:Int) != 95)=true:=by rw[zy];omega
     have b2:((s[k].toNat:Int)==95)=false:=by rw[zP];omega
     have c1:decide ((s[k].toNat:Int)<=90)=false:=by rw[zM];omega
     have d1:decide (s[k].toNat<=90)=false:=by rw[zM];omega
     have n1:¬((s[k].toNat:Int)<=90):=by omega
     have HR:Hid (Ak s=false):=HB2.o (by have:=e0.o;unfold Be;omega);clear HN HB2;go_wp2;go_ret;exact⟨Ad HR.o.symm,rfl⟩
    .have b1:((s[k].toNat:Int) != 95)=false:=by rw[xF];omega
     have b2:((s[k].toNat:Int)==95)=true:=by rw[yw];omega
     have c1:decide ((s[k].toNat:Int)<=90)=false:=by rw[zM];omega
     have d1:decide (s[k].toNat<=90)=false:=by rw[zM];omega
     have n1:¬((s[k].toNat:Int)<=90):=by omega
     have HR:Hid (Ak s=false):=HB2.o (by have:=e0.o;unfold Be;omega);clear HN HB2;go_wp2;go_ret;exact⟨Ad HR.o.symm,rfl⟩
    .have b1:((s[k].toNat:Int) != 95)=true:=by rw[zy];omega
     have b2:((s[k].toNat:Int)==95)=false:=by rw[zP];omega
     have c1:decide ((s[k].toNat:Int)<=90)=false:=by rw[zM];omega
     have d1:decide (s[k].toNat<=90)=false:=by rw[zM];omega
     have n1:¬((s[k].toNat:Int)<=90):=by omega
     have HR:Hid (Ak s=false):=HB2.o (by have:=e0.o;unfold Be;omega);clear HN HB2;go_wp2;go_ret;exact⟨Ad HR.o.symm,rfl⟩
    .have b1:((s[k].toNat:Int) != 95)=true:=by rw[zy];omega
     have b2:((s[k].toNat:Int)==95)=false:=by rw[zP];omega
     have c1:decide ((s[k].toNat:Int)<=90)=false:=by rw[zM];omega
     have d1:decide (s[k].toNat<=90)=false:=by rw[zM];omega
     have n1:¬((s[k].toNat:Int)<=90):=by omega
     have HR:=zh (HN.o (by have:=e0.o;unfold Be;omega));clear HN HB2;go_wp2;go_round
     case rel=>exact⟨k+1,by omega,by go_num,HR⟩
     case measure=>simp[intOf];omega
    have b1:((s[k].toNat:Int) != 95)=true:=by rw[zy];omega
    have b2:((s[k].toNat:Int)==95)=false:=by rw[zP];omega
    have c0:decide ((s[k].toNat:Int)<=122)=false:=by rw[zM];omega
    have d0:decide (s[k].toNat<=122)=false:=by rw[zM];omega
    have n0:¬((s[k].toNat:Int)<=122):=by omega
    have c1:decide ((s[k].toNat:Int)<=90)=false:=by rw[zM];omega
    have d1:decide (s[k].toNat<=90)=false:=by rw[zM];omega
    have n1:¬((s[k].toNat:Int)<=90):=by omega
    have HR:Hid (Ak s=false):=HB2.o (by have:=e0.o;unfold Be;omega);clear HN HB2;go_wp2;go_ret;exact⟨Ad HR.o.symm,rfl⟩
   have b0:((k:Int)==0)=false:=by rw[zP];omega
   have b0n:((k:Int) != 0)=true:=by rw[zy];omega
   have b3:(k==0)=false:=by rw[zP];omega
   have d:(s[k].toNat<=47/\0<=s[k].toNat)\/(48<=s[k].toNat/\s[k].toNat<=57)\/(58<=s[k].toNat/\s[k].toNat<=64)\/(65<=s[k].toNat/\s[k].toNat<=90)\/(91<=s[k].toNat/\s[k].toNat<=94)\/(95<=s[k].toNat/\s[k].toNat<=95)\/(96<=s[k].toNat/\s[k].toNat<=96)\/(97<=s[k].toNat/\s[k].toNat<=122)\/(123<=s[k].toNat/\s[k].toNat<=255):=by omega
   rcases d with⟨g1,g2⟩|⟨g1,g2⟩|⟨g1,g2⟩|⟨g1,g2⟩|⟨g1,g2⟩|⟨g1,g2⟩|⟨g1,g2⟩|⟨g1,g2⟩|⟨g1,g2⟩
   .have b1:((s[k].toNat:Int) != 95)=true:=by rw[zy];omega
    have b2:((s[k].toNat:Int)==95)=false:=by rw[zP];omega
    have HR:Hid (Ak s=false):=HB2.o (by unfold Be;omega);clear HN HB2;go_wp2;go_ret;exact⟨Ad HR.o.symm,rfl⟩
   .have b1:((s[k].toNat:Int) != 95)=true:=by rw[zy];omega
    have b2:((s[k].toNat:Int)==95)=false:=by rw[zP];omega
    have HR:=zh (HN.o (by unfold Be;omega));clear HN HB2;go_wp2;go_round
    case rel=>exact⟨k+1,by omega,by go_num,HR⟩
    case measure=>simp[intOf];omega
   .have b1:((s[k].toNat:Int) != 95)=true:=by rw[zy];omega
    have b2:((s[k].toNat:Int)==95)=false:=by rw[zP];omega
    have HR:Hid (Ak s=false):=HB2.o (by unfold Be;omega);clear HN HB2;go_wp2;go_ret;exact⟨Ad HR.o.symm,rfl⟩
   .have b1:((s[k].toNat:Int) != 95)=true:=by rw[zy];omega
    have b2:((s[k].toNat:Int)==95)=false:=by rw[zP];omega
    have HR:=zh (HN.o (by unfold Be;omega));clear HN HB2;go_wp2;go_round
    case rel=>exact⟨k+1,by omega,by go_num,HR⟩
    case measure=>simp[intOf];omega
   .have b1:((s[k].toNat:Int) != 95)=true:=by rw[zy];omega
    have b2:((s[k].toNat:Int)==95)=false:=by rw[zP];omega
    have c1:decide ((s[k].toNat:Int)<=90)=false:=by rw[zM];omega
    have d1:decide (s[k].toNat<=90)=false:=by rw[zM];omega
    have n1:¬((s[k].toNat:Int)<=90):=by omega
    have HR:Hid (Ak s=false):=HB2.o (by unfold Be;omega);clear HN HB2;go_wp2;go_ret;exact⟨Ad HR.o.symm,rfl⟩
   .have b1:((s[k].toNat:Int) != 95)=false:=by rw[xF];omega
    have b2:((s[k].toNat:Int)==95)=true:=by rw[yw];omega
    have c1:decide ((s[k].toNat:Int)<=90)=false:=by rw[zM];omega
    have d1:decide (s[k].toNat<=90)=false:=by rw[zM];omega
    have n1:¬((s[k].toNat:Int)<=90):=by omega
    have HR:=zh (HN.o (by unfold Be;omega));clear HN HB2;go_wp2;go_round
    case rel=>exact⟨k+1,by omega,by go_num,HR⟩
    case measure=>simp[intOf];omega
   .have b1:((s[k].toNat:Int) != 95)=true:=by rw[zy];omega
    have b2:((s[k].toNat:Int)==95)=false:=by rw[zP];omega
    have c1:decide ((s[k].toNat:Int)<=90)=false:=by rw[zM];omega
    have d1:decide (s[k].toNat<=90)=false:=by rw[zM];omega
    have n1:¬((s[k].toNat:Int)<=90):=by omega
    have HR:Hid (Ak s=false):=HB2.o (by unfold Be;omega);clear HN HB2;go_wp2;go_ret;exact⟨Ad HR.o.symm,rfl⟩
   .have b1:((s[k].toNat:Int) != 95)=true:=by rw[zy];omega
    have b2:((s[k].toNat:Int)==95)=false:=by rw[zP];omega
    have c1:decide ((s[k].toNat:Int)<=90)=false:=by rw[zM];omega
    have d1:decide (s[k].toNat<=90)=false:=by rw[zM];omega
    have n1:¬((s[k].toNat:Int)<=90):=by omega
    have HR:=zh (HN.o (by unfold Be;omega));clear HN HB2;go_wp2;go_round
    case rel=>exact⟨k+1,by omega,by go_num,HR⟩
    case measure=>simp[intOf];omega
   have b1:((s[k].toNat:Int) != 95)=true:=by rw[zy];omega
   have b2:((s[k].toNat:Int)==95)=false:=by rw[zP];omega
   have c0:decide ((s[k].toNat:Int)<=122)=false:=by rw[zM];omega
   have d0:decide (s[k].toNat<=122)=false:=by rw[zM];omega
   have n0:¬((s[k].toNat:Int)<=122):=by omega
   have c1:decide ((s[k].toNat:Int)<=90)=false:=by rw[zM];omega
   have d1:decide (s[k].toNat<=90)=false:=by rw[zM];omega
   have n1:¬((s[k].toNat:Int)<=90):=by omega
   have HR:Hid (Ak s=false):=HB2.o (by unfold Be;omega);clear HN HB2;go_wp2;go_ret;exact⟨Ad HR.o.symm,rfl⟩
  obtain rfl:k=s.size:=by omega
  have HE:Hid (Ak s=(decide (0<s.size)&&decide (s.size<=24))):=HA.o fun i h=>hI.o i h h
  have q0:s.toList.isEmpty=decide (s.size=0):=by
   rw[yP,Lib.size_eq]
   cases s.data.toList<;>simp
  clear hI
  by_cases h0:s.size=0
  .have q1:s.toList=[]:=by simpa [h0] using q0
   have q2:(!s.toList.isEmpty)=false:=by rw[q0,zG h0];rfl
   clear q0;go_wp2;go_ret;exact⟨Ad (by rw[HE.o,zH (by omega)];rfl),rfl⟩
  have q2:(!s.toList.isEmpty)=true:=by rw[q0,zH h0];rfl
  have q1:¬s.toList=[]:=fun e=>by rw[e]at q0;rw[zH h0]at q0;cases q0
  clear q0
  by_cases h24:s.size<=24
  .go_wp2;go_ret;exact⟨Ad (by rw[HE.o,zG (by omega:0<s.size),zG h24,zG (by omega:(s.size:Int)<=24)];rfl),rfl⟩
  go_wp2;go_ret;exact⟨Ad (by rw[HE.o,zG (by omega:0<s.size),zH h24,zH (by omega:¬(s.size:Int)<=24)];rfl),rfl⟩
theorem MF(s:ByteArray)(w:World)(hs:s.size<=9223372036854775807):
 Calls prog 58 #[.string s] w fun e w'=>e=.returned (.bool (Ak s))/\Below w.heap.size w w' :=
 (DJ s w hs).mono fun e w' h=>by
   obtain⟨rfl,rfl⟩:=h;exact⟨rfl,zI _ _⟩
theorem WW(b:Nat):(6000:Int)%(b:Int)=((6000%b:Nat):Int):=(vT 6000 b).symm
theorem VP{s:ByteArray}(h:isN s=true)(h4:s.size<=4):val s<10000:=by
 have h1:=Hl (Hz h);have h2:s.data.toList.length<=4:=by have:=Lib.size_eq s;omega
 have h3:10^s.data.toList.length<=10^4:=zi (by omega) h2
 show AO s.data.toList<10000
 omega
theorem Vn(s:ByteArray)(h:isN s=true)(h4:s.size<=4)(W:World):Calls prog 117 #[.string s] W fun e w'=>e=.returned (.tuple #[.int .i64 (val s:Int),.nilIface])/\Below W.heap.size W w':=by
 have ha:=QW (val s);rw[NU h]at ha;have hv:val s<10000:=VP h h4;rw[zD (by omega)]at ha;refine(Tryz.strconv_Atoi_ok s (by omega) _ ha W).mono ?_;rintro e w' ⟨rfl,rfl|⟨t,rfl⟩⟩
 .exact⟨rfl,zI _ _⟩
 exact⟨rfl,Go.Joins.below_bytesWorld _ _ _ _ (zB _)⟩
theorem Lr{g:Bool}{n d:ByteArray}(h:A5 g n d=true):isN n=true/\isN d=true/\val d≠0:=by
 unfold A5 at h;simp only[zq]at h;obtain⟨h1,h2,h3,_⟩:=h;exact⟨h1,h2,by simpa using h3⟩
theorem Jn{g:Bool}{n d:ByteArray}(h:A5 g n d=false\/g=true\/4<n.size\/4<d.size):unitsN (g,n,d)=0:=zD h
theorem MG{g:Bool}{n d:ByteArray}(h1:A5 g n d=true)(h2:g=false)(h3:n.size<=4)(h4:d.size<=4):unitsN (g,n,d)=if val d<val n\/6000%val d≠0 then 0 else val n*(6000/val d):=by
 unfold unitsN;rw[zC];rintro(h|h|h|h)
 .rw[h1]at h;cases h
 .rw[h2]at h;cases h
 .simp only[]at h;omega
 simp only[]at h;omega
theorem Pg(g : Bool)(n d : ByteArray)(w : World)(hE : Env w)(hn:n.size<=140737488355328)(hd:d.size<=140737488355328):
 Calls prog 72 #[.agg #[.bool g,.string n,.string d]] w fun e w'=>e=.returned (.int .i64 (unitsN (g,n,d):Int))/\Below w.heap.size w w':=by
 have hv:Hid (∀W,Env W->Calls prog 97 #[.agg #[.bool g,.string n,.string d]] W fun e w'=>e=.returned (.bool (A5 g n d))/\Below W.heap.size W w'):=fun W hW=>AQ g n d W hW hn hd;replace hE:=zh hE;have aa:Hid (Below w.heap.size w (w.alloc (.cells #[.bool g,.string n,.string d] 48))):=(zI _ w).alloc (zB _) _;have ai:Hid (B3 (w.alloc (.cells #[.bool g,.string n,.string d] 48)) w.heap.size g n d):=B3.new w g n d
 cases h1:A5 g n d with
 |false=>
  have HG:=zh (Jn (g:=g) (n:=n) (d:=d) (.inl h1));rw[h1]at hv;clear h1;go_enter func72,ntmps72
  go_wp2_with fail
  refine(hv.o _ (hE.o.below aa.o)).q fun w1 hb=>?_;have ab:=aa.t hb;clear hb;go_wp2;go_ret;exact⟨by rw[HG.o];rfl,ab.o⟩
 |true=>
  rw[h1]at hv;obtain⟨q1,q2,q3⟩:=Lr h1
  by_cases ag:g=true\/4<n.size\/4<d.size
  .have HG:=zh (Jn (g:=g) (n:=n) (d:=d) (.inr ag));clear h1 q1 q2 q3;go_enter func72,ntmps72
   go_wp2_with fail
   refine(hv.o _ (hE.o.below aa.o)).q fun w1 hb=>?_;have ab:=aa.t hb;obtain⟨f1,f2,f3,_,_,_⟩:=(ai.o.below hb).facts;have f4:=(ai.o.below hb).lt;clear hb
   have aj:g=true\/(g=false/\4<n.size)\/(g=false/\n.size<=4/\4<d.size):=by
    cases g
    .rcases ag with h|h|h
     .cases h
     .exact .inr (.inl ⟨rfl,h⟩)
     by_cases c:4<n.size
     .exact .inr (.inl ⟨rfl,c⟩)
     exact .inr (.inr ⟨rfl,by omega,h⟩)
    exact .inl rfl
   clear ag
   rcases aj with rfl|⟨rfl,z1⟩|⟨rfl,z1,z2⟩
   all_goals (
    go_wp2;go_ret;exact⟨by rw[HG.o];rfl,ab.o⟩)
  have z0:g=false:=by
   cases g
   .rfl
   exact absurd (.inl rfl) ag
  have z1:n.size<=4:=by omega
  have z2:d.size<=4:=by omega
  have HG:=MG h1 z0 z1 z2;have ka:Hid (∀W,Calls prog 117 #[.string n] W fun e w'=>e=.returned (.tuple #[.int .i64 (val n:Int),.nilIface])/\Below W.heap.size W w'):=fun W=>Vn n q1 z1 W;have kb:Hid (∀W,Calls prog 117 #[.string d] W fun e w'=>e=.returned (.tuple #[.int .i64 (val d:Int),.nilIface])/\Below W.heap.size W w'):=fun W=>Vn d q2 z2 W;have v1:=VP q1 z1;have v2:=VP q2 z2;subst z0;clear h1 ag q1 q2;generalize hA:val n=a at *;generalize hB:val d=b at *;clear hA hB;have v3:1<=b:=by omega
  have aj:(b<a)\/(a<=b/\6000%b≠0)\/(a<=b/\6000%b=0):=by omega
  rcases aj with c1|⟨c1,c2⟩|⟨c1,c2⟩
  .rw[zD (.inl c1)]at HG;replace HG:=zh HG;go_enter func72,ntmps72
   go_wp2_with fail
   refine(hv.o _ (hE.o.below aa.o)).q fun w1 hb=>?_;have ab:=aa.t hb;have ad:=zh (ai.o.below hb);obtain⟨f1,f2,f3,_,_,_⟩:=ad.o.facts;have f4:=ad.o.lt;clear hb
   go_wp2_with fail
   refine(ka.o _).q fun w2 hb=>?_;have ae:=ab.t hb;have af:=zh (ad.o.below hb);clear hb f1 f2 f3 f4;obtain⟨f1,f2,f3,_,_,_⟩:=af.o.facts;have f4:=af.o.lt
   go_wp2_with fail
   refine(kb.o _).q fun w3 hb=>?_;have ah:=ae.t hb;clear hb f1 f2 f3 f4;go_wp2;go_ret;exact⟨by rw[HG.o];rfl,ah.o⟩
  .rw[zD (.inr c2)]at HG;replace HG:=zh HG;have t1:((6000:Int)%(b:Int) != 0)=true:=by rw[zy,WW];omega
   go_enter func72,ntmps72
   go_wp2_with fail
   refine(hv.o _ (hE.o.below aa.o)).q fun w1 hb=>?_;have ab:=aa.t hb;have ad:=zh (ai.o.below hb);obtain⟨f1,f2,f3,_,_,_⟩:=ad.o.facts;have f4:=ad.o.lt;clear hb
   go_wp2_with fail
   refine(ka.o _).q fun w2 hb=>?_;have ae:=ab.t hb;have af:=zh (ad.o.below hb);clear hb f1 f2 f3 f4;obtain⟨f1,f2,f3,_,_,_⟩:=af.o.facts;have f4:=af.o.lt
   go_wp2_with fail
   refine(kb.o _).q fun w3 hb=>?_;have ah:=ae.t hb;clear hb f1 f2 f3 f4;go_wp2;go_ret;exact⟨by rw[HG.o];rfl,ah.o⟩
  rw[zC (by omega)]at HG;replace HG:=zh HG;have t1:((6000:Int)%(b:Int) != 0)=false:=by rw[xF,WW];omega
  have t2:a*(6000/b)<=6000:=zS (yv _ c1) (Nat.mul_div_le _ _);have t3:(0:Int)<=(a:Int)*((6000:Int)/(b:Int)):=by have:=Int.natCast_nonneg (a*(6000/b));rw[xM]at this;exact this
  have t4 : (a : Int) * ((6000 : Int) / (b : Int)) <= 6000 := by have h:((a*(6000/b):Nat):Int)<=6000:=by omega
                                                                 rw[xM]at h;exact h
  have HP:Hid (((a*(6000/b):Nat):Int)=(a:Int)*((6000:Int)/(b:Int))):=by rw[xM];rfl
  clear t2;go_enter func72,ntmps72
  go_wp2_with fail
  refine(hv.o _ (hE.o.below aa.o)).q fun w1 hb=>?_;have ab:=aa.t hb;have ad:=zh (ai.o.below hb);obtain⟨f1,f2,f3,_,_,_⟩:=ad.o.facts;have f4:=ad.o.lt;clear hb
  go_wp2_with fail
  refine(ka.o _).q fun w2 hb=>?_;have ae:=ab.t hb;have af:=zh (ad.o.below hb);clear hb f1 f2 f3 f4;obtain⟨f1,f2,f3,_,_,_⟩:=af.o.facts;have f4:=af.o.lt
  go_wp2_with fail
  refine(kb.o _).q fun w3 hb=>?_;have ah:=ae.t hb;clear hb f1 f2 f3 f4;go_wp2;go_ret;exact⟨by rw[HG.o,HP.o];rfl,ah.o⟩
end Ci
end
section
open Go.Maps (Keyed)
open Go.RowKit
namespace Ci
def Ph(v:Value):Option (DataW Value×List MemPlace):=some (.held v,[])
def HH{α:Type}[DecidableEq α](f:α->Option Value)(x:α)(v:Option Value):α->Option Value:=fun y=>if y=x then v else f y
theorem Bg{α:Type}[DecidableEq α](f:α->Option Value)(x:α)(v:Option Value):HH f x v x=v:=zD rfl
theorem Bj{α:Type}[DecidableEq α]{f:α->Option Value}{x y:α}{v:Option Value}(h:y≠x):HH f x v y=f y:=zC h
def MapK{α:Type}(P:Program)(k:TypeId)(κ:α->Lit)(w:World)(b c:Nat)(f:α->Option Value):Prop :=
 ∃D:DataW Value,w.ownsMap P k Ph b c D/\Maps.size D=c/\∀x,Maps.has D (κ x)=(f x).isSome/\∀z,D.atKey (κ x) z=match f x with|some v=>.held v|none=>z
section
variable {α:Type} {P:Program} {k t e:TypeId} {κ:α->Lit} {w w':World} {b c:Nat} {f:α->Option Value}
theorem Jo{R:Value->Option (DataW Value×List MemPlace)}{n:Nat}{D:DataW Value}(h:w.ownsMap P k R b n D):w.ownsMap P k R b (Maps.size D) D:=by
 obtain⟨es,clock,hb,F,_,rfl⟩:=h;refine⟨es,clock,hb,F,?_,rfl⟩;simp[Maps.size,length_sorted]
theorem MapK.made(w:World)(P:Program)(k:TypeId)(κ:α->Lit):MapK P k κ (w.alloc (.map #[] 0)) w.heap.size 0 fun _=>none :=
 ⟨.map [],World.ownsMap_made w P k Ph,rfl,fun _=>⟨rfl,fun _=>rfl⟩⟩
theorem MapK.lt(h:MapK P k κ w b c f):b<w.heap.size:=by obtain⟨D,h,_⟩:=h;exact h.lt
theorem MapK.kept{row:Option Nat}(h:MapK P k κ w b c f)(hg:w.grownBy w' row)(d:some b≠row):MapK P k κ w' b c f:=by
 obtain⟨D,h,r⟩:=h;exact⟨D,h.kept hg d,r⟩
theorem MapK.block(h:MapK P k κ w b c f)(hb:w'.heap[b]? = w.heap[b]?):MapK P k κ w' b c f:=by
 obtain⟨D,⟨es,clock,h1,h2⟩,r⟩:=h;exact⟨D,⟨es,clock,hb.trans h1,h2⟩,r⟩
theorem MapK.below(h:MapK P k κ w b c f)(hb:Below w.heap.size w w'):MapK P k κ w' b c f:=h.block (hb.block b h.lt)
theorem MapK.alloc(h:MapK P k κ w b c f)(o:Obj):MapK P k κ (w.alloc o) b c f:=by
 obtain⟨D,h,r⟩:=h;exact⟨D,h.alloc o,r⟩
theorem MapK.drew(h:MapK P k κ w b c f):MapK P k κ w.drew b c f:=h
theorem MapK.set(h:MapK P k κ w b c f){a:Addr}(ha:b≠a.block)(u:Value):MapK P k κ (w.setCell a u) b c f:=by
 obtain⟨D,h,r⟩:=h;exact⟨D,h.setCell ha u,r⟩
theorem MapK.congr{g:α->Option Value}(h:MapK P k κ w b c f)(e:∀x,f x=g x):MapK P k κ w b c g:=by rwa [<-funext e]
theorem MapK.look(h:MapK P k κ w b c f)(K:Keyed P k)(ht:P.underlying t=some (.map k e)){z:Value}(hz:(zeroValue e).run P w=.ok z w){key:Value}{x:α}(d:keyOf P k key=some (κ x)):
 (Instr.lookup t (.map (some b)) key false).run P w=.ok ((f x).getD z) w:=by
 obtain⟨D,h,_,hv⟩:=h;obtain⟨v,ps,aa,hR⟩:=h.lookup K ht hz (zd:=.held z) (zp:=[]) rfl d;rw[aa];rw[(hv x).2]at hR;simp only[Ph,Option.some.injEq,Prod.mk.injEq]at hR
 cases hf:f x with
 |none=>rw[hf]at hR;simp only[DataW.held.injEq]at hR;rw[hR.1];rfl
 |some u=>rw[hf]at hR;simp only[DataW.held.injEq]at hR;rw[hR.1];rfl
theorem MapK.look_ok(h:MapK P k κ w b c f)(K:Keyed P k)(ht:P.underlying t=some (.map k e)){z:Value}(hz:(zeroValue e).run P w=.ok z w){key:Value}{x:α}(d:keyOf P k key=some (κ x)):
 (Instr.lookup t (.map (some b)) key true).run P w=.ok (.tuple #[(f x).getD z,.bool (f x).isSome]) w:=by
 obtain⟨D,h,_,hv⟩:=h;obtain⟨v,ps,aa,hR⟩:=h.look_ok K ht hz (zd:=.held z) (zp:=[]) rfl d;rw[aa,(hv x).1];rw[(hv x).2]at hR;simp only[Ph,Option.some.injEq,Prod.mk.injEq]at hR
 cases hf:f x with
 |none=>rw[hf]at hR;simp only[DataW.held.injEq]at hR;rw[hR.1];rfl
 |some u=>rw[hf]at hR;simp only[DataW.held.injEq]at hR;rw[hR.1];rfl
theorem MapK.put[DecidableEq α](h:MapK P k κ w b c f)(hκ:∀x y,κ x=κ y->x=y)(K:Keyed P k)(ht:P.underlying t=some (.map k e))(hn:c<maxLen){key:Value}{x:α}(d:keyOf P k key=some (κ x))(v:Value):
 ∃w',(Instr.mapUpdate t (.map (some b)) key v).run P w=.ok () w'/\MapK P k κ w' b (if (f x).isSome then c else c+1) (HH f x (some v))/\w.grownBy w' (some b):=by
 obtain⟨D,h,hs,hv⟩:=h;obtain⟨w',ab,h2,hg⟩:=h.update K ht hn d (R:=Ph) (val:=v) rfl
 have ad:Maps.size (D.put (κ x) (.held v))=if (f x).isSome then c else c+1:=by
  rw[Maps.size_put (h.tidy K),hs,(hv x).1]
 refine⟨w',ab,⟨_,by have:=Jo h2;rwa [ad]at this,ad,fun y=>?_⟩,hg⟩
 by_cases hy:y=x
 .subst hy;rw[Bg];exact⟨Maps.has_put_same h.isMap (K.key d) _,fun z=>Maps.atKey_put_same h.isMap (K.key d) _ z⟩
 have aa:κ y≠κ x:=fun e=>hy (hκ _ _ e);rw[Bj hy,Maps.has_put_other aa];refine⟨(hv y).1,fun z=>?_⟩;rw[Maps.atKey_put_other aa];exact(hv y).2 z
theorem MapK.del[DecidableEq α](h:MapK P k κ w b c f)(hκ:∀x y,κ x=κ y->x=y)(K:Keyed P k)(ht:P.underlying t=some (.map k e)){key:Value}{x:α}(d:keyOf P k key=some (κ x))(ty:TypeId):
 ∃w',(Builtin.delete_ #[t,k] ty #[.map (some b),key]).run P w=.ok (.tuple #[]) w'/\MapK P k κ w' b (if (f x).isSome then c-1 else c) (HH f x none)/\w.grownBy w' (some b):=by
 obtain⟨D,h,hs,hv⟩:=h;obtain⟨w',ab,h2,hg⟩:=h.drop K ht d ty
 have ad:Maps.size (D.del (κ x))=if (f x).isSome then c-1 else c:=by
  have:=Maps.size_del (k:=κ x) (h.tidy K);rw[hs,(hv x).1]at this
  split<;>simp_all<;>omega
 refine⟨w',ab,⟨_,by have:=Jo h2;rwa [ad]at this,ad,fun y=>?_⟩,hg.grown⟩
 by_cases hy:y=x
 .subst hy;rw[Bg];exact⟨Maps.has_del_same,fun z=>Maps.atKey_del_same z⟩
 have aa:κ y≠κ x:=fun e=>hy (hκ _ _ e);rw[Bj hy,Maps.has_del_other aa];refine⟨(hv y).1,fun z=>?_⟩;rw[Maps.atKey_del_other aa];exact(hv y).2 z
theorem MapK.len(h:MapK P k κ w b c f)(ht:P.underlying t=some (.map k e))(ty:TypeId):(Builtin.len_ #[t] ty #[.map (some b)]).run P w=.ok (.int .i64 c) w:=by
 obtain⟨D,h,hs,_⟩:=h;rw[h.len ht,hs]
end
def κi(a:Int):Lit:=.int .i64 a
theorem Gy:∀x y,κi x=κi y->x=y:=fun x y h=>by injection h
theorem Ew{P:Program}{k:TypeId}(hk:P.underlying k=some (.int .i64)){a:Int}(h1:-9223372036854775808<=a)(h2:a<=9223372036854775807):keyOf P k (.int .i64 a)=some (κi a):=Maps.keyOf_int_mk hk (WalkArith.wf_i64 ⟨h1,h2⟩)
end Ci
end
section
open Go.RowKit Go.Shelf
namespace Ci
open Nt
def Bo:Code->List Code
 |.loop c=>Bo c
 |.seq a b=>Bo a++Bo b
 |.block _ c=>Bo c
 |.scope c=>Bo c
 |.cond _ a b=>Bo a++Bo b
 |.region a b c=>[.region a b c]
 |_=>[]
noncomputable def WX(j:Nat):Code:=((Tryz.f71.body.map Bo).bind fun l=>l[j]?).getD .skip
theorem WY{c0 c1 c2 c3 c4 c6 c7 c9 d aa ab ad ae af ag ah ai aj ak al am an ao ap aq ar au av aw ax ay az aA aB aC aD aE aF aG aH aI aJ aK aL aM aN aO aP aQ aR aS aT aU aV aW aX aY aZ a0 a1 a2 a3 a4 a5 a6 a7 a8 a9 ba bb bc bd be bf bg bh bi bj bk bm bn bo bp bq br bs bt bu bv bw bx bz bA bB:Value}{Q:Exit->Act->World->Prop}(kb lb:Nat)(co ho lc lh:Int)(r:Bool)(hr:r=decide (lc<co\/(lc=co/\lh<ho)))(w:World)(u2:w.cell? ⟨kb,0,none⟩=some (.int .i64 co))(u3:w.cell? ⟨kb,1,none⟩=some (.int .i64 ho))(u4:w.cell? ⟨lb,0,none⟩=some (.int .i64 lc))(u5:w.cell? ⟨lb,1,none⟩=some (.int .i64 lh))
 (h:∀u33 u34 u35 u36 u37 u38 u39 u40 u41 u42 u43 u44 u45 u46 u47 u48 u49 u50 u51:Value,Q .normal ⟨#[c0,c1,c2,c3,c4,.pointer (some ⟨lb,0,none⟩),c6,c7,.pointer (some ⟨kb,0,none⟩),c9,.bool r,d,aa,ab,ad,ae,af,ag,ah,ai,aj,ak,al,am,an,ao,ap,aq,ar,au,av,aw,ax,u33,u34,u35,u36,u37,u38,u39,u40,u41,u42,u43,u44,u45,u46,u47,u48,u49,u50,u51,ay,az,aA,aB,aC,aD,aE,aF,aG,aH,aI,aJ,aK,aL,aM,aN,aO,aP,aQ,aR,aS,aT,aU,aV,aW,aX,aY,aZ,a0,a1,a2,a3,a4,a5,a6,a7,a8,a9,ba,bb,bc,bd,be,bf],[]⟩ w):
 Code.wp prog (WX 7) Q ⟨#[c0,c1,c2,c3,c4,.pointer (some ⟨lb,0,none⟩),c6,c7,.pointer (some ⟨kb,0,none⟩),c9,bg,d,aa,ab,ad,ae,af,ag,ah,ai,aj,ak,al,am,an,ao,ap,aq,ar,au,av,aw,ax,bh,bi,bj,bk,bm,bn,bo,bp,bq,br,bs,bt,bu,bv,bw,bx,bz,bA,bB,ay,az,aA,aB,aC,aD,aE,aF,aG,aH,aI,aJ,aK,aL,aM,aN,aO,aP,aQ,aR,aS,aT,aU,aV,aW,aX,aY,aZ,a0,a1,a2,a3,a4,a5,a6,a7,a8,a9,ba,bb,bc,bd,be,bf],[]⟩ w:=by
 conv=>arg 2;whnf
 conv=>arg 4;zeta
 replace h:=zh h;have bC:(lc<co)\/(co=lc/\lh<ho)\/(co<lc)\/(co=lc/\ho<=lh):=by omega
 rcases bC with r1|⟨r1,r2⟩|r1|⟨r1,r2⟩
 .have m1:(co==lc)=false:=by rw[zP];omega
  obtain rfl:r=true:=by rw[hr,zG (.inl r1)]
  clear hr;go_wp2;exact h.o ..
 .have m1:(co==lc)=true:=by rw[yw];exact r1
  have m2:co<=lc:=by omega
  obtain rfl:r=true:=by rw[hr,zG (.inr ⟨r1.symm,r2⟩)]
  clear hr r1;go_wp2;exact h.o ..
 .have m1:(co==lc)=false:=by rw[zP];omega
  obtain rfl:r=false:=by rw[hr,zH (by omega)]
  have m3:decide (lc<co)=false:=zH (by omega);clear hr;go_wp2;exact h.o ..
 have m1:(co==lc)=true:=by rw[yw];exact r1
 have m2:co<=lc:=by omega
 obtain rfl:r=false:=by rw[hr,zH (by omega)]
 have m3:decide (lc<co)=false:=zH (by omega);have m4:decide (lh<ho)=false:=zH (by omega);clear hr r1;go_wp2;exact h.o ..
theorem WZ{c0 c2 c3 c5 c6 d aa ab ad ae af ag ah ai aj ak al am an ao ap aq ar au av aw ax ay az aA aB aC aD aE aF aG aH aI aJ aK aL aM aN aO aP aQ aR aS aT aU aV aW aX aY aZ a0 a1 a2 a3 a4 a5 a6 a7 a8 a9 ba bb bc bd be bf bg bh bi a78 a79 bj bk bm bn bo bp bq br bs a89 bt bu bv bw:Value}{Q:Exit->Act->World->Prop}(xb kb nb mb n p s:Nat)(co ho:Int)(r q:Bool)(hq:q=decide (co<0\/(n:Int)<=co\/ho<0\/(n:Int)<=ho\/co=ho\/r=false\/p=0\/6000<s))(w:World)(bA:p<=6000)(hs:s<=12000)(hn:n<=140737488355328)(u1:w.cell? ⟨xb,0,none⟩=some (.int .i64 co))(u2:w.cell? ⟨kb,0,none⟩=some (.int .i64 co))(u3:w.cell? ⟨kb,1,none⟩=some (.int .i64 ho))(u4:w.cell? ⟨nb,0,none⟩=some (.int .i64 (n:Int)))(hk:(Instr.lookup 132 (.map (some mb)) (.int .i64 co) false).run prog w=.ok (.int .i64 (s:Int)) w)
 (h:∀u52 u53 u54 u55 u56 u57 u58 u59 u60 u61 u62 u63 u64 u65 u66 u67 u68 u69 u70 u71 u72 u73 u74 u75 u76 u77 u78 u79 u80 u81 u82 u83 u84 u85 u86 u87 u88 u89 u90 u91 u92:Value,Q .normal ⟨#[c0,.pointer (some ⟨nb,0,none⟩),c2,c3,.map (some mb),c5,c6,.pointer (some ⟨xb,0,none⟩),.pointer (some ⟨kb,0,none⟩),.int .i64 (p:Int),.bool r,d,aa,ab,ad,ae,af,ag,ah,ai,aj,ak,al,am,an,ao,ap,aq,ar,au,av,aw,ax,ay,az,aA,aB,aC,aD,aE,aF,aG,aH,aI,aJ,aK,aL,aM,aN,aO,aP,aQ,u52,u53,u54,u55,u56,u57,u58,u59,u60,u61,u62,u63,u64,u65,u66,u67,u68,u69,u70,u71,u72,u73,u74,u75,u76,u77,u78,u79,u80,u81,u82,u83,u84,u85,u86,u87,u88,u89,u90,u91,u92,.bool q,aR,aS],[]⟩ w):
 Code.wp prog (WX 8) Q ⟨#[c0,.pointer (some ⟨nb,0,none⟩),c2,c3,.map (some mb),c5,c6,.pointer (some ⟨xb,0,none⟩),.pointer (some ⟨kb,0,none⟩),.int .i64 (p:Int),.bool r,d,aa,ab,ad,ae,af,ag,ah,ai,aj,ak,al,am,an,ao,ap,aq,ar,au,av,aw,ax,ay,az,aA,aB,aC,aD,aE,aF,aG,aH,aI,aJ,aK,aL,aM,aN,aO,aP,aQ,aT,aU,aV,aW,aX,aY,aZ,a0,a1,a2,a3,a4,a5,a6,a7,a8,a9,ba,bb,bc,bd,be,bf,bg,bh,bi,a78,a79,bj,bk,bm,bn,bo,bp,bq,br,bs,a89,bt,bu,bv,bw,aR,aS],[]⟩ w:=by
 conv=>arg 2;whnf
 conv=>arg 4;zeta
 replace h:=zh h;have bx:(co<0)\/(0<=co/\(n:Int)<=co)\/(0<=co/\co<n/\ho<0)\/(0<=co/\co<n/\0<=ho/\(n:Int)<=ho)\/(0<=co/\co<n/\0<=ho/\ho<n/\co=ho)\/(0<=co/\co<n/\0<=ho/\ho<n/\co≠ho):=by omega
 rcases bx with b1|⟨b1,b2⟩|⟨b1,b2,b3⟩|⟨b1,b2,b3,b4⟩|⟨b1,b2,b3,b4,b5⟩|⟨b1,b2,b3,b4,b5⟩
 .have q0:True:=trivial;clear q0;obtain rfl:q=true:=by rw[hq,zG (.inl b1)]
  clear hq;go_wp2;exact h.o ..
 .have q0:True:=trivial;clear q0;obtain rfl:q=true:=by rw[hq,zG (.inr (.inl b2))]
  clear hq;go_wp2;exact h.o ..
 .have q0:True:=trivial;clear q0;obtain rfl:q=true:=by rw[hq,zG (.inr (.inr (.inl b3)))]
  clear hq;go_wp2;exact h.o ..
 .have q0:True:=trivial;clear q0;obtain rfl:q=true:=by rw[hq,zG (.inr (.inr (.inr (.inl b4))))]
  clear hq;go_wp2;exact h.o ..
 .have m5:(co==ho)=true:=by rw[yw];exact b5
  obtain rfl:q=true:=by rw[hq,zG (.inr (.inr (.inr (.inr (.inl b5)))))]
  clear hq b5;go_wp2;exact h.o ..
 have m5:(co==ho)=false:=by rw[zP];exact b5
 cases r with
 |false=>
  obtain rfl:q=true:=by rw[hq,zG (.inr (.inr (.inr (.inr (.inr (.inl rfl))))))]
  clear hq;go_wp2;exact h.o ..
 |true=>
  have bz:p=0\/(1<=p/\6000<s)\/(1<=p/\s<=6000):=by omega
  rcases bz with p1|⟨p1,p2⟩|⟨p1,p2⟩
  .have m6:((p:Int)==0)=true:=by rw[yw];omega
   have m7:(p==0)=true:=by rw[yw];exact p1
   obtain rfl:q=true:=by rw[hq,zG (.inr (.inr (.inr (.inr (.inr (.inr (.inl p1)))))))]
   clear hq;replace p1:=zh p1;go_wp2;exact h.o ..
  .have m6:((p:Int)==0)=false:=by rw[zP];omega
   have m7:(p==0)=false:=by rw[zP];omega
   have m8:decide (6000<(s:Int))=true:=zG (by omega);have m9:decide (6000<s)=true:=zG p2;obtain rfl:q=true:=by rw[hq,zG (.inr (.inr (.inr (.inr (.inr (.inr (.inr p2)))))))]
   clear hq;go_wp2;exact h.o ..
  have m6:((p:Int)==0)=false:=by rw[zP];omega
  have m7:(p==0)=false:=by rw[zP];omega
  obtain rfl:q=false:=by rw[hq,zH];rintro(c|c|c|c|c|c|c|c)<;>first|omega|exact b5 c|cases c
  have m8:decide (6000<(s:Int))=false:=zH (by omega);have m9:decide (6000<s)=false:=zH (by omega);have bB:decide (co<0)=false:=zH (by omega);have bC:decide ((n:Int)<=co)=false:=zH (by omega);have bD:decide (ho<0)=false:=zH (by omega);have bE:decide ((n:Int)<=ho)=false:=zH (by omega);clear hq;go_wp2;exact h.o ..
def Bk(W:World)(b:Nat)(t:TypeId)(l:List Value):Prop:=W.heap[b]? = some (.cells l.toArray t (0,0))
section
variable {W W':World} {b:Nat} {t:TypeId} {l:List Value}
theorem Bk.lt(h:Bk W b t l):b<W.heap.size:=(Array.getElem?_eq_some_iff.1 h).1
theorem Bk.cell(h:Bk W b t l){j:Nat}{v:Value}(hj:l[j]? = some v):W.cell? ⟨b,j,none⟩=some v:=by
 unfold Bk at h;simp[World.cell?,h,hj]
theorem Bk.c0(h:Bk W b t l){v:Value}(hj:l[0]?=some v:=by exact rfl):W.cell? ⟨b,0,none⟩=some v:=h.cell hj
theorem Bk.c1(h:Bk W b t l){v:Value}(hj:l[1]?=some v:=by exact rfl):W.cell? ⟨b,1,none⟩=some v:=h.cell hj
theorem Bk.c2(h:Bk W b t l){v:Value}(hj:l[2]?=some v:=by exact rfl):W.cell? ⟨b,2,none⟩=some v:=h.cell hj
theorem Bk.c3(h:Bk W b t l){v:Value}(hj:l[3]?=some v:=by exact rfl):W.cell? ⟨b,3,none⟩=some v:=h.cell hj
theorem Bk.c4(h:Bk W b t l){v:Value}(hj:l[4]?=some v:=by exact rfl):W.cell? ⟨b,4,none⟩=some v:=h.cell hj
theorem Bk.c5(h:Bk W b t l){v:Value}(hj:l[5]?=some v:=by exact rfl):W.cell? ⟨b,5,none⟩=some v:=h.cell hj
theorem Bk.c6(h:Bk W b t l){v:Value}(hj:l[6]?=some v:=by exact rfl):W.cell? ⟨b,6,none⟩=some v:=h.cell hj
theorem Bk.c7(h:Bk W b t l){v:Value}(hj:l[7]?=some v:=by exact rfl):W.cell? ⟨b,7,none⟩=some v:=h.cell hj
theorem Bk.frozen(h:Bk W b t l)(j:Nat):W.frozen? ⟨b,j,none⟩=false:=by
 unfold Bk at h;simp[World.frozen?,h]
theorem Bk.new(w:World)(t:TypeId)(l:List Value):Bk (w.alloc (.cells l.toArray t)) w.heap.size t l:=yR _ _
theorem Bk.below(h:Bk W b t l)(hb:Below W.heap.size W W'):Bk W' b t l:=(hb.block b h.lt).trans h
theorem Bk.alloc(h:Bk W b t l)(o:Obj):Bk (W.alloc o) b t l:=(yM W o b h.lt).trans h
theorem Bk.grown{row:Option Nat}(h:Bk W b t l)(hg:W.grownBy W' row)(d:some b≠row):Bk W' b t l:=(hg.block b h.lt d).trans h
theorem Bk.far(h:Bk W b t l){p:Addr}(hp:b≠p.block)(v:Value):Bk (W.setCell p v) b t l:=(ze _ _ _ _ hp).trans h
theorem Bk.set(h:Bk W b t l)(j:Nat)(v:Value):Bk (W.setCell ⟨b,j,none⟩ v) b t (l.set j v):=by
 unfold Bk at h ⊢;simp[World.setCell,Array.getElem?_modify,h]
end
theorem sumU_take{l:List Lk}{k:Nat}(h:k<l.length)(c:Int):sumU (l.take (k+1)) c=sumU (l.take k) c+if l[k].1=c then unitsN (lkP l[k]) else 0:=by
 unfold sumU;rw[zO h,yL,zw,List.sum_append]
 congr 1
 by_cases e:l[k].1=c
 .rw[zD e,zk,zD (zG e)];simp
 rw[zC e,zk,zC (by simpa using e)];simp
theorem NW{n:Nat}{l:List Lk}:∀k,k<=l.length->(∀i (h:i<l.length),i<k->C8 n l i h)->∀c,sumU (l.take k) c<=6000:=by
 intro k
 induction k with
 |zero=>intro _ _ c;simp[sumU]
 |succ k ih=>
  intro hk h c;have h1:=ih (by omega) (fun i hi h2=>h i hi (by omega)) c;rw[sumU_take (by omega)]
  by_cases e:l[k].1=c
  .have h2:=(h k (by omega) (by omega)).2.2;rw[sumU_take (by omega),zD rfl,e]at h2;rw[zD e];exact h2
  rw[zC e];omega
def Ui(W:World)(b:Nat)(l:List Lk)(k:Nat):Prop:=∃c f,MapK prog 3 κi W b c f/\c<=k/\∀y:Int,(f y).getD (.int .i64 0)=.int .i64 (sumU (l.take k) y:Int)
def XT(l:List Lk)(k:Nat):List Value:=match l[k-1]? with
 |some x=>if k=0 then [.int .i64 (-1),.int .i64 (-1)] else [.int .i64 x.1,.int .i64 x.2.1]
 |none=>[.int .i64 (-1),.int .i64 (-1)]
def DK(l:List Lk)(k:Nat):Int:=match l[k-1]? with
 |some x=>if k=0 then -1 else x.1
 |none=>-1
def EA(l:List Lk)(k:Nat):Int:=match l[k-1]? with
 |some x=>if k=0 then -1 else x.2.1
 |none=>-1
theorem Gz(l:List Lk):DK l 0=-1/\EA l 0=-1:=by
 unfold DK EA
 cases l[0-1]?<;>simp
theorem Jp{l:List Lk}{k:Nat}(h:k<l.length):DK l (k+1)=l[k].1/\EA l (k+1)=l[k].2.1:=by
 unfold DK EA;rw[wQ,zj h];simp
theorem Rs{l:List Lk}{k:Nat}(h:k<l.length)(h0:0<=l[k].1):(0<k->Rise (l[k-1]'(by omega)) l[k])<->(DK l k<l[k].1\/(DK l k=l[k].1/\EA l k<l[k].2.1)):=by
 by_cases e:k=0
 .subst e;have:=Gz l;constructor
  .intro _;left;omega
  intro _ hc;omega
 obtain⟨j,rfl⟩:∃j,k=j+1:=⟨k-1,by omega⟩;have hj:j<l.length:=by omega
 obtain⟨e1,e2⟩:=Jp hj;rw[e1,e2];have hg:l[j+1-1]'(by omega)=l[j]:=by simp
 rw[hg];unfold Rise;exact⟨fun h=>h (by omega),fun h _=>h⟩
def Uj(w:World)(n:Nat)(l:List Lk)(mb lb:Nat)(k:Nat)(wr:World):Prop :=
 Hid (Below w.heap.size w wr)/\Hid (Ui wr mb l k)/\Hid (Bk wr lb 69 [.int .i64 (DK l k),.int .i64 (EA l k)])/\Hid (∀i (h:i<l.length),i<k->C8 n l i h)
theorem FA:Go.Maps.Keyed prog 3:=Go.Maps.int_keyed underlying3
theorem HI(w:World):(zeroValue 3).run prog w=.ok (.int .i64 0) w:=by kernel_rfl
theorem Rt(A:Option Addr)(cap n nb:Nat)(l:List Lk)(w:World)(hE:Env w)(hl:InLk w A l)(bn:l.length<=140737488355328)(hn:n<=140737488355328)(aB:w.cell? ⟨nb,0,none⟩=some (.int .i64 (n:Int)))
 (hz:∀x,x∈l->x.2.2.2.1.size<=140737488355328/\x.2.2.2.2.size<=140737488355328)(hi:∀x,x∈l->(-9223372036854775808<=x.1/\x.1<=9223372036854775807)/\(-9223372036854775808<=x.2.1/\x.2.1<=9223372036854775807)):
 Calls prog 71 #[.slice A l.length cap,.pointer (some ⟨nb,0,none⟩)] w fun e w'=>e=.returned (.bool (E7 n l))/\Below w.heap.size w w':=by
 have bh:=@run_makeMap prog;have bi:=xp w _ aB;have aU:Hid (Ui ((w.alloc (.map #[] 0)).alloc (.cells #[.int .i64 (-1),.int .i64 (-1)] 69)) w.heap.size l 0):=⟨0,_,(MapK.made w _ _ _).alloc _,zB _,fun y=>rfl⟩
 have aS:Hid (Bk ((w.alloc (.map #[] 0)).alloc (.cells #[.int .i64 (-1),.int .i64 (-1)] 69)) (w.heap.size+1) 69 [.int .i64 (DK l 0),.int .i64 (EA l 0)]):=by
  have h:=Bk.new (w.alloc (.map #[] 0)) 69 [.int .i64 (-1),.int .i64 (-1)];rw[zX]at h;rw[(Gz l).1,(Gz l).2];exact h
 have aP:Hid (Below w.heap.size w ((w.alloc (.map #[] 0)).alloc (.cells #[.int .i64 (-1),.int .i64 (-1)] 69))):=((zI _ w).alloc (zB _) _).alloc (by simp) _;replace hE:=zh hE;replace hl:=zh hl;replace hz:=zh hz;replace hi:=zh hi;replace aB:=zh aB;have bc:=zh (fun(k:Nat) (h:k<l.length) (hb:¬C8 n l k h)=>Rk (n:=n) (l:=l) h hb);have bb:=zh (Rl (n:=n) (l:=l));go_enter func71,ntmps71;go_wp2;clear bh
 go_loopw [15] (fun i wr=>∃k:Nat,k<=l.length/\i=.int .i64 (k:Int)/\Hid (Uj w n l w.heap.size (w.heap.size+1) k wr)) (fun i _=>l.length-(intOf i).toNat)
 case atStart=>exact⟨0,zQ _,rfl,aP,aU,aS,fun i _ h=>absurd h (yB _)⟩
 case round=>
  obtain⟨k,hk,rfl,hI⟩:=hrel;clear aU aS aP;obtain⟨hB,hM,hL,hA⟩:=hI.o
  by_cases hlt:k<l.length
  .obtain ⟨b,o,rfl,bg,hc⟩:=(hl.o.below hB.o) (by omega);obtain⟨e1,e2,e3,e4,e5⟩:=hc k hlt;have a9:=hz.o l[k] (zN hlt);have aX:=hi.o l[k] (zN hlt);have au:=zh (bc.o k hlt);have an:=zh (sumU_take hlt);have af:=zh (Rs hlt);have av:=zh (Jp hlt);have a5:=NW k hk hA.o
   have aO:Hid (C8 n l k hlt->∀i (h:i<l.length),i<k+1->C8 n l i h):=fun h i hi h2=>by
    by_cases e:i=k
    .subst e;exact h
    exact hA.o i hi (by omega)
   have ae:Hid (C8 n l k hlt<->(Own n l[k]/\(0<k->Rise (l[k-1]'(by omega)) l[k])/\sumU (l.take (k+1)) l[k].1<=6000)):=wB;obtain⟨x,hx⟩:∃x,x=l[k]:=⟨_,rfl⟩;rw[<-hx]at e1 e2 e3 e4 e5 a9 aX an af av ae;obtain⟨co,ho,g,nn,dd⟩:=x;replace e1:wr.cell? ⟨b,o+k*5,none⟩=some (.int .i64 co):=e1;replace e2:wr.cell? ⟨b,o+k*5+1,none⟩=some (.int .i64 ho):=e2;replace e3:wr.cell? ⟨b,o+k*5+2,none⟩=some (.bool g):=e3;replace e4:wr.cell? ⟨b,o+k*5+3,none⟩=some (.string nn):=e4;replace e5:wr.cell? ⟨b,o+k*5+4,none⟩=some (.string dd):=e5;obtain⟨⟨i1,i2⟩,i3,i4⟩:=aX;replace i1:-9223372036854775808<=co:=i1;replace i2:co<=9223372036854775807:=i2;replace i3:-9223372036854775808<=ho:=i3;replace i4:ho<=9223372036854775807:=i4;obtain⟨z1,z2⟩:=a9;replace z1:nn.size<=140737488355328:=z1;replace z2:dd.size<=140737488355328:=z2;have a4:=a5 co;have aM:=H6 (g,nn,dd);have ku:Hid (∀W,Env W->Calls prog 72 #[.agg #[.bool g,.string nn,.string dd]] W fun e w'=>e=.returned (.int .i64 (unitsN (g,nn,dd):Int))/\Below W.heap.size W w'):=fun W hW=>Pg g nn dd W hW z1 z2;replace ae:Hid (C8 n l k hlt<->((0<=co/\co<n)/\(0<=ho/\ho<n)/\co≠ho/\unitsN (g,nn,dd)≠0)/\(0<k->Rise (l[k-1]'(by omega)) (co,ho,g,nn,dd))/\sumU (l.take (k+1)) co<=6000):=ae;replace af:Hid (0<=co->((0<k->Rise (l[k-1]'(by omega)) (co,ho,g,nn,dd))<->(DK l k<co\/(DK l k=co/\EA l k<ho)))):=af;replace an:Hid (∀c,sumU (l.take (k+1)) c=sumU (l.take k) c+if co=c then unitsN (g,nn,dd) else 0):=an;replace av:Hid (DK l (k+1)=co/\EA l (k+1)=ho):=av;have ai:Hid (sumU (l.take (k+1)) co=sumU (l.take k) co+unitsN (g,nn,dd)):=by have h:=an.o co;rwa [zD rfl]at h
   obtain⟨p,hp⟩:∃p,p=unitsN (g,nn,dd):=⟨_,rfl⟩;rw[<-hp]at aM ku ae an ai;obtain⟨sk,al⟩:∃s,s=sumU (l.take k) co:=⟨_,rfl⟩;rw[<-al]at a4 ai;obtain⟨lc,aJ⟩:∃s,s=DK l k:=⟨_,rfl⟩;obtain⟨lh,aK⟩:∃s,s=EA l k:=⟨_,rfl⟩;rw[<-aJ,<-aK]at hL af;replace hp:=zh hp;replace hx:=zh hx;replace al:=zh al;replace aJ:=zh aJ;replace aK:=zh aK;have i0:(0:Int)<=(k:Int):=by omega
   have i5:(k:Int)<(l.length:Int):=by omega
   clear hc a5 hI hl hz hi;have ap:Hid (Bk (wr.alloc (.cells #[.int .i64 co,.int .i64 ho,.bool g,.string nn,.string dd] 106)) wr.heap.size 106 [.int .i64 co,.int .i64 ho,.bool g,.string nn,.string dd]):=Bk.new wr _ _;have ad:=zh (hB.o.alloc hB.o.size (.cells #[.int .i64 co,.int .i64 ho,.bool g,.string nn,.string dd] 106));have hL1:=zh (hL.o.alloc (.cells #[.int .i64 co,.int .i64 ho,.bool g,.string nn,.string dd] 106));obtain⟨mc,f,aV,bq,hf⟩:=hM.o;have aG:=zh (aV.alloc (.cells #[.int .i64 co,.int .i64 ho,.bool g,.string nn,.string dd] 106));replace hf:=zh hf;clear aV
   go_wp2_with fail
   obtain⟨W1,aW⟩:∃W,W=wr.alloc (.cells #[.int .i64 co,.int .i64 ho,.bool g,.string nn,.string dd] 106):=⟨_,rfl⟩;rw[<-aW]at ap ad hL1 aG ⊢;have bm:w.heap.size+1<wr.heap.size:=hL.o.lt;obtain⟨xb,a7⟩:∃b,b=wr.heap.size:=⟨_,rfl⟩;rw[<-a7]at ap bm ⊢;clear aW a7 hL hB hM e1 e2 e3 e4 e5 bg
   have HO:Hid (∀W,Below W1.heap.size W1 W->W.cell? ⟨xb,0,none⟩=some (.int .i64 co)/\W.cell? ⟨xb,1,none⟩=some (.int .i64 ho)/\W.cell? ⟨xb,2,none⟩=some (.bool g)/\W.cell? ⟨xb,3,none⟩=some (.string nn)/\W.cell? ⟨xb,4,none⟩=some (.string dd)):=fun W h=>
    have h:=ap.o.below h
    ⟨h.c0,h.c1,h.c2,h.c3,h.c4⟩
   have aF:Hid (Below W1.heap.size W1 W1):=zI _ _;have aE:Hid (Below W1.heap.size W1 (W1.alloc (.cells #[.int .i64 0,.int .i64 0] 69))):=(zI _ _).alloc (zB _) _;have aq:Hid (Below W1.heap.size W1 (W1.alloc (.cells #[.int .i64 0,.int .i64 0] 69)).drew):=aE.o.drew;have ar:Hid (Below W1.heap.size W1 W1.drew):=aF.o.drew;have aR:Hid (Env W1.drew):=hE.o.below (ad.o.trans (ar.o.mono ad.o.size));have aQ:Hid (Env (W1.alloc (.cells #[.int .i64 0,.int .i64 0] 69)).drew):=hE.o.below (ad.o.trans (aq.o.mono ad.o.size));have a8:Hid (Bk (W1.alloc (.cells #[.int .i64 0,.int .i64 0] 69)).drew W1.heap.size 69 [.int .i64 0,.int .i64 0]):=Bk.new W1 69 _;have bk:=ap.o.lt
   go_region_held3 (fun w'=>w'.cell? ⟨xb,0,none⟩=some (.int .i64 co)/\w'.cell? ⟨xb,1,none⟩=some (.int .i64 ho)/\w'.cell? ⟨xb,2,none⟩=some (.bool g)/\w'.cell? ⟨xb,3,none⟩=some (.string nn)/\w'.cell? ⟨xb,4,none⟩=some (.string dd)) (first|(with_reducible exact HO.o _ aF.o)|(with_reducible exact HO.o _ ar.o)|(with_reducible exact HO.o _ aq.o)|(with_reducible exact HO.o _ aE.o)|(with_reducible exact HO.o _ aa.o)|(with_reducible exact HO.o _ (aa.o.alloc aa.o.size _))|(with_reducible exact HO.o _ ((aa.o.setCell (zB _) _).setCell (zB _) _))|go_keep)
    (first
      |(go_at_call 72;refine(ku.o _ ?_).mono ?_;(with_reducible exact aQ.o);rintro e w2 ⟨rfl,ao⟩;have aj:=zh (a8.o.below ao);have aa:=aq.t ao;have y1:=aj.o.c0;have y2:=aj.o.c1;have y3:=aj.o.frozen 0;have y4:=aj.o.frozen 1;have y5:=aj.o.lt;clear ao)
      |(go_at_call 72;refine(ku.o _ ?_).mono ?_;(with_reducible exact aR.o);rintro e w2 ⟨rfl,ao⟩;have aa:=ar.t ao;clear ao))
   all_goals (
    first
     |(obtain⟨kb,ag⟩:∃b,b=w2.heap.size:=⟨_,rfl⟩;obtain⟨w5,ah⟩:∃W,W=w2.alloc (.cells #[.int .i64 co,.int .i64 ho] 69):=⟨_,rfl⟩;rw[<-ah,<-ag];have ax:Hid (Bk w5 kb 69 [.int .i64 co,.int .i64 ho]):=(by rw[ah,ag];exact Bk.new w2 _ _);have am:Hid (Below W1.heap.size W1 w5):=(by rw[ah];exact aa.o.alloc aa.o.size _);have aY:W1.heap.size<=kb:=(by rw[ag];exact aa.o.size))
     |(obtain⟨kb,ag⟩:∃b,b=W1.heap.size:=⟨_,rfl⟩;obtain⟨w5,ah⟩:∃W,W=(w2.setCell ⟨W1.heap.size,0,none⟩ (.int .i64 co)).setCell ⟨W1.heap.size,1,none⟩ (.int .i64 ho):=⟨_,rfl⟩;rw[<-ah,<-ag];have ax:Hid (Bk w5 kb 69 [.int .i64 co,.int .i64 ho]):=(by rw[ah,ag];exact(aj.o.set 0 _).set 1 _);have am:Hid (Below W1.heap.size W1 w5):=(by rw[ah];exact(aa.o.setCell (zB _) _).setCell (zB _) _);have aY:W1.heap.size<=kb:=(by rw[ag];exact zB _);clear aj y1 y2 y3 y4 y5)
    clear ah ag aa ar aq aE a8 aR aQ aF;have aN:=zh (ap.o.below am.o);have aT:=zh (hL1.o.below am.o);have aH:=zh (aG.o.below am.o);have aC:=zh (ad.o.trans (am.o.mono ad.o.size));have bp:xb<kb:=by omega
    clear HO ap hL1 aG ad am bk aY;have aA:=Ew underlying3 i1 i2;have az:=aH.o.look FA underlying132 (HI _) aA;rw[hf.o co,<-al.o]at az;obtain⟨w6,a3,aI,aw⟩:=aH.o.put Gy FA underlying132 (by unfold maxLen;omega) aA (.int .i64 ((sk:Int)+(p:Int)));have u1:=aN.o.c0;have u2:=ax.o.c0;have u3:=ax.o.c1;have s0:(0:Int)<=(sk:Int)+(p:Int):=by omega
    go_upto_region 7 with(fail)
    have a6:some xb≠some w.heap.size:=fun e=>by have:=Option.some.inj e;omega
    have a0:some kb≠some w.heap.size:=fun e=>by have:=Option.some.inj e;omega
    have a1:some (w.heap.size+1)≠some w.heap.size:=fun e=>by have:=Option.some.inj e;omega
    have bj:=zh (aN.o.grown aw a6);have ay:=zh (ax.o.grown aw a0);have ab:=zh (aT.o.grown aw a1);have aD:Hid (Below w.heap.size w w6):=aC.o.grown aw aC.o.size (fun b e=>by cases e;exact zB _);have d:=aI.look FA underlying132 (HI _) aA;rw[Bg]at d;replace d:(Instr.lookup 132 (.map (some w.heap.size)) (.int .i64 co) false).run prog w6=.ok (.int .i64 ((sk:Int)+(p:Int))) w6:=d
    have be:Hid (Ui w6 w.heap.size l (k+1)):=by
     refine⟨_,_,aI,by split<;>omega,fun y=>?_⟩
     by_cases e:y=co
     .rw[e,Bg,ai.o];rfl
     rw[Bj e,hf.o y,an.o y,zC fun c=>e c.symm,ya]
    have n1:=(aD.o.cell (p:=⟨nb,0,none⟩) bi).trans aB.o;have aZ:Hid (w.heap.size+1≠kb):=fun e=>by omega
    clear a3 az aA aN ax aT aH aC aI aw u1 u2 u3 a6 a0 a1 hf;have u1:=bj.o.c0;have u2:=ay.o.c0;have u3:=ay.o.c1;have u4:=ab.o.c0;have u5:=ab.o.c1;have u6:=ab.o.frozen 0;have u7:=ab.o.frozen 1;have u8:=ab.o.lt;have u9:=ay.o.lt;clear u6 u7;obtain⟨r,hr⟩:∃r:Bool,r=decide (lc<co\/(lc=co/\lh<ho)):=⟨_,rfl⟩;obtain⟨q,hq⟩:∃q:Bool,q=decide (co<0\/(n:Int)<=co\/ho<0\/(n:Int)<=ho\/co=ho\/r=false\/p=0\/6000<sk+p):=⟨_,rfl⟩;have ak:(Instr.lookup 132 (.map (some w.heap.size)) (.int .i64 co) false).run prog w6=.ok (.int .i64 ((sk+p:Nat):Int)) w6:=d;replace hr:=zh hr;replace hq:=zh hq;clear d;refine WY kb (w.heap.size+1) co ho lc lh r hr.o w6 u2 u3 u4 u5 ?_;intro u33 u34 u35 u36 u37 u38 u39 u40 u41 u42 u43 u44 u45 u46 u47 u48 u49 u50 u51
    go_upto_region 8 with(fail)
    refine WZ xb kb nb w.heap.size n p (sk+p) co ho r q hq.o w6 aM (by omega) hn u1 u2 u3 n1 ak ?_;intro br bs bt bu bv bw bx bz bA bB bC bD bE bF bG bH bI bJ bK bL bM bN bO bP bQ bR bS bT bU bW bX bY bZ b0 b1 b2 b3 b4 b5 b6 b7;clear u1 u2 u3 u4 u5 n1 ak s0 aM a4 i0 i5
    cases q with
    |true=>
     have HG:Hid (E7 n l=false):=au.o fun h=>by
      have h2:=ae.o.1 h;have h3:=hq.o;have h4:=zL h3.symm;have h5:=h2.2.2;rw[ai.o]at h5;have h6:=(af.o h2.1.1.1).1 h2.2.1;have h7:r=true:=by rw[hr.o];exact zG h6
      rw[h7]at h4;obtain⟨⟨d1,d2⟩,⟨d3,d4⟩,d5,d6⟩:=h2.1
      rcases h4 with c|c|c|c|c|c|c|c
      .omega
      .omega
      .omega
      .omega
      .exact d5 c
      .cases c
      .exact d6 c
      omega
     clear hq hr ae af ai au;go_wp2;go_ret;exact⟨Ad HG.o.symm,aD.o⟩
    |false=>
     have aL:Hid (¬(co<0\/(n:Int)<=co\/ho<0\/(n:Int)<=ho\/co=ho\/r=false\/p=0\/6000<sk+p)):=zu hq.o.symm
     have a2:Hid (lc<co\/(lc=co/\lh<ho)):=by
      have h:=hr.o
      have h1:r=true:=by
       cases r
       .exact absurd (.inr (.inr (.inr (.inr (.inr (.inl rfl)))))) aL.o
       rfl
      rw[h1]at h;have h9:lc<co\/(lc=co/\lh<ho):=zL h.symm;exact h9
     have HN:Hid (∀i (h:i<l.length),i<k+1->C8 n l i h):=aO.o (ae.o.2 (by
      have h:=aL.o;refine⟨⟨⟨by omega,by omega⟩,⟨by omega,by omega⟩,fun c=>h (.inr (.inr (.inr (.inr (.inl c))))),by omega⟩,(af.o (by omega)).2 a2.o,by rw[ai.o];omega⟩))
     have bd:Hid (Bk ((w6.setCell ⟨w.heap.size+1,0,none⟩ (.int .i64 co)).setCell ⟨w.heap.size+1,1,none⟩ (.int .i64 ho)) (w.heap.size+1) 69 [.int .i64 (DK l (k+1)),.int .i64 (EA l (k+1))]):=by rw[av.o.1,av.o.2];exact(ab.o.set 0 _).set 1 _
     have ba:Hid (Below w.heap.size w ((w6.setCell ⟨w.heap.size+1,0,none⟩ (.int .i64 co)).setCell ⟨w.heap.size+1,1,none⟩ (.int .i64 ho))):=(aD.o.setCell (p:=⟨w.heap.size+1,0,none⟩) (xo _) _).setCell (p:=⟨w.heap.size+1,1,none⟩) (xo _) _
     have bf:Hid (Ui ((w6.setCell ⟨w.heap.size+1,0,none⟩ (.int .i64 co)).setCell ⟨w.heap.size+1,1,none⟩ (.int .i64 ho)) w.heap.size l (k+1)):=by
      obtain⟨c,f,h1,h2⟩:=be.o;exact⟨c,f,(h1.set (a:=⟨w.heap.size+1,0,none⟩) (yu (zo _)) _).set (a:=⟨w.heap.size+1,1,none⟩) (yu (zo _)) _,h2⟩
     clear hq hr ae af ai au aL a2 aO;have u2:=ay.o.c0;have u3:=ay.o.c1;have u4:=ab.o.c0;have u5:=ab.o.c1;have u6:=ab.o.frozen 0;have u7:=ab.o.frozen 1;have bo:=aZ.o;go_wp2
     go_roundw
     case rel=>exact⟨k+1,by omega,by go_num,ba,bf,bd,HN⟩
     case measure=>simp[intOf];omega)
  obtain rfl:k=l.length:=by omega
  have HG:=zh (bb.o fun i h=>hA.o i h h);go_wp2;go_ret;exact⟨Ad HG.o.symm,hB.o⟩
end Ci
end
section
open Go.RowKit Go.Shelf
namespace Ci
open Nt
structure StIn(w:World)(s:SR)(Ap Ac Av:Option Addr):Prop where
 ps:InStr w Ap s.ps
 cap:InLk w Ac s.cap
 vot:InLk w Av s.vot
 np:s.ps.length<=140737488355328
 nc:s.cap.length<=140737488355328
 nv:s.vot.length<=140737488355328
 zp:∀x,x∈s.ps->x.size<=140737488355328
 zc:∀x,x∈s.cap->x.2.2.2.1.size<=140737488355328/\x.2.2.2.2.size<=140737488355328
 zv:∀x,x∈s.vot->x.2.2.2.1.size<=140737488355328/\x.2.2.2.2.size<=140737488355328
 ic:∀x,x∈s.cap->(-9223372036854775808<=x.1/\x.1<=9223372036854775807)/\(-9223372036854775808<=x.2.1/\x.2.1<=9223372036854775807)
 iv:∀x,x∈s.vot->(-9223372036854775808<=x.1/\x.1<=9223372036854775807)/\(-9223372036854775808<=x.2.1/\x.2.1<=9223372036854775807)
theorem StIn.below{w w':World}{s:SR}{Ap Ac Av:Option Addr}(h:StIn w s Ap Ac Av)(hb:Below w.heap.size w w'):StIn w' s Ap Ac Av :=
 ⟨h.ps.below hb,h.cap.below hb,h.vot.below hb,h.np,h.nc,h.nv,h.zp,h.zc,h.zv,h.ic,h.iv⟩
theorem NX(t:TypeId)(a b:ByteArray):binOp .leq t (.string a) (.string b)=pure (.bool (Kh a b)):=by simp[binOp,Op.stringOp,Kh]
abbrev SC(s:SR)(Ap Ac Av:Option Addr)(cp cc cv:Nat):List Value:=[.slice Ap s.ps.length cp,.slice Ac s.cap.length cc,.slice Av s.vot.length cv]
theorem EZ(s:SR)(Ap Ac Av:Option Addr)(cp cc cv:Nat)(w:World)(hE:Env w)(hs:StIn w s Ap Ac Av):
 Calls prog 33 #[.agg #[.slice Ap s.ps.length cp,.slice Ac s.cap.length cc,.slice Av s.vot.length cv]] w fun e w'=>e=.returned (.bool (Ao s))/\Below w.heap.size w w':=by
 have am:=hs.np;have aw:=zh (fun(k:Nat) (h:k<s.ps.length) (hb:¬BV s.ps k h)=>Ji (l:=s.ps) h hb);have av:=zh (Jj (l:=s.ps));have ax:Hid (Bk (w.alloc (.cells #[.slice Ap s.ps.length cp,.slice Ac s.cap.length cc,.slice Av s.vot.length cv] 32)) w.heap.size 32 (SC s Ap Ac Av cp cc cv)):=Bk.new w _ _;have au:Hid (Below w.heap.size w (w.alloc (.cells #[.slice Ap s.ps.length cp,.slice Ac s.cap.length cc,.slice Av s.vot.length cv] 32))):=(zI _ w).alloc (zB _) _;have kg:=zh (fun A cap nb l W hE hl h1 h2 h3 h4 h5=>Rt A cap s.ps.length nb l W hE hl h1 h2 h3 h4 h5);replace hE:=zh hE;replace hs:=zh hs;go_enter func33,ntmps33;go_wp2
 go_loopw [10] (fun i wr=>∃k:Nat,k<=s.ps.length/\i=.int .i64 (k:Int)/\Hid (Below w.heap.size w wr)/\Hid (Bk wr w.heap.size 32 (SC s Ap Ac Av cp cc cv))/\Hid (∀i (h:i<s.ps.length),i<k->BV s.ps i h)) (fun i _=>s.ps.length-(intOf i).toNat)
 case atStart=>exact⟨0,zQ _,rfl,au,ax,fun i _ h=>absurd h (yB _)⟩
 case round=>
  obtain⟨k,hk,rfl,hB,hX,hA⟩:=hrel;clear ax au
  by_cases hlt:k<s.ps.length
  .obtain ⟨b,o,rfl,ay,hc⟩:=(hs.o.below hB.o).ps (by omega);have e1:=hc k hlt;have e0:Hid (0<k->wr.cell? ⟨b,o+(k-1),none⟩=some (.string (s.ps[k-1]'(by omega)))):=fun h=>hc (k-1) (by omega);have zx:=hs.o.zp s.ps[k] (zN hlt);have al:=zh (aw.o k hlt)
   have ah:Hid (BV s.ps k hlt->∀i (h:i<s.ps.length),i<k+1->BV s.ps i h):=fun h i hi h2=>by
    by_cases e:i=k
    .subst e;exact h
    exact hA.o i hi (by omega)
   have d:Hid (BV s.ps k hlt<->Ak s.ps[k]=true/\(0<k->Kh s.ps[k] (s.ps[k-1]'(by omega))=false)):=wB;obtain⟨nm,ar⟩:∃x,x=s.ps[k]:=⟨_,rfl⟩;rw[<-ar]at e1 zx d;replace ar:=zh ar;have u0:=hX.o.c0;have u9:=hX.o.lt;have i0:(0:Int)<=(k:Int):=by omega
   have i1:(k:Int)<(s.ps.length:Int):=by omega
   have kn:=MF nm;clear hc
   cases ab:Ak nm with
   |false=>
    have HG:Hid (Ao s=false):=by
     have:E8 s.ps=false:=al.o fun h=>by have:=(d.o.1 h).1;rw[ab]at this;cases this
     unfold Hid Ao;rw[this];rfl
    rw[ab]at kn;replace kn:=zh kn;clear ab d ah
    go_wp2_with fail
    refine(kn.o _ (by omega)).q fun w2 hb=>?_;have ae:=hB.t hb;clear hb;go_wp2;go_ret;exact⟨Ad HG.o.symm,ae.o⟩
   |true=>
    rw[ab]at kn;replace kn:=zh kn
    by_cases hk0:k=0
    .have m1:decide (0<(k:Int))=false:=zH (by omega);have m2:decide (0<k)=false:=zH (by omega);have HN:=zh (ah.o (d.o.2 ⟨ab,fun h=>by omega⟩));replace hk0:=zh hk0;clear ab d ah al
     go_wp2_with fail
     refine(kn.o _ (by omega)).q fun w2 hb=>?_;have ae:=hB.t hb;have ad:=zh (hX.o.below hb);clear hb e1 u0 u9;go_wp2
     go_roundw
     case rel=>exact⟨k+1,by omega,by go_num,ae,ad,HN⟩
     case measure=>simp[intOf];omega
    have m1:decide (0<(k:Int))=true:=zG (by omega);have m2:decide (0<k)=true:=zG (by omega);have e2:=e0.o (by omega);obtain⟨pm,ao⟩:∃x,x=s.ps[k-1]'(by omega):=⟨_,rfl⟩;rw[<-ao]at e2
    have af:Hid (BV s.ps k hlt<->Ak nm=true/\Kh nm pm=false):=by
     rw[ao];exact⟨fun h=>⟨(d.o.1 h).1,(d.o.1 h).2 (by omega)⟩,fun h=>d.o.2 ⟨h.1,fun _=>h.2⟩⟩
    replace ao:=zh ao;have ap:=NX 9 nm pm;have j1:(0:Int)<=(k:Int)-1:=by omega
    have j2:(k:Int)-1<(s.ps.length:Int):=by omega
    have j3:((k:Int)-1).toNat=k-1:=by omega
    cases ak:Kh nm pm with
    |true=>
     have HG:Hid (Ao s=false):=by
      have:E8 s.ps=false:=al.o fun h=>by have:=(af.o.1 h).2;rw[ak]at this;cases this
      unfold Hid Ao;rw[this];rfl
     rw[ak]at ap;clear ab d ah af ak e0 al
     go_wp2_with fail
     refine(kn.o _ (by omega)).q fun w2 hb=>?_;have ae:=hB.t hb;have ad:=zh (hX.o.below hb);replace e2:=(hb.cell (p:=⟨b,o+(k-1),none⟩) ay).trans e2;clear hb e1 u0 u9;have u0:=ad.o.c0;have u9:=ad.o.lt;go_wp2;go_ret;exact⟨Ad HG.o.symm,ae.o⟩
    |false=>
     have HN:=zh (ah.o (af.o.2 ⟨ab,ak⟩));rw[ak]at ap;clear ab d ah af ak e0 al
     go_wp2_with fail
     refine(kn.o _ (by omega)).q fun w2 hb=>?_;have ae:=hB.t hb;have ad:=zh (hX.o.below hb);replace e2:=(hb.cell (p:=⟨b,o+(k-1),none⟩) ay).trans e2;clear hb e1 u0 u9;have u0:=ad.o.c0;have u9:=ad.o.lt;go_wp2
     go_roundw
     case rel=>exact⟨k+1,by omega,by go_num,ae,ad,HN⟩
     case measure=>simp[intOf];omega
  obtain rfl:k=s.ps.length:=by omega
  have ag:=av.o fun i h=>hA.o i h h
  have HG:Hid (Ao s=(decide (s.ps.length<=60)&&(E7 s.ps.length s.cap&&E7 s.ps.length s.vot))):=by
   unfold Hid Ao;rw[ag];rfl
  clear ag hA av aw;have u0:=hX.o.c0;have u1:=hX.o.c1;have u2:=hX.o.c2;have u9:=hX.o.lt;have aB:=zh (hX.o.alloc (.cells #[.int .i64 (s.ps.length:Int)] 3));have aq:Hid (Bk (wr.alloc (.cells #[.int .i64 (s.ps.length:Int)] 3)) wr.heap.size 3 [.int .i64 (s.ps.length:Int)]):=Bk.new wr _ _;have aa:=zh (hB.o.alloc hB.o.size (.cells #[.int .i64 (s.ps.length:Int)] 3))
  by_cases h60:s.ps.length<=60
  .cases aj:E7 s.ps.length s.cap with
   |false=>
    have kc:=zh (kg.o Ac cc wr.heap.size s.cap _ (hE.o.below aa.o) (hs.o.below aa.o).cap hs.o.nc am (aq.o.c0) hs.o.zc hs.o.ic);rw[aj]at kc;rw[aj,wY,Bool.and_false]at HG;replace HG:=zh HG.o;clear aj kg
    go_wp2_with fail
    refine kc.o.q fun w4 hb=>?_;have ai:=aa.t hb;clear hb;go_wp2;go_ret;exact⟨Ad HG.o.symm,ai.o⟩
   |true=>
    have kc:=zh (kg.o Ac cc wr.heap.size s.cap _ (hE.o.below aa.o) (hs.o.below aa.o).cap hs.o.nc am (aq.o.c0) hs.o.zc hs.o.ic);have kv:=zh (fun W h1 h2 h3=>kg.o Av cv wr.heap.size s.vot W h1 h2 hs.o.nv am h3 hs.o.zv hs.o.iv);rw[aj]at kc;rw[aj,vD,zG h60,vD]at HG;replace HG:=zh HG.o;clear aj kg
    go_wp2_with fail
    refine kc.o.q fun w4 hb=>?_;have ai:=aa.t hb;have an:=zh (aB.o.below hb);have aA:=zh (aq.o.below hb);clear hb u0 u1 u2 u9;have u0:=an.o.c0;have u1:=an.o.c1;have u2:=an.o.c2;have u9:=an.o.lt
    go_wp2_with fail
    refine(kv.o _ (hE.o.below ai.o) (hs.o.below ai.o).vot (aA.o.c0)).q fun w5 hb=>?_;have az:=ai.t hb;clear hb;go_wp2;go_ret;exact⟨Ad (by rw[HG.o]),az.o⟩
  have m1:decide ((s.ps.length:Int)<=60)=false:=zH (by omega);have m2:decide (s.ps.length<=60)=false:=zH h60;rw[m2,wY]at HG;replace HG:=zh HG.o;go_wp2;go_ret;exact⟨Ad HG.o.symm,aa.o⟩
end Ci
end
section
open Go.ChangeShapes Go.WideShapes Go.ChangeAt Go.RowKit Go.Shelf Go.Joins Go.Deep
namespace Ci
open Nt
section
variable {H:Type}
theorem HJ{P:Program}{e:TypeId}{d:DataW H}:∀{l:List (DataW H)},d∈l->∀m∈d.weights P e,m∈DataW.weightsAll P e l:=by
 intro l
 induction l with
 |nil=>intro h;cases h
 |cons a l ih=>
  intro h m hm;rw[DataW.weightsAll,yQ]
  rcases List.mem_cons.1 h with rfl|h
  .exact .inl hm
  exact .inr (ih h m hm)
theorem Fv{enc:TypeId×Value->H}{P:Program}{W W':World}{base:Nat}{sp':Nat->Bool}(hl:laidOutB P=true):∀{ts:List TypeId} {vs:List Value} {ds:List (DataW H)} {ps:List MemPlace},
 (∀t∈ts,P.readableRec t=true/\t<P.types.size)->DataW.TrodAll enc P W base (fun _=>true) true ts vs ds ps->(∀p∈ps,W.sameAt W' p)->(∀p∈ps,sp' p.block=true)->DataW.TrodAll enc P W' base sp' true ts vs ds ps
 | [],[],[],_,_,h,_,_=>h
 |_ :: _,_::_,_::_,_,hT,⟨p,q,h1,h2,e⟩,hs,hb=>
  ⟨p,q,WideElems.Trod_stays hl (hT _ (List.mem_cons.2 (.inl rfl))).1 (hT _ (List.mem_cons.2 (.inl rfl))).2 h1 (fun x hx=>hs x (by rw[e];exact xA _ hx)) (fun x hx=>hb x (by rw[e];exact xA _ hx)),
    Fv hl (fun t ht=>hT t (List.mem_cons.2 (.inr ht))) h2 (fun x hx=>hs x (by rw[e];exact wC _ hx)) (fun x hx=>hb x (by rw[e];exact wC _ hx)),e⟩
theorem Ls{ts:List TypeId}{ds:List (DataW H)}{j:Nat}{t:TypeId}{d:DataW H}(h:(DataW.weightsEach prog ts ds).all (·<=reachBytes)=true)(ht:ts[j]? = some t)(hd:ds[j]? = some d):∀m∈d.weights prog t,m<=140737488351232:=fun m hm=>
 zL (List.all_eq_true.1 h _ (DataW.weights_mem_each (P:=prog) ht hd m hm))
theorem NY{α:Type}{f:α->DataW H}{l:List α}{d:DataW H}{t e:TypeId}(ht:prog.underlying t=some (.slice e))(hb:0<prog.bytesOf e)(h:Lq f l d)(hw:∀m∈d.weights prog t,m<=140737488351232):
 l.length<=140737488355328/\∀x∈l,∀m∈(f x).weights prog e,m<=140737488351232:=by
 rcases h with⟨_,rfl⟩|⟨rest,rfl⟩
 .exact⟨by simp,fun x h=>absurd h (by simp)⟩
 have e1:(DataW.slice (l.map f) rest).weights prog t=((l.map f).length+rest.length)*prog.bytesOf e::(DataW.weightsAll prog e (l.map f)++DataW.weightsAll prog e rest):=by
  simp[DataW.weights,ht]
 rw[e1]at hw;have h1:=hw _ (zf ..);rw[zW]at h1;refine⟨?_,fun x hx m hm=>hw _ (zY _ (xA _ (HJ (vC (f:=f) hx) m hm)))⟩;have h2:l.length<=(l.length+rest.length)*prog.bytesOf e:=zS (Nat.le_add_right _ _) (vJ _ hb);omega
theorem DL{x:ByteArray}(h:∀m∈(Eg (H:=H) x).weights prog 9,m<=140737488351232):x.size<=140737488355328:=by
 have h1:=h x.data.toList.length (by simp[Eg,DataW.weights]);have z1:x.size=x.data.toList.length:=Lib.size_eq _;omega
end
section
variable {H:Type} {enc:TypeId×Value->H} {w:World} {base:Nat} {held:Bool}
end
end Ci
end
section
open Go.RowKit Go.Shelf
namespace Rg
open Nt Ci
instance (x:ByteArray) (l:List ByteArray):Decidable (x∈l):=decidable_of_iff (∃y,y∈l/\y=x) ⟨fun⟨_,h,e⟩=>e▸h,fun h=>⟨x,h,rfl⟩⟩
structure Hd where
 id:ByteArray
 co:ByteArray
 ho:ByteArray
 no:ByteArray
 pl:ByteArray
 jo:List ByteArray
 ca:Int
 vo:Int
 fr:Int
 tt:Int
def CU(n:Int):Prop:=0<=n/\n<=100000
instance (n:Int):Decidable (CU n):=inferInstanceAs (Decidable (_/\_))
def Cr(n:Int):Prop:=0<=n/\n<=100
instance (n:Int):Decidable (Cr n):=inferInstanceAs (Decidable (_/\_))
def HU(s:ByteArray):Prop:=s.size=0\/Ak s=true
instance (s:ByteArray):Decidable (HU s):=inferInstanceAs (Decidable (_\/_))
def MH(h:Hd)(k:Nat)(hk:k<h.jo.length):Prop:=Ak h.jo[k]=true/\h.jo[k]∉h.ho::h.jo.take k
instance (h:Hd) (k:Nat) (hk:k<h.jo.length):Decidable (MH h k hk):=inferInstanceAs (Decidable (_/\_))
def Jq(h:Hd):Prop:=Ak h.id=true/\Ak h.co=true/\Ak h.ho=true/\HU h.no/\HU h.pl/\h.jo.length<=4/\(h.no.size=0\/h.jo.length=0)
instance (h:Hd):Decidable (Jq h):=inferInstanceAs (Decidable (_/\_))
def Jr(h:Hd):Prop:=h.co∉h.ho::h.jo/\h.co≠h.no/\Cr h.ca/\Cr h.vo/\CU h.fr/\(h.tt=-1\/CU h.tt/\h.fr<h.tt)
instance (h:Hd):Decidable (Jr h):=inferInstanceAs (Decidable (_/\_))
def Proper(h:Hd):Prop:=Jq h/\(∀k (hk:k<h.jo.length),MH h k hk)/\Jr h
instance (h:Hd):Decidable (Proper h):=inferInstanceAs (Decidable (_/\_))
def BC(h:Hd)(day:Int):Prop:=h.fr<=day/\(h.tt=-1\/day<h.tt)
instance (h:Hd) (day:Int):Decidable (BC h day):=inferInstanceAs (Decidable (_/\_))
def opt(s:ByteArray):List ByteArray:=if s.size=0 then [] else [s]
def nms(h:Hd):List ByteArray:=h.co::h.ho::(opt h.no++opt h.pl++h.jo.flatMap opt)
def Dm(l:List Hd):List ByteArray:=l.flatMap nms
def ltB(a b:ByteArray):Prop:=a.data.toList<b.data.toList
instance (a b:ByteArray):Decidable (ltB a b):=inferInstanceAs (Decidable (_<_))
theorem EB(a b:ByteArray)(h:ltB a b):¬ltB b a:=List.lt_asymm h
theorem DA{α:Type _}{r:α->α->Prop}(asym:∀a b,r a b->¬r b a):∀{l m:List α},l.Pairwise r->m.Pairwise r->(∀x,x∈l<->x∈m)->l=m
 | [],[],_,_,_=>rfl
 | [],b::m,_,_,h=>absurd ((h b).2 zf) yK
 |a::l,[],_,_,h=>absurd ((h a).1 zf) yK
 |a :: l,b::m,hl,hm,h=>by
  have d:=List.pairwise_cons.1 hl;have aa:=List.pairwise_cons.1 hm
  have e:a=b:=by
   rcases List.mem_cons.1 ((h a).1 zf) with e|e
   .exact e
   rcases List.mem_cons.1 ((h b).2 zf) with f|f
   .exact f.symm
   exact absurd (aa.1 a e) (asym _ _ (d.1 b f))
  subst e
  congr 1
  refine DA asym d.2 aa.2 fun x=>⟨fun hx=>?_,fun hx=>?_⟩
  .rcases List.mem_cons.1 ((h x).1 (zY _ hx)) with f|f
   .subst f;exact absurd (d.1 x hx) (asym _ _ (d.1 x hx))
   exact f
  rcases List.mem_cons.1 ((h x).2 (zY _ hx)) with f|f
  .subst f;exact absurd (aa.1 x hx) (asym _ _ (aa.1 x hx))
  exact f
def IsParts(l:List Hd)(ps:List ByteArray):Prop:=ps.Pairwise ltB/\∀x,x∈ps<->x∈Dm l
theorem IsParts.unique{l m:List Hd}{ps qs:List ByteArray}(h:IsParts l ps)(k:IsParts m qs)(e:∀x,x∈Dm l<->x∈Dm m):ps=qs :=
 DA EB h.1 k.1 fun x=>(h.2 x).trans ((e x).trans (k.2 x).symm)
def AY(f:Hd->Int)(l:List Hd)(day:Int)(c:ByteArray):Int:=((l.filter fun h=>decide (BC h day)&&decide (h.co=c)).map f).sum
def D5(l:List Hd)(day:Int):Prop:=∀h∈l,AY Hd.ca l day h.co<=100/\AY Hd.vo l day h.co<=100
instance (l:List Hd) (day:Int):Decidable (D5 l day):=inferInstanceAs (Decidable (∀h∈l,_))
def BY(l:List Hd):Prop:=∀h∈l,D5 l h.fr
instance (l:List Hd):Decidable (BY l):=inferInstanceAs (Decidable (∀h∈l,_))
def HW(l:List Hd)(k:Nat)(h:k<l.length):Prop:=Proper l[k]/\l[k].id∉(l.take k).map Hd.id
instance (l:List Hd) (k:Nat) (h:k<l.length):Decidable (HW l k h):=inferInstanceAs (Decidable (_/\_))
def Valid(l:List Hd):Prop:=(∀k (h:k<l.length),HW l k h)/\l.length<=400/\(∀ps,IsParts l ps->ps.length<=60)/\BY l
def Cl(h:Hd):List ByteArray:=if h.no.size=0 then h.ho::h.jo else [h.no]
def Eh(h:Hd):List ByteArray:=if h.pl.size=0 then Cl h else [h.pl]
def Kj(who:List ByteArray)(co:ByteArray)(p:Int):List ((ByteArray×ByteArray)×Int) :=
 (who.filter fun x=>decide (0<p)&&decide (x≠co)).map fun x=>((co,x),p*60/who.length)
def addC(day:Int)(h:Hd):List ((ByteArray×ByteArray)×Int):=if BC h day then Kj (Cl h) h.co h.ca else []
def addV(day:Int)(h:Hd):List ((ByteArray×ByteArray)×Int):=if BC h day then Kj (Eh h) h.co h.vo else []
def tot(D:List ((ByteArray×ByteArray)×Int))(k:ByteArray×ByteArray):Int:=((D.filter fun x=>decide (x.1=k)).map (·.2)).sum
def rqR(q:Rat):Rw:=(decide (q.num<0),T (some q.num.natAbs),T (some q.den))
def IsLinks(ps:List ByteArray)(D:List ((ByteArray×ByteArray)×Int))(l:List Lk):Prop :=
 l.Pairwise Rise/\(∀x∈l,∃i j,∃(hi:i<ps.length)(hj:j<ps.length),x.1=i/\x.2.1=j/\(∃v,((ps[i],ps[j]),v)∈D)/\lkP x=rqR (ofQ (tot D (ps[i],ps[j])) 6000)) /\
 ∀i j (hi:i<ps.length) (hj:j<ps.length),(∃v,((ps[i],ps[j]),v)∈D)->∃x∈l,x.1=i/\x.2.1=j
theorem Rise.asym(a b:Lk)(h:Rise a b):¬Rise b a:=by unfold Rise at *;omega
theorem IsLinks.unique{ps:List ByteArray}{D E:List ((ByteArray×ByteArray)×Int)}{l m:List Lk}(h:IsLinks ps D l)(k:IsLinks ps E m)
 (e:∀p,(∃v,(p,v)∈D)<->∃v,(p,v)∈E)(t:∀p,tot D p=tot E p):l=m:=by
 have key:∀{D E:List ((ByteArray×ByteArray)×Int)} {l m:List Lk},IsLinks ps D l->IsLinks ps E m->(∀p,(∃v,(p,v)∈D)<->∃v,(p,v)∈E)->(∀p,tot D p=tot E p)->∀x,x∈l->x∈m:=by
  intro D E l m h k e t x hx;obtain⟨i,j,hi,hj,e1,e2,e3,e4⟩:=h.2.1 x hx;obtain⟨y,hy,f1,f2⟩:=k.2.2 i j hi hj ((e _).1 e3);obtain⟨i',j',ab,ad,g1,g2,_,g4⟩:=k.2.1 y hy;have d:i'=i:=by omega
  have aa:j'=j:=by omega
  subst d;subst aa
  have:x=y:=by
   obtain⟨x1,x2,x3⟩:=x;obtain⟨y1,y2,y3⟩:=y;simp only[lkP]at e1 e2 f1 f2 e4 g4;rw[t]at e4;rw[e1,e2,f1,f2]
   congr 2
   exact(Prod.ext_iff.1 (e4.trans g4.symm)).elim fun a b=>Prod.ext a (Prod.ext (Prod.ext_iff.1 b).1 (Prod.ext_iff.1 b).2)
  rw[this];exact hy
 exact DA Rise.asym h.1 k.1 fun x=>⟨key h k e t x,key k h (fun p=>(e p).symm) (fun p=>(t p).symm) x⟩
def AtS(l:List Hd)(day:Int)(s:SR):Prop :=
 IsParts l s.ps/\IsLinks s.ps (l.flatMap (addC day)) s.cap/\IsLinks s.ps (l.flatMap (addV day)) s.vot
theorem Bh{a b:ByteArray}:(a.toList==b.toList)=decide (a=b):=by
 rw[xX,yw,yU,yP,yP];constructor
 .intro h;obtain⟨a⟩:=a;obtain⟨b⟩:=b;exact congrArg ByteArray.mk (Array.toList_inj.1 h)
 rintro rfl;rfl
theorem Dd{a:ByteArray}:a=⟨#[]⟩<->a.size=0:=by
 constructor
 .rintro rfl;rfl
 intro h;obtain⟨a⟩:=a;exact congrArg ByteArray.mk (Array.size_eq_zero_iff.1 h)
theorem Ia{a:ByteArray}(h:a≠⟨#[]⟩):¬a.toList=[]:=fun e=>h (by
 have:=decide_eq_true_iff.1 ((@Bh a ⟨#[]⟩).symm.trans (beq_iff_eq.2 (e.trans (by rw[yP]))));exact this)
theorem G0{a:ByteArray}(h:a≠⟨#[]⟩):a.toList.isEmpty=false:=by
 have:=Ia h
 cases e:a.toList with
 |nil=>exact absurd e this
 |cons x l=>rfl
theorem FU(n:Int)(w:World):Calls prog 25 #[.int .i64 n] w fun e w'=>e=.returned (.bool (decide (CU n)))/\w'=w:=by
 have hd:decide (CU n)=(decide (0<=n)&&decide (n<=100000)):=Bool.decide_and _ _;rw[hd]
 by_cases c1:0<=n
 .have m1:decide (0<=n)=true:=zG c1
  by_cases c2:n<=100000
  .have m2:decide (n<=100000)=true:=zG c2;rw[m1,m2];go_enter func25,ntmps25;go_wp2;go_ret;exact⟨rfl,rfl⟩
  have m2:decide (n<=100000)=false:=zH c2;rw[m1,m2];go_enter func25,ntmps25;go_wp2;go_ret;exact⟨rfl,rfl⟩
 have m1:decide (0<=n)=false:=zH c1;rw[m1,wY];go_enter func25,ntmps25;go_wp2;go_ret;exact⟨rfl,rfl⟩
theorem Fa(n:Int)(w:World):Calls prog 59 #[.int .i64 n] w fun e w'=>e=.returned (.bool (decide (Cr n)))/\w'=w:=by
 have hd:decide (Cr n)=(decide (0<=n)&&decide (n<=100)):=Bool.decide_and _ _;rw[hd]
 by_cases c1:0<=n
 .have m1:decide (0<=n)=true:=zG c1
  by_cases c2:n<=100
  .have m2:decide (n<=100)=true:=zG c2;rw[m1,m2];go_enter func59,ntmps59;go_wp2;go_ret;exact⟨rfl,rfl⟩
  have m2:decide (n<=100)=false:=zH c2;rw[m1,m2];go_enter func59,ntmps59;go_wp2;go_ret;exact⟨rfl,rfl⟩
 have m1:decide (0<=n)=false:=zH c1;rw[m1,wY];go_enter func59,ntmps59;go_wp2;go_ret;exact⟨rfl,rfl⟩
theorem Vo(s:ByteArray)(w:World)(hs:s.size<=9223372036854775807):Calls prog 57 #[.string s] w fun e w'=>e=.returned (.bool (decide (HU s)))/\w'=w:=by
 by_cases c:s=⟨#[]⟩
 .subst c;rw[show decide (HU ⟨#[]⟩)=true from zG (.inl rfl)];go_enter func57,ntmps57;go_wp2;go_ret;exact⟨rfl,rfl⟩
 have hR:Hid (decide (HU s)=Ak s):=by
  have c0:s.size≠0:=fun h=>c (Dd.2 h)
  show decide (HU s)=Ak s
  rw[xX,yU];exact⟨fun h=>h.resolve_left c0,.inr⟩
 have hE:=Ia c;have hF:=G0 c;have k:=zh (DJ s w hs);rw[hR.o];go_enter func57,ntmps57
 go_wp2_with fail
 refine k.o.q fun wq hq=>?_;obtain rfl:=hq.symm;go_wp2;go_ret;exact⟨rfl,rfl⟩
def hdV(h:Hd)(A:Option Addr)(c:Nat):List Value:=[.string h.id,.string h.co,.string h.ho,.string h.no,.string h.pl,.slice A h.jo.length c,.int .i64 h.ca,.int .i64 h.vo,.int .i64 h.fr,.int .i64 h.tt]
structure HdSz(h:Hd):Prop where
 id:h.id.size<=140737488355328
 co:h.co.size<=140737488355328
 ho:h.ho.size<=140737488355328
 no:h.no.size<=140737488355328
 pl:h.pl.size<=140737488355328
 jo:h.jo.length<=140737488355328
 js:∀x∈h.jo,x.size<=140737488355328
 ca:-9223372036854775808<=h.ca/\h.ca<=9223372036854775807
 vo:-9223372036854775808<=h.vo/\h.vo<=9223372036854775807
 fr:-9223372036854775808<=h.fr/\h.fr<=9223372036854775807
 tt:-9223372036854775808<=h.tt/\h.tt<=9223372036854775807
theorem Ru(h:Hd)(hz:HdSz h)(A:Option Addr)(c:Nat)(day:Int)(w:World):
 Calls prog 29 #[.agg #[.string h.id,.string h.co,.string h.ho,.string h.no,.string h.pl,.slice A h.jo.length c,.int .i64 h.ca,.int .i64 h.vo,.int .i64 h.fr,.int .i64 h.tt],.int .i64 day] w
  fun e w'=>e=.returned (.bool (decide (BC h day)))/\Below w.heap.size w w':=by
 obtain⟨_,_,_,_,_,_,_,_,_,z1,z2⟩:=hz
 have hR:Hid (decide (BC h day)=(decide (h.fr<=day)&&(decide (h.tt=-1)||decide (day<h.tt)))):=by
  show decide (BC h day)=_
  rw[xX,yU,zq,Bool.or_eq_true,yU,yU,yU];exact wB
 generalize decide (BC h day)=R at hR;obtain⟨id,co,ho,no,pl,jo,ca,vo,fr,tt⟩:=h;simp only[]at z1 z2 ⊢;replace hR:Hid (R=(decide (fr<=day)&&(decide (tt=-1)||decide (day<tt)))):=hR;have hx:Hid (Bk (w.alloc (.cells #[.string id,.string co,.string ho,.string no,.string pl,.slice A jo.length c,.int .i64 ca,.int .i64 vo,.int .i64 fr,.int .i64 tt] 29)) w.heap.size 29 [.string id,.string co,.string ho,.string no,.string pl,.slice A jo.length c,.int .i64 ca,.int .i64 vo,.int .i64 fr,.int .i64 tt]):=Bk.new w _ _;have hB:Hid (Below w.heap.size w (w.alloc (.cells #[.string id,.string co,.string ho,.string no,.string pl,.slice A jo.length c,.int .i64 ca,.int .i64 vo,.int .i64 fr,.int .i64 tt] 29))):=(zI _ w).alloc (zB _) _;have x8:=hx.o.cell (j:=8) rfl;have x9:=hx.o.cell (j:=9) rfl;have xl:=hx.o.lt;clear hx
 by_cases c1:fr<=day
 .have m1:decide (fr<=day)=true:=zG c1
  by_cases c2:tt=-1
  .subst c2;have hQ:Hid (R=true):=by rw[hR.o,m1];rfl
   rw[hQ.o];clear hR;go_enter func29,ntmps29;go_wp2;go_ret;exact⟨rfl,hB.o⟩
  have m2:(tt==-1)=false:=beq_eq_false_iff_ne.2 c2;have m2d:decide (tt=-1)=false:=zH c2
  by_cases c3:day<tt
  .have m3:decide (day<tt)=true:=zG c3;have hQ:Hid (R=true):=by rw[hR.o,m1,m2d,m3];rfl
   rw[hQ.o];clear hR;go_enter func29,ntmps29;go_wp2;go_ret;exact⟨rfl,hB.o⟩
  have m3:decide (day<tt)=false:=zH c3;have hQ:Hid (R=false):=by rw[hR.o,m1,m2d,m3];rfl
  rw[hQ.o];clear hR;go_enter func29,ntmps29;go_wp2;go_ret;exact⟨rfl,hB.o⟩
 have m1:decide (fr<=day)=false:=zH c1;have hQ:Hid (R=false):=by rw[hR.o,m1];rfl
 rw[hQ.o];clear hR;go_enter func29,ntmps29;go_wp2;go_ret;exact⟨rfl,hB.o⟩
theorem Dn(b off j:Nat):Addr.add ⟨b,off,none⟩ j=⟨b,off+j,none⟩:=by
 unfold Addr.add
 by_cases h:j=0
 .rw[zD h,h];rfl
 rw[zC h]
theorem InStr.own{W:World}{base g n cap:Nat}{xs:List ByteArray}(h:W.ownsRow base 9 1 (.slice (some ⟨g,0,none⟩) n cap) n (xs.map Value.string)):InStr W (some ⟨g,0,none⟩) xs:=fun h0=>by
 rcases h.2 with⟨h1,_⟩|⟨g',cap',cur,h1,_,hg,_⟩
 .cases h1
 have e:g=g':=by injection h1 with h1;injection h1 with h1;injection h1
 refine⟨g,0,rfl,?_,fun j hj=>?_⟩
 .rw[e];exact(Array.getElem?_eq_some_iff.1 hg).1
 have:=h.cells (g:=g) rfl j (.string xs[j]) (by rw[xq,zj hj];rfl)
 rwa [Dn]at this
end Rg
end
end Go.Proofs.YtefmpngjjmddjaaGreatDoor

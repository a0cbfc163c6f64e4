/- Parts of the proof. -/
import Derived.Test.YtmfjbpcecpgchaaGreatDoorKfF
set_option maxHeartbeats 4000000
set_option maxRecDepth 100000
open Go.Proofs.Tryz
namespace Go.Proofs.YtmfjbpcecpgchaaGreatDoor
section
open Go.RowKit Go.Shelf
namespace Sh
open Nt Ci
noncomputable def ev(s:SR)(F:List Int):Nat->Rat:=Hq SQ s.ps.length (Ai s.cap) (toN F)
theorem Ku{s:SR}{F:List Int}(a:Am s=true)(h:BE s.ps.length (Ad s) (toN F)=false):Eff s.ps.length (Ai s.cap) (toN F) (ev s F):=by
 rw[<-BO]at h;exact S8 (BW a) Nu (N0 h).2
theorem Et{s:SR}(F:List Int)(a:Am s=true)(hn:s.ps.length<=8):BE s.ps.length (Ad s) (toN F)=false:=by
 rw[<-BO];exact SI (BW a) hn
theorem LK(s:SR)(Ap Ac Av Af:Option Addr)(cp cc cv cf:Nat)(F:List Int)(w:World)(hE:Env w)(hs:StIn w s Ap Ac Av)(hn:s.ps.length<=8)(d:s.cap.length<=300)(hF:InInt w Af F)(a:F.length<=140737488355328):
 Calls prog 13 #[.agg #[.slice Ap s.ps.length cp,.slice Ac s.cap.length cc,.slice Av s.vot.length cv],.slice Af F.length cf] w fun e w' =>
  (if Am s=true/\Be s.ps.length F=true then ∃b,e=.returned (.tuple #[.slice (some ⟨b,0,none⟩) s.ps.length s.ps.length,.int .i64 0])/\w.heap.size<=b/\RowB w' b s.ps.length fun p=>rq (ev s F p)
   else e=.returned (.tuple #[.slice none 0 0,.int .i64 1]))/\Below w.heap.size w w' :=
 (U5 s Ap Ac Av Af cp cc cv cf F w hE hs d hF a).mono fun e w' h=>⟨by
   by_cases hgd:Am s=true/\Be s.ps.length F=true
   .rw[zE hgd];have h1:=h.1;rw[zE hgd,zC (by rw[Et F hgd.1 hn];decide)]at h1;exact h1
   rw[zC hgd];have h1:=h.1;rw[zC hgd]at h1;exact h1,h.2⟩
def WE:List ByteArray:=[⟨#[97]⟩,⟨#[98]⟩,⟨#[99]⟩,⟨#[112]⟩]
def sH(l:List Lk):SR:=⟨WE,l,[]⟩
theorem VE{W:World}{b:Nat}{l:List ByteArray}(h:Bk W b 9 (l.map .string)):InStr W (some ⟨b,0,none⟩) l:=fun _=>⟨b,0,rfl,h.lt,fun j hj=>by
 rw[zm];exact h.cell (by simp[hj])⟩
theorem VF{W:World}{b:Nat}{l:List Int}(h:Bk W b 3 (l.map (.int .i64))):InInt W (some ⟨b,0,none⟩) l:=fun _=>⟨b,0,rfl,h.lt,fun j hj=>by
 rw[zm];exact h.cell (by simp[hj])⟩
theorem VG{W:World}{b:Nat}{q0 q1 q2 q3:Rat}(h:Bk W b 34 [.bool (rq (q0)).1,.string (rq (q0)).2.1,.string (rq (q0)).2.2,.bool (rq (q1)).1,.string (rq (q1)).2.1,.string (rq (q1)).2.2,.bool (rq (q2)).1,.string (rq (q2)).2.1,.string (rq (q2)).2.2,.bool (rq (q3)).1,.string (rq (q3)).2.1,.string (rq (q3)).2.2]):InRow W (some ⟨b,0,none⟩) [rq q0,rq q1,rq q2,rq q3]:=fun _=>⟨b,0,rfl,h.lt,fun j hj=>by
 match j,hj with
 |0,_=>exact⟨h.c0,h.c1,h.c2⟩
 |1,_=>exact⟨h.c3,h.c4,h.c5⟩
 |2,_=>exact⟨h.c6,h.c7,h.cell (j:=8) rfl⟩
 |3,_=>exact⟨h.cell (j:=9) rfl,h.cell (j:=10) rfl,h.cell (j:=11) rfl⟩
 |j+4,hj=>exact absurd hj (by simp)⟩
theorem EF(l:List Lk)(Al:Option Addr)(cl:Nat)(a b c:Int)(w:World)(hE:Env w)(hl:InLk w Al l)(au:Am (sH l)=true)(ah:l.length<=30)
 (hz:∀x,x∈l->x.2.2.2.1.size<=140737488355328/\x.2.2.2.2.size<=140737488355328)(hi:∀x,x∈l->(-9223372036854775808<=x.1/\x.1<=9223372036854775807)/\(-9223372036854775808<=x.2.1/\x.2.1<=9223372036854775807))
 (ha:0<=a/\a<=12)(hb:0<=b/\b<=12)(hc:0<=c/\c<=12)(h0:ev (sH l) [3] 0=ofQ a 12)(h1:ev (sH l) [3] 1=ofQ b 12)(h2:ev (sH l) [3] 2=ofQ c 12)(h3:ev (sH l) [3] 3=ofQ 1 1):
 Calls prog 38 #[.slice Al l.length cl,.int .i64 a,.int .i64 b,.int .i64 c] w fun e w'=>e=.returned (.bool true)/\Below w.heap.size w w':=by
 have aa:Hid (Below w.heap.size w ((w.alloc (.cells #[.string ⟨#[97]⟩,.string ⟨#[98]⟩,.string ⟨#[99]⟩,.string ⟨#[112]⟩] 9)).alloc (.cells #[.int .i64 3] 3))):=(((zI _ w).alloc (zB _) _).alloc (by simp) _);have ay:Hid (Bk ((w.alloc (.cells #[.string ⟨#[97]⟩,.string ⟨#[98]⟩,.string ⟨#[99]⟩,.string ⟨#[112]⟩] 9)).alloc (.cells #[.int .i64 3] 3)) (w.heap.size) 9 [.string ⟨#[97]⟩,.string ⟨#[98]⟩,.string ⟨#[99]⟩,.string ⟨#[112]⟩]):=by have h:=Bk.new w 9 [.string ⟨#[97]⟩,.string ⟨#[98]⟩,.string ⟨#[99]⟩,.string ⟨#[112]⟩];have h:=h.alloc (.cells #[.int .i64 3] 3); exact h
 have ax:Hid (Bk ((w.alloc (.cells #[.string ⟨#[97]⟩,.string ⟨#[98]⟩,.string ⟨#[99]⟩,.string ⟨#[112]⟩] 9)).alloc (.cells #[.int .i64 3] 3)) (w.heap.size+1) 3 [.int .i64 3]):=by have h:=Bk.new (w.alloc (.cells #[.string ⟨#[97]⟩,.string ⟨#[98]⟩,.string ⟨#[99]⟩,.string ⟨#[112]⟩] 9)) 3 [.int .i64 3];simp only[zT]at h;exact h
 have kE:Hid (Calls prog 13 #[.agg #[.slice (some ⟨w.heap.size,0,none⟩) 4 4,.slice Al l.length cl,.slice none 0 0],.slice (some ⟨w.heap.size+1,0,none⟩) 1 1] ((w.alloc (.cells #[.string ⟨#[97]⟩,.string ⟨#[98]⟩,.string ⟨#[99]⟩,.string ⟨#[112]⟩] 9)).alloc (.cells #[.int .i64 3] 3)) fun e w'=>(∃b,e=.returned (.tuple #[.slice (some ⟨b,0,none⟩) 4 4,.int .i64 0])/\RowB w' b 4 fun p=>rq (ev (sH l) [3] p))/\Below (((w.alloc (.cells #[.string ⟨#[97]⟩,.string ⟨#[98]⟩,.string ⟨#[99]⟩,.string ⟨#[112]⟩] 9)).alloc (.cells #[.int .i64 3] 3))).heap.size ((w.alloc (.cells #[.string ⟨#[97]⟩,.string ⟨#[98]⟩,.string ⟨#[99]⟩,.string ⟨#[112]⟩] 9)).alloc (.cells #[.int .i64 3] 3)) w'):=by
  have h:=LK (sH l) (some ⟨w.heap.size,0,none⟩) Al none (some ⟨w.heap.size+1,0,none⟩) 4 cl 0 1 [3] ((w.alloc (.cells #[.string ⟨#[97]⟩,.string ⟨#[98]⟩,.string ⟨#[99]⟩,.string ⟨#[112]⟩] 9)).alloc (.cells #[.int .i64 3] 3)) (hE.below aa.o) ⟨VE ay.o,hl.below aa.o,(fun h=>absurd h (vi 0)),(show 4<=140737488355328 by decide),zV ah (by decide),(show 0<=140737488355328 by decide),(show ∀x,x∈WE->x.size<=140737488355328 by decide),hz,(fun x hx=>by cases hx),hi,(fun x hx=>by cases hx)⟩ (show 4<=8 by decide) (zV ah (by decide)) (VF ax.o) (by decide);refine h.mono fun e w' h=>⟨?_,h.2⟩;have h1:=h.1;rw[zE ⟨au,(show Be (4:Int) [3]=true by decide)⟩]at h1;obtain⟨b,e1,_,e2⟩:=h1;exact⟨b,e1,e2⟩
 have ka:Hid (∀W,Env W->Calls prog 37 #[.int .i64 a,.int .i64 12] W fun e w'=>e=.returned (.agg #[.bool (rq (ofQ a 12)).1,.string (rq (ofQ a 12)).2.1,.string (rq (ofQ a 12)).2.2])/\Below W.heap.size W w'):=fun W hW=>En a 12 W hW (by omega) (by omega) (by omega) (by omega) (by omega);have kb:Hid (∀W,Env W->Calls prog 37 #[.int .i64 b,.int .i64 12] W fun e w'=>e=.returned (.agg #[.bool (rq (ofQ b 12)).1,.string (rq (ofQ b 12)).2.1,.string (rq (ofQ b 12)).2.2])/\Below W.heap.size W w'):=fun W hW=>En b 12 W hW (by omega) (by omega) (by omega) (by omega) (by omega);have kc:Hid (∀W,Env W->Calls prog 37 #[.int .i64 c,.int .i64 12] W fun e w'=>e=.returned (.agg #[.bool (rq (ofQ c 12)).1,.string (rq (ofQ c 12)).2.1,.string (rq (ofQ c 12)).2.2])/\Below W.heap.size W w'):=fun W hW=>En c 12 W hW (by omega) (by omega) (by omega) (by omega) (by omega);have kd:Hid (∀W,Env W->Calls prog 37 #[.int .i64 1,.int .i64 1] W fun e w'=>e=.returned (.agg #[.bool (rq (ofQ 1 1)).1,.string (rq (ofQ 1 1)).2.1,.string (rq (ofQ 1 1)).2.2])/\Below W.heap.size W w'):=fun W hW=>En 1 1 W hW (by omega) (by omega) (by omega) (by omega) (by omega);have s:Hid (B5 4 (ev (sH l) [3])=[rq (ofQ a 12),rq (ofQ b 12),rq (ofQ c 12),rq (ofQ 1 1)]):=by rw[<-h0,<-h1,<-h2,<-h3];rfl
 clear h0 h1 h2 h3 au hz hi hl;replace hE:=zh hE;replace ha:=zh ha;replace hb:=zh hb;replace hc:=zh hc;obtain⟨qa,an⟩:∃q,q=ofQ a 12:=⟨_,rfl⟩;obtain⟨qb,ao⟩:∃q,q=ofQ b 12:=⟨_,rfl⟩;obtain⟨qc,aq⟩:∃q,q=ofQ c 12:=⟨_,rfl⟩;obtain⟨qd,ar⟩:∃q,q=ofQ 1 1:=⟨_,rfl⟩;rw[<-an]at ka s;rw[<-ao]at kb s;rw[<-aq]at kc s;rw[<-ar]at kd s;clear an ao aq ar;go_enter func38,ntmps38
 go_wp2_with fail
 refine kE.o.mono ?_;rintro e w4 ⟨⟨eb,rfl,hR⟩,am⟩;have ab:Hid (Below w.heap.size w w4):=aa.o.trans (am.mono aa.o.size);have ai:=zh hR;clear am hR kE
 go_wp2_with fail
 refine(ka.o _ (hE.o.below ab.o)).q fun w5 d=>?_;have ad:Hid (Below w.heap.size w w5):=ab.o.trans (d.mono ab.o.size);have aj:Hid (RowB w5 eb 4 fun p=>rq (ev (sH l) [3] p)):=ai.o.below d ai.o.lt;clear d ab ai ka
 go_wp2_with fail
 refine(kb.o _ (hE.o.below ad.o)).q fun w6 d=>?_;have ae:Hid (Below w.heap.size w w6):=ad.o.trans (d.mono ad.o.size);have ak:Hid (RowB w6 eb 4 fun p=>rq (ev (sH l) [3] p)):=aj.o.below d aj.o.lt;clear d ad aj kb
 go_wp2_with fail
 refine(kc.o _ (hE.o.below ae.o)).q fun w7 d=>?_;have af:Hid (Below w.heap.size w w7):=ae.o.trans (d.mono ae.o.size);have al:Hid (RowB w7 eb 4 fun p=>rq (ev (sH l) [3] p)):=ak.o.below d ak.o.lt;clear d ae ak kc
 go_wp2_with fail
 refine(kd.o _ (hE.o.below af.o)).q fun w8 d=>?_;have ag:Hid (Below w.heap.size w w8):=af.o.trans (d.mono af.o.size);have aw:Hid (RowB w8 eb 4 fun p=>rq (ev (sH l) [3] p)):=al.o.below d al.o.lt;clear d af al kd
 have kS:Hid (Calls prog 15 #[.slice (some ⟨eb,0,none⟩) 4 4,.slice (some ⟨w8.heap.size,0,none⟩) 4 4] (w8.alloc (.cells #[.bool (rq (qa)).1,.string (rq (qa)).2.1,.string (rq (qa)).2.2,.bool (rq (qb)).1,.string (rq (qb)).2.1,.string (rq (qb)).2.2,.bool (rq (qc)).1,.string (rq (qc)).2.1,.string (rq (qc)).2.2,.bool (rq (qd)).1,.string (rq (qd)).2.1,.string (rq (qd)).2.2] 34)) fun e w'=>e=.returned (.bool true)/\Below ((w8.alloc (.cells #[.bool (rq (qa)).1,.string (rq (qa)).2.1,.string (rq (qa)).2.2,.bool (rq (qb)).1,.string (rq (qb)).2.1,.string (rq (qb)).2.2,.bool (rq (qc)).1,.string (rq (qc)).2.1,.string (rq (qc)).2.2,.bool (rq (qd)).1,.string (rq (qd)).2.1,.string (rq (qd)).2.2] 34))).heap.size (w8.alloc (.cells #[.bool (rq (qa)).1,.string (rq (qa)).2.1,.string (rq (qa)).2.2,.bool (rq (qb)).1,.string (rq (qb)).2.1,.string (rq (qb)).2.2,.bool (rq (qc)).1,.string (rq (qc)).2.1,.string (rq (qc)).2.2,.bool (rq (qd)).1,.string (rq (qd)).2.1,.string (rq (qd)).2.2] 34)) w'):=by
  have h:=FS (some ⟨eb,0,none⟩) (some ⟨w8.heap.size,0,none⟩) 4 4 (B5 4 (ev (sH l) [3])) [rq qa,rq qb,rq qc,rq qd] (w8.alloc (.cells #[.bool (rq (qa)).1,.string (rq (qa)).2.1,.string (rq (qa)).2.2,.bool (rq (qb)).1,.string (rq (qb)).2.1,.string (rq (qb)).2.2,.bool (rq (qc)).1,.string (rq (qc)).2.1,.string (rq (qc)).2.2,.bool (rq (qd)).1,.string (rq (qd)).2.1,.string (rq (qd)).2.2] 34)) (DG (aw.o.alloc _)) (VG (Bk.new _ _ _)) (by rw[Aq];omega);rw[s.o,zH (rfl:[rq qa,rq qb,rq qc,rq qd]=_)]at h;exact h
 go_wp2_with fail
 refine kS.o.q fun w9 d=>?_;have av:Hid (Below w.heap.size w w9):=(ag.o.alloc ag.o.size _).trans (d.mono (ag.o.alloc ag.o.size (.cells #[.bool (rq (qa)).1,.string (rq (qa)).2.1,.string (rq (qa)).2.2,.bool (rq (qb)).1,.string (rq (qb)).2.1,.string (rq (qb)).2.2,.bool (rq (qc)).1,.string (rq (qc)).2.1,.string (rq (qc)).2.2,.bool (rq (qd)).1,.string (rq (qd)).2.1,.string (rq (qd)).2.2] 34)).size);clear d kS;go_wp2;go_ret;exact⟨rfl,av.o⟩
theorem U6:qv (ofQ 1 2)=.agg #[.bool false,.string ⟨#[49]⟩,.string ⟨#[50]⟩]:=by kernel_rfl
theorem VH:qv (ofQ 1 1)=.agg #[.bool false,.string ⟨#[49]⟩,.string ⟨#[49]⟩]:=by kernel_rfl
def lH1:List Lk:=[(0,3,false,⟨#[49]⟩,⟨#[50]⟩),(1,0,false,⟨#[49]⟩,⟨#[50]⟩)]
theorem Fz:Am (sH lH1)=true:=by decide +kernel
theorem Pb:Ai lH1=hL1:=by decide +kernel
theorem VI{W:World}{b:Nat}(h:Bk W b 55 [.int .i64 0,.int .i64 3,.bool false,.string ⟨#[49]⟩,.string ⟨#[50]⟩,.int .i64 1,.int .i64 0,.bool false,.string ⟨#[49]⟩,.string ⟨#[50]⟩]):InLk W (some ⟨b,0,none⟩) lH1:=fun _=>⟨b,0,rfl,h.lt,fun j hj=>by
 match j,hj with
 |0,_=>exact⟨h.c0,h.c1,h.c2,h.c3,h.c4⟩
 |1,_=>exact⟨h.c5,h.c6,h.c7,h.cell (j:=8) rfl,h.cell (j:=9) rfl⟩
 |j+2,hj=>exact absurd hj (by simp[lH1])⟩
theorem Kv:ev (sH lH1) [3] 0=ofQ 6 12/\ev (sH lH1) [3] 1=ofQ 3 12/\ev (sH lH1) [3] 2=ofQ 0 12/\ev (sH lH1) [3] 3=ofQ 1 1:=by
 have h:=Ku (F:=[3]) Fz (Et _ Fz (by decide));have hL:=BW Fz;have e1:(sH lH1).ps.length=4:=rfl;have e2:toN [3]=[3]:=rfl;have e3:(sH lH1).cap=lH1:=rfl;rw[e1,e2,e3,Pb]at h;rw[e1,e3,Pb]at hL;obtain⟨a0,a1,a2,a3⟩:=Ln h;rw[a0,a1,a2,a3];exact⟨by decide +kernel,by decide +kernel,by decide +kernel,by decide +kernel⟩
def lH2:List Lk:=[(0,1,false,⟨#[49]⟩,⟨#[50]⟩),(0,3,false,⟨#[49]⟩,⟨#[50]⟩),(1,0,false,⟨#[49]⟩,⟨#[50]⟩)]
theorem F0:Am (sH lH2)=true:=by decide +kernel
theorem Pc:Ai lH2=hL2:=by decide +kernel
theorem VJ{W:World}{b:Nat}(h:Bk W b 55 [.int .i64 0,.int .i64 1,.bool false,.string ⟨#[49]⟩,.string ⟨#[50]⟩,.int .i64 0,.int .i64 3,.bool false,.string ⟨#[49]⟩,.string ⟨#[50]⟩,.int .i64 1,.int .i64 0,.bool false,.string ⟨#[49]⟩,.string ⟨#[50]⟩]):InLk W (some ⟨b,0,none⟩) lH2:=fun _=>⟨b,0,rfl,h.lt,fun j hj=>by
 match j,hj with
 |0,_=>exact⟨h.c0,h.c1,h.c2,h.c3,h.c4⟩
 |1,_=>exact⟨h.c5,h.c6,h.c7,h.cell (j:=8) rfl,h.cell (j:=9) rfl⟩
 |2,_=>exact⟨h.cell (j:=10) rfl,h.cell (j:=11) rfl,h.cell (j:=12) rfl,h.cell (j:=13) rfl,h.cell (j:=14) rfl⟩
 |j+3,hj=>exact absurd hj (by simp[lH2])⟩
theorem Kw:ev (sH lH2) [3] 0=ofQ 8 12/\ev (sH lH2) [3] 1=ofQ 4 12/\ev (sH lH2) [3] 2=ofQ 0 12/\ev (sH lH2) [3] 3=ofQ 1 1:=by
 have h:=Ku (F:=[3]) F0 (Et _ F0 (by decide));have hL:=BW F0;have e1:(sH lH2).ps.length=4:=rfl;have e2:toN [3]=[3]:=rfl;have e3:(sH lH2).cap=lH2:=rfl;rw[e1,e2,e3,Pc]at h;rw[e1,e3,Pc]at hL;obtain⟨a0,a1,a2,a3⟩:=UY h;rw[a0,a1,a2,a3];exact⟨by decide +kernel,by decide +kernel,by decide +kernel,by decide +kernel⟩
def lH3:List Lk:=[(0,1,false,⟨#[49]⟩,⟨#[49]⟩),(1,0,false,⟨#[49]⟩,⟨#[49]⟩)]
theorem F1:Am (sH lH3)=true:=by decide +kernel
theorem Pd:Ai lH3=hL3:=by decide +kernel
theorem VK{W:World}{b:Nat}(h:Bk W b 55 [.int .i64 0,.int .i64 1,.bool false,.string ⟨#[49]⟩,.string ⟨#[49]⟩,.int .i64 1,.int .i64 0,.bool false,.string ⟨#[49]⟩,.string ⟨#[49]⟩]):InLk W (some ⟨b,0,none⟩) lH3:=fun _=>⟨b,0,rfl,h.lt,fun j hj=>by
 match j,hj with
 |0,_=>exact⟨h.c0,h.c1,h.c2,h.c3,h.c4⟩
 |1,_=>exact⟨h.c5,h.c6,h.c7,h.cell (j:=8) rfl,h.cell (j:=9) rfl⟩
 |j+2,hj=>exact absurd hj (by simp[lH3])⟩
theorem Kx:ev (sH lH3) [3] 0=ofQ 0 12/\ev (sH lH3) [3] 1=ofQ 0 12/\ev (sH lH3) [3] 2=ofQ 0 12/\ev (sH lH3) [3] 3=ofQ 1 1:=by
 have h:=Ku (F:=[3]) F1 (Et _ F1 (by decide));have hL:=BW F1;have e1:(sH lH3).ps.length=4:=rfl;have e2:toN [3]=[3]:=rfl;have e3:(sH lH3).cap=lH3:=rfl;rw[e1,e2,e3,Pd]at h;rw[e1,e3,Pd]at hL;obtain⟨a0,a1,a2,a3⟩:=UZ hL h;rw[a0,a1,a2,a3];exact⟨by decide +kernel,by decide +kernel,by decide +kernel,by decide +kernel⟩
def lH4:List Lk:=[(0,3,false,⟨#[49]⟩,⟨#[49]⟩),(2,0,false,⟨#[49]⟩,⟨#[50]⟩),(2,1,false,⟨#[49]⟩,⟨#[50]⟩)]
theorem F3:Am (sH lH4)=true:=by decide +kernel
theorem Pe:Ai lH4=hL4:=by decide +kernel
theorem VL{W:World}{b:Nat}(h:Bk W b 55 [.int .i64 0,.int .i64 3,.bool false,.string ⟨#[49]⟩,.string ⟨#[49]⟩,.int .i64 2,.int .i64 0,.bool false,.string ⟨#[49]⟩,.string ⟨#[50]⟩,.int .i64 2,.int .i64 1,.bool false,.string ⟨#[49]⟩,.string ⟨#[50]⟩]):InLk W (some ⟨b,0,none⟩) lH4:=fun _=>⟨b,0,rfl,h.lt,fun j hj=>by
 match j,hj with
 |0,_=>exact⟨h.c0,h.c1,h.c2,h.c3,h.c4⟩
 |1,_=>exact⟨h.c5,h.c6,h.c7,h.cell (j:=8) rfl,h.cell (j:=9) rfl⟩
 |2,_=>exact⟨h.cell (j:=10) rfl,h.cell (j:=11) rfl,h.cell (j:=12) rfl,h.cell (j:=13) rfl,h.cell (j:=14) rfl⟩
 |j+3,hj=>exact absurd hj (by simp[lH4])⟩
theorem Ky:ev (sH lH4) [3] 0=ofQ 12 12/\ev (sH lH4) [3] 1=ofQ 0 12/\ev (sH lH4) [3] 2=ofQ 6 12/\ev (sH lH4) [3] 3=ofQ 1 1:=by
 have h:=Ku (F:=[3]) F3 (Et _ F3 (by decide));have hL:=BW F3;have e1:(sH lH4).ps.length=4:=rfl;have e2:toN [3]=[3]:=rfl;have e3:(sH lH4).cap=lH4:=rfl;rw[e1,e2,e3,Pe]at h;rw[e1,e3,Pe]at hL;obtain⟨a0,a1,a2,a3⟩:=Va h;rw[a0,a1,a2,a3];exact⟨by decide +kernel,by decide +kernel,by decide +kernel,by decide +kernel⟩
theorem NJ(w:World)(hE:Env w):Calls prog 11 #[] w fun e w'=>e=.returned (.bool true)/\Below w.heap.size w w':=by
 have kh:Hid (∀W,Env W->Calls prog 37 #[.int .i64 1,.int .i64 2] W fun e w'=>e=.returned (.agg #[.bool false,.string ⟨#[49]⟩,.string ⟨#[50]⟩])/\Below W.heap.size W w'):=fun W hW=>by have h:=En 1 2 W hW (by omega) (by omega) (by omega) (by omega) (by omega);rw[U6]at h;exact h
 have ka:Hid (∀W,Env W->Calls prog 37 #[.int .i64 1,.int .i64 1] W fun e w'=>e=.returned (.agg #[.bool false,.string ⟨#[49]⟩,.string ⟨#[49]⟩])/\Below W.heap.size W w'):=fun W hW=>by have h:=En 1 1 W hW (by omega) (by omega) (by omega) (by omega) (by omega);rw[VH]at h;exact h
 replace hE:=zh hE;have an:Hid (Below w.heap.size w w):=zI _ _;go_enter func11,ntmps11;have kx:=zh (kh.o _ (hE.o.below an.o))
 go_wp2_with fail
 refine kx.o.q fun w2 hb=>?_;have ao:=an.t hb;clear hb an kx;have kx:=zh (ka.o _ (hE.o.below ao.o))
 go_wp2_with fail
 refine kx.o.q fun w3 hb=>?_;have aw:=ao.t hb;clear hb ao kx;clear kh ka;have ax:Hid (Below w.heap.size w (w3.alloc (.cells #[.bool false,.string ⟨#[49]⟩,.string ⟨#[50]⟩] 34))):=aw.o.alloc aw.o.size _;clear aw;have aE:Hid (Bk (w3.alloc (.cells #[.bool false,.string ⟨#[49]⟩,.string ⟨#[50]⟩] 34)) w3.heap.size 34 [.bool false,.string ⟨#[49]⟩,.string ⟨#[50]⟩]):=Bk.new _ _ _;have ak:Hid (Below w.heap.size w ((w3.alloc (.cells #[.bool false,.string ⟨#[49]⟩,.string ⟨#[50]⟩] 34)).alloc (.cells #[.bool false,.string ⟨#[49]⟩,.string ⟨#[49]⟩] 34))):=ax.o.alloc ax.o.size _;have af:=zh (aE.o.alloc (.cells #[.bool false,.string ⟨#[49]⟩,.string ⟨#[49]⟩] 34));clear ax aE;have aB:Hid (Bk ((w3.alloc (.cells #[.bool false,.string ⟨#[49]⟩,.string ⟨#[50]⟩] 34)).alloc (.cells #[.bool false,.string ⟨#[49]⟩,.string ⟨#[49]⟩] 34)) (w3.alloc (.cells #[.bool false,.string ⟨#[49]⟩,.string ⟨#[50]⟩] 34)).heap.size 34 [.bool false,.string ⟨#[49]⟩,.string ⟨#[49]⟩]):=Bk.new _ _ _;have a:Hid (Bk ((w3.alloc (.cells #[.bool false,.string ⟨#[49]⟩,.string ⟨#[50]⟩] 34)).alloc (.cells #[.bool false,.string ⟨#[49]⟩,.string ⟨#[49]⟩] 34)) (w3.heap.size+1) 34 [.bool false,.string ⟨#[49]⟩,.string ⟨#[49]⟩]):=by have h:=aB.o;simp only[zT]at h;exact h
 clear aB;have x0:=af.o.c0;have x1:=af.o.c1;have x2:=af.o.c2;have x9:=af.o.lt;have y0:=a.o.c0;have y1:=a.o.c1;have y2:=a.o.c2;have y9:=a.o.lt;have d:Hid (Below w.heap.size w (((w3.alloc (.cells #[.bool false,.string ⟨#[49]⟩,.string ⟨#[50]⟩] 34)).alloc (.cells #[.bool false,.string ⟨#[49]⟩,.string ⟨#[49]⟩] 34)).alloc (.cells #[.int .i64 0,.int .i64 3,.bool false,.string ⟨#[49]⟩,.string ⟨#[50]⟩,.int .i64 1,.int .i64 0,.bool false,.string ⟨#[49]⟩,.string ⟨#[50]⟩] 55))):=ak.o.alloc ak.o.size _;have kx:Hid (Calls prog 38 #[.slice (some ⟨w3.heap.size+1+1,0,none⟩) 2 2,.int .i64 6,.int .i64 3,.int .i64 0] (((w3.alloc (.cells #[.bool false,.string ⟨#[49]⟩,.string ⟨#[50]⟩] 34)).alloc (.cells #[.bool false,.string ⟨#[49]⟩,.string ⟨#[49]⟩] 34)).alloc (.cells #[.int .i64 0,.int .i64 3,.bool false,.string ⟨#[49]⟩,.string ⟨#[50]⟩,.int .i64 1,.int .i64 0,.bool false,.string ⟨#[49]⟩,.string ⟨#[50]⟩] 55)) fun e w'=>e=.returned (.bool true)/\Below ((((w3.alloc (.cells #[.bool false,.string ⟨#[49]⟩,.string ⟨#[50]⟩] 34)).alloc (.cells #[.bool false,.string ⟨#[49]⟩,.string ⟨#[49]⟩] 34)).alloc (.cells #[.int .i64 0,.int .i64 3,.bool false,.string ⟨#[49]⟩,.string ⟨#[50]⟩,.int .i64 1,.int .i64 0,.bool false,.string ⟨#[49]⟩,.string ⟨#[50]⟩] 55))).heap.size (((w3.alloc (.cells #[.bool false,.string ⟨#[49]⟩,.string ⟨#[50]⟩] 34)).alloc (.cells #[.bool false,.string ⟨#[49]⟩,.string ⟨#[49]⟩] 34)).alloc (.cells #[.int .i64 0,.int .i64 3,.bool false,.string ⟨#[49]⟩,.string ⟨#[50]⟩,.int .i64 1,.int .i64 0,.bool false,.string ⟨#[49]⟩,.string ⟨#[50]⟩] 55)) w'):=EF lH1 (some ⟨w3.heap.size+1+1,0,none⟩) 2 6 3 0 (((w3.alloc (.cells #[.bool false,.string ⟨#[49]⟩,.string ⟨#[50]⟩] 34)).alloc (.cells #[.bool false,.string ⟨#[49]⟩,.string ⟨#[49]⟩] 34)).alloc (.cells #[.int .i64 0,.int .i64 3,.bool false,.string ⟨#[49]⟩,.string ⟨#[50]⟩,.int .i64 1,.int .i64 0,.bool false,.string ⟨#[49]⟩,.string ⟨#[50]⟩] 55)) (hE.o.below d.o) (VI (by have h:=Bk.new ((w3.alloc (.cells #[.bool false,.string ⟨#[49]⟩,.string ⟨#[50]⟩] 34)).alloc (.cells #[.bool false,.string ⟨#[49]⟩,.string ⟨#[49]⟩] 34)) 55 [.int .i64 0,.int .i64 3,.bool false,.string ⟨#[49]⟩,.string ⟨#[50]⟩,.int .i64 1,.int .i64 0,.bool false,.string ⟨#[49]⟩,.string ⟨#[50]⟩];(try simp only[zT]at h);exact h)) Fz (by decide) (by decide) (by decide) (by decide) (by decide) (by decide) Kv.1 Kv.2.1 Kv.2.2.1 Kv.2.2.2;have ay:Hid (Below w.heap.size w (((w3.alloc (.cells #[.bool false,.string ⟨#[49]⟩,.string ⟨#[50]⟩] 34)).alloc (.cells #[.bool false,.string ⟨#[49]⟩,.string ⟨#[49]⟩] 34)).alloc (.cells #[.int .i64 0,.int .i64 3,.bool false,.string ⟨#[49]⟩,.string ⟨#[50]⟩,.int .i64 1,.int .i64 0,.bool false,.string ⟨#[49]⟩,.string ⟨#[50]⟩] 55))):=ak.o.alloc ak.o.size _;have aF:=zh (af.o.alloc (.cells #[.int .i64 0,.int .i64 3,.bool false,.string ⟨#[49]⟩,.string ⟨#[50]⟩,.int .i64 1,.int .i64 0,.bool false,.string ⟨#[49]⟩,.string ⟨#[50]⟩] 55));have aC:=zh (a.o.alloc (.cells #[.int .i64 0,.int .i64 3,.bool false,.string ⟨#[49]⟩,.string ⟨#[50]⟩,.int .i64 1,.int .i64 0,.bool false,.string ⟨#[49]⟩,.string ⟨#[50]⟩] 55));clear ak af a
 go_wp2_with fail
 refine kx.o.q fun w7 hb=>?_;have al:=ay.t hb;have ag:=zh (aF.o.below hb);have ae:=zh (aC.o.below hb);clear hb ay aF aC kx x0 x1 x2 x9 y0 y1 y2 y9 d;have x0:=ag.o.c0;have x1:=ag.o.c1;have x2:=ag.o.c2;have x9:=ag.o.lt;have y0:=ae.o.c0;have y1:=ae.o.c1;have y2:=ae.o.c2;have y9:=ae.o.lt;have d:Hid (Below w.heap.size w (w7.alloc (.cells #[.int .i64 0,.int .i64 1,.bool false,.string ⟨#[49]⟩,.string ⟨#[50]⟩,.int .i64 0,.int .i64 3,.bool false,.string ⟨#[49]⟩,.string ⟨#[50]⟩,.int .i64 1,.int .i64 0,.bool false,.string ⟨#[49]⟩,.string ⟨#[50]⟩] 55))):=al.o.alloc al.o.size _;have kx:Hid (Calls prog 38 #[.slice (some ⟨w7.heap.size,0,none⟩) 3 3,.int .i64 8,.int .i64 4,.int .i64 0] (w7.alloc (.cells #[.int .i64 0,.int .i64 1,.bool false,.string ⟨#[49]⟩,.string ⟨#[50]⟩,.int .i64 0,.int .i64 3,.bool false,.string ⟨#[49]⟩,.string ⟨#[50]⟩,.int .i64 1,.int .i64 0,.bool false,.string ⟨#[49]⟩,.string ⟨#[50]⟩] 55)) fun e w'=>e=.returned (.bool true)/\Below ((w7.alloc (.cells #[.int .i64 0,.int .i64 1,.bool false,.string ⟨#[49]⟩,.string ⟨#[50]⟩,.int .i64 0,.int .i64 3,.bool false,.string ⟨#[49]⟩,.string ⟨#[50]⟩,.int .i64 1,.int .i64 0,.bool false,.string ⟨#[49]⟩,.string ⟨#[50]⟩] 55))).heap.size (w7.alloc (.cells #[.int .i64 0,.int .i64 1,.bool false,.string ⟨#[49]⟩,.string ⟨#[50]⟩,.int .i64 0,.int .i64 3,.bool false,.string ⟨#[49]⟩,.string ⟨#[50]⟩,.int .i64 1,.int .i64 0,.bool false,.string ⟨#[49]⟩,.string ⟨#[50]⟩] 55)) w'):=EF lH2 (some ⟨w7.heap.size,0,none⟩) 3 8 4 0 (w7.alloc (.cells #[.int .i64 0,.int .i64 1,.bool false,.string ⟨#[49]⟩,.string ⟨#[50]⟩,.int .i64 0,.int .i64 3,.bool false,.string ⟨#[49]⟩,.string ⟨#[50]⟩,.int .i64 1,.int .i64 0,.bool false,.string ⟨#[49]⟩,.string ⟨#[50]⟩] 55)) (hE.o.below d.o) (VJ (by have h:=Bk.new w7 55 [.int .i64 0,.int .i64 1,.bool false,.string ⟨#[49]⟩,.string ⟨#[50]⟩,.int .i64 0,.int .i64 3,.bool false,.string ⟨#[49]⟩,.string ⟨#[50]⟩,.int .i64 1,.int .i64 0,.bool false,.string ⟨#[49]⟩,.string ⟨#[50]⟩];(try simp only[zT]at h);exact h)) F0 (by decide) (by decide) (by decide) (by decide) (by decide) (by decide) Kw.1 Kw.2.1 Kw.2.2.1 Kw.2.2.2;have az:Hid (Below w.heap.size w (w7.alloc (.cells #[.int .i64 0,.int .i64 1,.bool false,.string ⟨#[49]⟩,.string ⟨#[50]⟩,.int .i64 0,.int .i64 3,.bool false,.string ⟨#[49]⟩,.string ⟨#[50]⟩,.int .i64 1,.int .i64 0,.bool false,.string ⟨#[49]⟩,.string ⟨#[50]⟩] 55))):=al.o.alloc al.o.size _;have aG:=zh (ag.o.alloc (.cells #[.int .i64 0,.int .i64 1,.bool false,.string ⟨#[49]⟩,.string ⟨#[50]⟩,.int .i64 0,.int .i64 3,.bool false,.string ⟨#[49]⟩,.string ⟨#[50]⟩,.int .i64 1,.int .i64 0,.bool false,.string ⟨#[49]⟩,.string ⟨#[50]⟩] 55));have aD:=zh (ae.o.alloc (.cells #[.int .i64 0,.int .i64 1,.bool false,.string ⟨#[49]⟩,.string ⟨#[50]⟩,.int .i64 0,.int .i64 3,.bool false,.string ⟨#[49]⟩,.string ⟨#[50]⟩,.int .i64 1,.int .i64 0,.bool false,.string ⟨#[49]⟩,.string ⟨#[50]⟩] 55));clear al ag ae
 go_wp2_with fail
 refine kx.o.q fun w9 hb=>?_;have am:=az.t hb;have ah:=zh (aG.o.below hb);have a:=zh (aD.o.below hb);clear hb az aG aD kx x0 x1 x2 x9 y0 y1 y2 y9 d;have x0:=ah.o.c0;have x1:=ah.o.c1;have x2:=ah.o.c2;have x9:=ah.o.lt;have y0:=a.o.c0;have y1:=a.o.c1;have y2:=a.o.c2;have y9:=a.o.lt;have d:Hid (Below w.heap.size w (w9.alloc (.cells #[.int .i64 0,.int .i64 1,.bool false,.string ⟨#[49]⟩,.string ⟨#[49]⟩,.int .i64 1,.int .i64 0,.bool false,.string ⟨#[49]⟩,.string ⟨#[49]⟩] 55))):=am.o.alloc am.o.size _;have kx:Hid (Calls prog 38 #[.slice (some ⟨w9.heap.size,0,none⟩) 2 2,.int .i64 0,.int .i64 0,.int .i64 0] (w9.alloc (.cells #[.int .i64 0,.int .i64 1,.bool false,.string ⟨#[49]⟩,.string ⟨#[49]⟩,.int .i64 1,.int .i64 0,.bool false,.string ⟨#[49]⟩,.string ⟨#[49]⟩] 55)) fun e w'=>e=.returned (.bool true)/\Below ((w9.alloc (.cells #[.int .i64 0,.int .i64 1,.bool false,.string ⟨#[49]⟩,.string ⟨#[49]⟩,.int .i64 1,.int .i64 0,.bool false,.string ⟨#[49]⟩,.string ⟨#[49]⟩] 55))).heap.size (w9.alloc (.cells #[.int .i64 0,.int .i64 1,.bool false,.string ⟨#[49]⟩,.string ⟨#[49]⟩,.int .i64 1,.int .i64 0,.bool false,.string ⟨#[49]⟩,.string ⟨#[49]⟩] 55)) w'):=EF lH3 (some ⟨w9.heap.size,0,none⟩) 2 0 0 0 (w9.alloc (.cells #[.int .i64 0,.int .i64 1,.bool false,.string ⟨#[49]⟩,.string ⟨#[49]⟩,.int .i64 1,.int .i64 0,.bool false,.string ⟨#[49]⟩,.string ⟨#[49]⟩] 55)) (hE.o.below d.o) (VK (by have h:=Bk.new w9 55 [.int .i64 0,.int .i64 1,.bool false,.string ⟨#[49]⟩,.string ⟨#[49]⟩,.int .i64 1,.int .i64 0,.bool false,.string ⟨#[49]⟩,.string ⟨#[49]⟩];(try simp only[zT]at h);exact h)) F1 (by decide) (by decide) (by decide) (by decide) (by decide) (by decide) Kx.1 Kx.2.1 Kx.2.2.1 Kx.2.2.2;have ai:Hid (Below w.heap.size w (w9.alloc (.cells #[.int .i64 0,.int .i64 1,.bool false,.string ⟨#[49]⟩,.string ⟨#[49]⟩,.int .i64 1,.int .i64 0,.bool false,.string ⟨#[49]⟩,.string ⟨#[49]⟩] 55))):=am.o.alloc am.o.size _;have au:=zh (ah.o.alloc (.cells #[.int .i64 0,.int .i64 1,.bool false,.string ⟨#[49]⟩,.string ⟨#[49]⟩,.int .i64 1,.int .i64 0,.bool false,.string ⟨#[49]⟩,.string ⟨#[49]⟩] 55));have aq:=zh (a.o.alloc (.cells #[.int .i64 0,.int .i64 1,.bool false,.string ⟨#[49]⟩,.string ⟨#[49]⟩,.int .i64 1,.int .i64 0,.bool false,.string ⟨#[49]⟩,.string ⟨#[49]⟩] 55));clear am ah a
 go_wp2_with fail
 refine kx.o.q fun ab hb=>?_;have ad:=ai.t hb;have aa:=zh (au.o.below hb);have s:=zh (aq.o.below hb);clear hb ai au aq kx x0 x1 x2 x9 y0 y1 y2 y9 d;have x0:=aa.o.c0;have x1:=aa.o.c1;have x2:=aa.o.c2;have x9:=aa.o.lt;have y0:=s.o.c0;have y1:=s.o.c1;have y2:=s.o.c2;have y9:=s.o.lt;have d:Hid (Below w.heap.size w (ab.alloc (.cells #[.int .i64 0,.int .i64 3,.bool false,.string ⟨#[49]⟩,.string ⟨#[49]⟩,.int .i64 2,.int .i64 0,.bool false,.string ⟨#[49]⟩,.string ⟨#[50]⟩,.int .i64 2,.int .i64 1,.bool false,.string ⟨#[49]⟩,.string ⟨#[50]⟩] 55))):=ad.o.alloc ad.o.size _;have kx:Hid (Calls prog 38 #[.slice (some ⟨ab.heap.size,0,none⟩) 3 3,.int .i64 12,.int .i64 0,.int .i64 6] (ab.alloc (.cells #[.int .i64 0,.int .i64 3,.bool false,.string ⟨#[49]⟩,.string ⟨#[49]⟩,.int .i64 2,.int .i64 0,.bool false,.string ⟨#[49]⟩,.string ⟨#[50]⟩,.int .i64 2,.int .i64 1,.bool false,.string ⟨#[49]⟩,.string ⟨#[50]⟩] 55)) fun e w'=>e=.returned (.bool true)/\Below ((ab.alloc (.cells #[.int .i64 0,.int .i64 3,.bool false,.string ⟨#[49]⟩,.string ⟨#[49]⟩,.int .i64 2,.int .i64 0,.bool false,.string ⟨#[49]⟩,.string ⟨#[50]⟩,.int .i64 2,.int .i64 1,.bool false,.string ⟨#[49]⟩,.string ⟨#[50]⟩] 55))).heap.size (ab.alloc (.cells #[.int .i64 0,.int .i64 3,.bool false,.string ⟨#[49]⟩,.string ⟨#[49]⟩,.int .i64 2,.int .i64 0,.bool false,.string ⟨#[49]⟩,.string ⟨#[50]⟩,.int .i64 2,.int .i64 1,.bool false,.string ⟨#[49]⟩,.string ⟨#[50]⟩] 55)) w'):=EF lH4 (some ⟨ab.heap.size,0,none⟩) 3 12 0 6 (ab.alloc (.cells #[.int .i64 0,.int .i64 3,.bool false,.string ⟨#[49]⟩,.string ⟨#[49]⟩,.int .i64 2,.int .i64 0,.bool false,.string ⟨#[49]⟩,.string ⟨#[50]⟩,.int .i64 2,.int .i64 1,.bool false,.string ⟨#[49]⟩,.string ⟨#[50]⟩] 55)) (hE.o.below d.o) (VL (by have h:=Bk.new ab 55 [.int .i64 0,.int .i64 3,.bool false,.string ⟨#[49]⟩,.string ⟨#[49]⟩,.int .i64 2,.int .i64 0,.bool false,.string ⟨#[49]⟩,.string ⟨#[50]⟩,.int .i64 2,.int .i64 1,.bool false,.string ⟨#[49]⟩,.string ⟨#[50]⟩];(try simp only[zT]at h);exact h)) F3 (by decide) (by decide) (by decide) (by decide) (by decide) (by decide) Ky.1 Ky.2.1 Ky.2.2.1 Ky.2.2.2;have aj:Hid (Below w.heap.size w (ab.alloc (.cells #[.int .i64 0,.int .i64 3,.bool false,.string ⟨#[49]⟩,.string ⟨#[49]⟩,.int .i64 2,.int .i64 0,.bool false,.string ⟨#[49]⟩,.string ⟨#[50]⟩,.int .i64 2,.int .i64 1,.bool false,.string ⟨#[49]⟩,.string ⟨#[50]⟩] 55))):=ad.o.alloc ad.o.size _;have av:=zh (aa.o.alloc (.cells #[.int .i64 0,.int .i64 3,.bool false,.string ⟨#[49]⟩,.string ⟨#[49]⟩,.int .i64 2,.int .i64 0,.bool false,.string ⟨#[49]⟩,.string ⟨#[50]⟩,.int .i64 2,.int .i64 1,.bool false,.string ⟨#[49]⟩,.string ⟨#[50]⟩] 55));have ar:=zh (s.o.alloc (.cells #[.int .i64 0,.int .i64 3,.bool false,.string ⟨#[49]⟩,.string ⟨#[49]⟩,.int .i64 2,.int .i64 0,.bool false,.string ⟨#[49]⟩,.string ⟨#[50]⟩,.int .i64 2,.int .i64 1,.bool false,.string ⟨#[49]⟩,.string ⟨#[50]⟩] 55));clear ad aa s
 go_wp2_with fail
 refine kx.o.q fun aJ hb=>?_;have aA:=aj.t hb;have aI:=zh (av.o.below hb);have aH:=zh (ar.o.below hb);clear hb aj av ar kx x0 x1 x2 x9 y0 y1 y2 y9 d;go_wp2;go_ret;exact⟨rfl,aA.o⟩
def BoolPost(p:Bool->Prop)(w:World)(e:Ending)(w':World):Prop:=(∃r,e=.returned (.bool r)/\p r)/\Below w.heap.size w w'
theorem BoolPost.mkB{p:Bool->Prop}{w:World}{e:Ending}{w':World}{r:Bool}(h1:e=.returned (.bool r))(h2:p r)(h3:Below w.heap.size w w'):BoolPost p w e w':=⟨⟨r,h1,h2⟩,h3⟩
theorem NK(g:Bool)(n d:ByteArray)(b:Nat)(w:World)(hb:Bk w b 34 [.bool g,.string n,.string d]):
 Calls prog 82 #[.int .i64 30,.slice (some ⟨b,0,none⟩) 1 1] w (BoolPost (fun _=>True) w):=by
 have c1:=hb.c1;have c2:=hb.c2;have c9:=hb.lt;replace hb:=zh hb;go_enter func82,ntmps82;go_wp2
 go_loopw [5] (fun ix wr=>∃(i:Nat),i<=1/\ix=.int .i64 (i:Int)/\wr=w) (fun ix _=>1-(intOf ix).toNat)
 case atStart=>exact⟨0,by omega,rfl,rfl⟩
 case round=>
  obtain⟨i,hi,rfl,rfl⟩:=hrel
  by_cases hlt:i<1
  .obtain rfl:i=0:=by omega
   by_cases h1:(30:Int)<(n.size:Int)
   .have m1:decide ((30:Int)<(n.size:Int))=true:=zH h1;have m1n:decide (30<n.size)=true:=zH (by omega);replace h1:=zh h1;go_wp2;go_ret;exact BoolPost.mkB (r:=false) rfl trivial (zI _ _)
   have m1:decide ((30:Int)<(n.size:Int))=false:=zD h1;have m1n:decide (30<n.size)=false:=zD (by omega);replace h1:=zh h1
   by_cases h2:(30:Int)<(d.size:Int)
   .have m2:decide ((30:Int)<(d.size:Int))=true:=zH h2;have m2n:decide (30<d.size)=true:=zH (by omega);replace h2:=zh h2;go_wp2;go_ret;exact BoolPost.mkB (r:=false) rfl trivial (zI _ _)
   have m2:decide ((30:Int)<(d.size:Int))=false:=zD h2;have m2n:decide (30<d.size)=false:=zD (by omega);replace h2:=zh h2;go_wp2;exact⟨⟨1,by omega,by go_num,by first|rfl|trivial⟩,by simp only[intOf];omega⟩
  obtain rfl:i=1:=by omega
  go_wp2;go_ret;exact BoolPost.mkB (r:=true) rfl trivial (zI _ _)
theorem NL(s:SR)(Ap Ac Av:Option Addr)(cp cc cv:Nat)(w:World)(hs:StIn w s Ap Ac Av):
 Calls prog 39 #[.agg #[.slice Ap s.ps.length cp,.slice Ac s.cap.length cc,.slice Av s.vot.length cv],.int .i64 7] w (BoolPost (fun r=>r=true->s.ps.length<=7/\s.cap.length<=30/\s.vot.length<=30) w):=by
 have ab:Hid (Bk (w.alloc (.cells #[.slice Ap s.ps.length cp,.slice Ac s.cap.length cc,.slice Av s.vot.length cv] 25)) w.heap.size 25 (SC s Ap Ac Av cp cc cv)):=Bk.new w _ _;have ad:Hid (Below w.heap.size w (w.alloc (.cells #[.slice Ap s.ps.length cp,.slice Ac s.cap.length cc,.slice Av s.vot.length cv] 25))):=(zI _ w).alloc (zB _) _;have ksh:=zh (fun g n d b w h=>NK g n d b w h);replace hs:=zh hs;have u0:=ab.o.c0;have u1:=ab.o.c1;have u2:=ab.o.c2;have u9:=ab.o.lt
 by_cases z0:(7:Int)<(s.ps.length:Int)
 .have m0:decide ((7:Int)<(s.ps.length:Int))=true:=zH z0;have m0n:decide (7<s.ps.length)=true:=zH (by omega);replace z0:=zh z0;go_enter func39,ntmps39;go_wp2;go_ret;exact BoolPost.mkB (r:=false) rfl (fun h=>(by cases h)) ad.o
 have m0:decide ((7:Int)<(s.ps.length:Int))=false:=zD z0;have m0n:decide (7<s.ps.length)=false:=zD (by omega)
 by_cases z1:(30:Int)<(s.cap.length:Int)
 .have m1:decide ((30:Int)<(s.cap.length:Int))=true:=zH z1;have m1n:decide (30<s.cap.length)=true:=zH (by omega);replace z1:=zh z1;go_enter func39,ntmps39;go_wp2;go_ret;exact BoolPost.mkB (r:=false) rfl (fun h=>(by cases h)) ad.o
 have m1:decide ((30:Int)<(s.cap.length:Int))=false:=zD z1;have m1n:decide (30<s.cap.length)=false:=zD (by omega)
 by_cases z2:(30:Int)<(s.vot.length:Int)
 .have m2:decide ((30:Int)<(s.vot.length:Int))=true:=zH z2;have m2n:decide (30<s.vot.length)=true:=zH (by omega);replace z2:=zh z2;go_enter func39,ntmps39;go_wp2;go_ret;exact BoolPost.mkB (r:=false) rfl (fun h=>(by cases h)) ad.o
 have m2:decide ((30:Int)<(s.vot.length:Int))=false:=zD z2;have m2n:decide (30<s.vot.length)=false:=zD (by omega);have ag:Hid (s.ps.length<=7/\s.cap.length<=30/\s.vot.length<=30):=⟨by omega,by omega,by omega⟩;obtain⟨y0,y1,y2⟩:=ag.o;replace z0:=zh z0;replace z1:=zh z1;replace z2:=zh z2;go_enter func39,ntmps39;go_wp2;clear u0 u1 u2 u9
 go_loopw [5] (fun ix wr=>∃(i:Nat),i<=s.ps.length/\ix=.int .i64 (i:Int)/\Hid (Below w.heap.size w wr)/\Hid (Bk wr w.heap.size 25 (SC s Ap Ac Av cp cc cv))) (fun ix _=>s.ps.length-(intOf ix).toNat)
 case atStart=>exact⟨0,zO _,rfl,ad,ab⟩
 case round=>
  obtain⟨i,hi,rfl,hB,hX⟩:=hrel;obtain⟨wz,rfl⟩:∃z,z=wr:=⟨_,rfl⟩;have u0:=hX.o.c0;have u1:=hX.o.c1;have u2:=hX.o.c2;have u9:=hX.o.lt;have j0:(0:Int)<=(i:Int):=by omega
  by_cases hlt:i<s.ps.length
  .have j1:(i:Int)<(s.ps.length:Int):=by omega
   obtain⟨b,o,rfl,af,hc⟩:=(hs.o.below hB.o).ps (by omega);have e1:=hc i hlt;generalize s.ps[i]=x at e1;clear hc
   by_cases h1:(60:Int)<(x.size:Int)
   .have q1:decide ((60:Int)<(x.size:Int))=true:=zH h1;have q1n:decide (60<x.size)=true:=zH (by omega);replace h1:=zh h1;go_wp2;go_ret;exact BoolPost.mkB (r:=false) rfl (fun h=>(by cases h)) hB.o
   have q1:decide ((60:Int)<(x.size:Int))=false:=zD h1;have q1n:decide (60<x.size)=false:=zD (by omega);replace h1:=zh h1;go_wp2
   go_roundw
   case rel=>exact⟨i+1,by omega,by go_num,hB,hX⟩
   case measure=>simp[intOf];omega
  obtain rfl:i=s.ps.length:=by omega
  go_wp2;clear u0 u1 u2 u9
  go_loopw [6] (fun ix wr=>∃(i:Nat),i<=s.cap.length/\ix=.int .i64 (i:Int)/\Hid (Below w.heap.size w wr)/\Hid (Bk wr w.heap.size 25 (SC s Ap Ac Av cp cc cv))) (fun ix _=>s.cap.length-(intOf ix).toNat)
  case atStart=>exact⟨0,zO _,rfl,hB,hX⟩
  case round=>
   obtain⟨i,hi,rfl,hB,hX⟩:=hrel;obtain⟨wz,rfl⟩:∃z,z=wr:=⟨_,rfl⟩;have u0:=hX.o.c0;have u1:=hX.o.c1;have u2:=hX.o.c2;have u9:=hX.o.lt;have j0:(0:Int)<=(i:Int):=by omega
   by_cases hlt:i<s.cap.length
   .have j1:(i:Int)<(s.cap.length:Int):=by omega
    obtain⟨b,o,rfl,af,hc⟩:=(hs.o.below hB.o).cap (by omega);obtain⟨_,_,e3,e4,e5⟩:=hc i hlt;generalize s.cap[i]=x at e3 e4 e5;obtain⟨co,ho,gg,nn,dd⟩:=x;clear hc;replace e3:wz.cell? ⟨b,o+i*5+2,none⟩=some (.bool gg):=e3;replace e4:wz.cell? ⟨b,o+i*5+3,none⟩=some (.string nn):=e4;replace e5:wz.cell? ⟨b,o+i*5+4,none⟩=some (.string dd):=e5;have ks:=zh (ksh.o gg nn dd wz.heap.size _ (Bk.new wz 34 [.bool gg,.string nn,.string dd]));have a:Hid (Below wz.heap.size wz (wz.alloc (.cells #[.bool gg,.string nn,.string dd] 34))):=(zI _ _).alloc (zB _) _
    go_wp2_with fail
    refine ks.o.mono ?_;rintro e w5 ⟨⟨r,rfl,_⟩,hb⟩;have aa:=zh (hB.o.trans ((a.o.trans (hb.mono a.o.size)).mono hB.o.size));have ae:=zh (hX.o.below (a.o.trans (hb.mono a.o.size)));clear hb e3 e4 e5 u0 u1 u2 u9
    cases r with
    |false=>
     go_wp2;go_ret;exact BoolPost.mkB (r:=false) rfl (fun h=>(by cases h)) aa.o
    |true=>
     go_wp2
     go_roundw
     case rel=>exact⟨i+1,by omega,by go_num,aa,ae⟩
     case measure=>simp[intOf];omega
   obtain rfl:i=s.cap.length:=by omega
   go_wp2;clear u0 u1 u2 u9
   go_loopw [7] (fun ix wr=>∃(i:Nat),i<=s.vot.length/\ix=.int .i64 (i:Int)/\Hid (Below w.heap.size w wr)/\Hid (Bk wr w.heap.size 25 (SC s Ap Ac Av cp cc cv))) (fun ix _=>s.vot.length-(intOf ix).toNat)
   case atStart=>exact⟨0,zO _,rfl,hB,hX⟩
   case round=>
    obtain⟨i,hi,rfl,hB,hX⟩:=hrel;obtain⟨wz,rfl⟩:∃z,z=wr:=⟨_,rfl⟩;have u0:=hX.o.c0;have u1:=hX.o.c1;have u2:=hX.o.c2;have u9:=hX.o.lt;have j0:(0:Int)<=(i:Int):=by omega
    by_cases hlt:i<s.vot.length
    .have j1:(i:Int)<(s.vot.length:Int):=by omega
     obtain⟨b,o,rfl,af,hc⟩:=(hs.o.below hB.o).vot (by omega);obtain⟨_,_,e3,e4,e5⟩:=hc i hlt;generalize s.vot[i]=x at e3 e4 e5;obtain⟨co,ho,gg,nn,dd⟩:=x;clear hc;replace e3:wz.cell? ⟨b,o+i*5+2,none⟩=some (.bool gg):=e3;replace e4:wz.cell? ⟨b,o+i*5+3,none⟩=some (.string nn):=e4;replace e5:wz.cell? ⟨b,o+i*5+4,none⟩=some (.string dd):=e5;have ks:=zh (ksh.o gg nn dd wz.heap.size _ (Bk.new wz 34 [.bool gg,.string nn,.string dd]));have a:Hid (Below wz.heap.size wz (wz.alloc (.cells #[.bool gg,.string nn,.string dd] 34))):=(zI _ _).alloc (zB _) _
     go_wp2_with fail
     refine ks.o.mono ?_;rintro e w5 ⟨⟨r,rfl,_⟩,hb⟩;have aa:=zh (hB.o.trans ((a.o.trans (hb.mono a.o.size)).mono hB.o.size));have ae:=zh (hX.o.below (a.o.trans (hb.mono a.o.size)));clear hb e3 e4 e5 u0 u1 u2 u9
     cases r with
     |false=>
      go_wp2;go_ret;exact BoolPost.mkB (r:=false) rfl (fun h=>(by cases h)) aa.o
     |true=>
      go_wp2
      go_roundw
      case rel=>exact⟨i+1,by omega,by go_num,aa,ae⟩
      case measure=>simp[intOf];omega
    obtain rfl:i=s.vot.length:=by omega
    go_wp2;go_ret;exact BoolPost.mkB (r:=true) rfl (fun _=>ag.o) hB.o
theorem Q0(s:SR)(Ap Ac Av:Option Addr)(cp cc cv:Nat)(w:World)(hs:StIn w s Ap Ac Av):
 Calls prog 12 #[.agg #[.slice Ap s.ps.length cp,.slice Ac s.cap.length cc,.slice Av s.vot.length cv]] w (BoolPost (fun r=>r=true->s.ps.length<=7/\s.cap.length<=30/\s.vot.length<=30) w):=by
 have a:Hid (Bk (w.alloc (.cells #[.slice Ap s.ps.length cp,.slice Ac s.cap.length cc,.slice Av s.vot.length cv] 25)) w.heap.size 25 (SC s Ap Ac Av cp cc cv)):=Bk.new w _ _;have d:Hid (Below w.heap.size w (w.alloc (.cells #[.slice Ap s.ps.length cp,.slice Ac s.cap.length cc,.slice Av s.vot.length cv] 25))):=(zI _ w).alloc (zB _) _;have ks:=zh (NL s Ap Ac Av cp cc cv _ (hs.below d.o));have u0:=a.o.c0;have u1:=a.o.c1;have u2:=a.o.c2;have u9:=a.o.lt;go_enter func12,ntmps12
 go_wp2_with fail
 refine ks.o.mono ?_;rintro e w2 ⟨⟨r,rfl,hr⟩,hb⟩;have h:=d.t hb;replace hr:=zh hr;clear hb;go_wp2;go_ret;exact BoolPost.mkB rfl hr.o h.o
theorem LL(A:Option Addr)(ca:Nat)(n:Int)(l:List Int)(w:World)(hA:InInt w A l)(hl:l.length<=140737488355328):
 Calls prog 47 #[.slice A l.length ca,.int .i64 n] w fun e w'=>e=.returned (.bool (Be n l))/\∃q,w'=w.drewN q:=by
 have af:=zh (fun(k:Nat) (h:k<l.length) (hb:¬BX n l k h)=>Gs h hb);have ae:=zh (Gt (n:=n) (l:=l));replace hA:=zh hA;go_enter func47,ntmps47;go_wp2
 go_loopw [5] (fun i wr=>∃k q:Nat,k<=l.length/\i=.int .i64 (k:Int)/\wr=w.drewN q/\Hid (∀j (h:j<l.length),j<k->BX n l j h)) (fun i _=>l.length-(intOf i).toNat)
 case atStart=>exact⟨0,0,zO _,rfl,rfl,fun j _ h=>absurd h (zi _)⟩
 case round=>
  obtain⟨k,q,hk,rfl,rfl,hI⟩:=hrel
  by_cases hlt:k<l.length
  .obtain ⟨b1,o1,rfl,ah,ab⟩:=hA.o (by omega);have e1:(w.drewN q).cell? ⟨b1,o1+k,none⟩=some (.int .i64 l[k]):=ab k hlt;have e0:Hid (0<k->(w.drewN q).cell? ⟨b1,o1+(k-1),none⟩=some (.int .i64 (l[k-1]'(by omega)))):=fun h=>ab (k-1) (by omega);have aa:=zh (af.o k hlt)
   have ad:Hid (BX n l k hlt->∀j (h:j<l.length),j<k+1->BX n l j h):=fun h j h1 h3=>by
    by_cases e:j=k
    .subst e;exact h
    exact hI.o j h1 (by omega)
   have d:Hid (BX n l k hlt<->(0<=l[k]/\l[k]<n)/\(0<k->l[k-1]'(by omega)<l[k])):=wY;obtain⟨x,hx⟩:∃x,x=l[k]:=⟨_,rfl⟩;rw[<-hx]at e1 d;have j0:(0:Int)<=(k:Int):=by omega
   have j1:(k:Int)<(l.length:Int):=by omega
   clear ab hI hx;generalize a:w.drewN q=wq at *;replace a:=zh a;have ag:x<0\/(0<=x/\n<=x)\/(0<=x/\x<n):=by omega
   rcases ag with h1|⟨h1,h2⟩|⟨h1,h2⟩
   .have hG:=zh (aa.o fun h=>by have:=(d.o.1 h).1.1;omega);have m1:decide (x<0)=true:=zH h1
    go_wp2_with fail
    go_quiet (fail)
    go_wp2;go_ret;exact⟨Ag hG.o.symm,q+nq,by rw[<-a.o,yr]⟩
   .have hG:=zh (aa.o fun h=>by have:=(d.o.1 h).1.2;omega);have m1:decide (x<0)=false:=zD (by omega);have m2:decide (n<=x)=true:=zH h2
    go_wp2_with fail
    go_quiet (fail)
    go_wp2;go_ret;exact⟨Ag hG.o.symm,q+nq,by rw[<-a.o,yr]⟩
   have m1:decide (x<0)=false:=zD (by omega);have m2:decide (n<=x)=false:=zD (by omega)
   by_cases hk0:k=0
   .have m3:decide (0<(k:Int))=false:=zD (by omega);have m4:decide (0<k)=false:=zD (by omega);have s:=zh (ad.o (d.o.2 ⟨⟨h1,h2⟩,fun h=>by omega⟩));replace hk0:=zh hk0
    go_wp2_with fail
    go_quiet (fail)
    go_wp2;refine⟨⟨k+1,q+nq,by omega,by go_num,by rw[<-a.o,yr],s⟩,by simp only[intOf];omega⟩
   have m3:decide (0<(k:Int))=true:=zH (by omega);have m4:decide (0<k)=true:=zH (by omega);have e2:=e0.o (by omega);obtain⟨y,hy⟩:∃y,y=l[k-1]'(by omega):=⟨_,rfl⟩;rw[<-hy]at e2;have j2:(0:Int)<=(k:Int)-1:=by omega
   have j3:(k:Int)-1<(l.length:Int):=by omega
   have j4:IntKind.i64.wrap ((k:Int)-1)=(k:Int)-1:=yi _ (by omega);have j5:((k:Int)-1).toNat=k-1:=by omega
   by_cases hxy:y<x
   .have m5:decide (x<=y)=false:=zD (by omega);have s:=zh (ad.o (d.o.2 ⟨⟨h1,h2⟩,fun _=>by rw[<-hy];exact hxy⟩));replace hy:=zh hy
    go_wp2_with fail
    go_quiet (fail)
    clear j4 j5;go_wp2;refine⟨⟨k+1,q+nq,by omega,by go_num,by rw[<-a.o,yr],s⟩,by simp only[intOf];omega⟩
   have m5:decide (x<=y)=true:=zH (by omega);have hG:=zh (aa.o fun h=>by have h3:=(d.o.1 h).2 (by omega);rw[<-hy]at h3;omega);replace hy:=zh hy
   go_wp2_with fail
   go_quiet (fail)
   clear j4 j5;go_wp2;go_ret;exact⟨Ag hG.o.symm,q+nq,by rw[<-a.o,yr]⟩
  obtain rfl:k=l.length:=by omega
  have hG:=zh (ae.o fun j h=>hI.o j h h);generalize a:w.drewN q=wq at *;replace a:=zh a;go_wp2;go_ret;exact⟨Ag hG.o.symm,q,a.o.symm⟩
theorem Kz(A:Option Addr)(ca:Nat)(l:List Int)(x:Int)(w:World)(hA:InInt w A l)(hl:l.length<=140737488355328):
 Calls prog 51 #[.slice A l.length ca,.int .i64 x] w fun e w'=>e=.returned (.int .i64 (Eo l x))/\w'=w:=by
 replace hA:=zh hA;have d:=zh (fun(k:Nat) (hk:k<l.length) h e=>S9 (l:=l) (x:=x) hk h e);have s:=zh (fun h=>SA (l:=l) (x:=x) h);go_enter func51,ntmps51;go_wp2
 go_loopw [5] (fun ix wr=>∃(k:Nat),k<=l.length/\ix=.int .i64 (k:Int)/\wr=w/\Hid (∀j (hj:j<l.length),j<k->l[j]≠x)) (fun ix _=>l.length-(intOf ix).toNat)
 case atStart=>exact⟨0,zO _,rfl,rfl,fun j _ h=>absurd h (zi _)⟩
 case round=>
  obtain⟨k,hk,rfl,rfl,hN⟩:=hrel
  by_cases hlt:k<l.length
  .obtain ⟨b,o,rfl,ab,hc⟩:=hA.o (by omega);have e1:=hc k hlt;have hy:=zh (d.o k hlt hN.o)
   have hn:Hid (l[k]≠x->∀j (hj:j<l.length),j<k+1->l[j]≠x):=fun h j hj h2=>by
    by_cases c:j=k
    .subst c;exact h
    exact hN.o j hj (by omega)
   obtain⟨y,a⟩:∃y,y=l[k]:=⟨_,rfl⟩;rw[<-a]at e1 hy hn;replace a:=zh a;have j0:(0:Int)<=(k:Int):=by omega
   have j1:(k:Int)<(l.length:Int):=by omega
   clear hc hN
   by_cases hxy:x=y
   .have m1:(x==y)=true:=by rw[yL];exact hxy
    have hr:=zh (hy.o hxy.symm);replace hxy:=zh hxy;clear hn hy;go_wp2;go_ret;exact⟨H0 hr.o.symm,rfl⟩
   have m1:(x==y)=false:=by rw[zJ];exact hxy
   have aa:=zh (hn.o fun c=>hxy c.symm);replace hxy:=zh hxy;clear hn hy;go_wp2;exact⟨⟨k+1,by omega,by go_num,by first|rfl|trivial,aa⟩,by simp only[intOf];omega⟩
  obtain rfl:k=l.length:=by omega
  have hr:Hid (Eo l x=-1):=s.o fun j hj=>hN.o j hj hj;go_wp2;go_ret;exact⟨H0 hr.o.symm,rfl⟩
end Sh
end
section
open Go.RowKit Go.Shelf
namespace Nt
def OwnB(B:Nat)(w:World)(v:Value)(l:List UInt8):Prop:=w.ownsRow B 5 1 v l.length (Lib.byteCells l)
theorem LN:(prog.info? 5).map (fun i=>(i.zero,i.size,i.bytes))=some (some (.int .u8 0),1,1):=by kernel_rfl
theorem I6(l:List UInt8)(c:UInt8):Lib.byteCells l++[Value.int .u8 (c.toNat:Int)]=Lib.byteCells (l++[c]):=by simp[Lib.byteCells]
theorem OwnB.below{B:Nat}{w w':World}{v:Value}{l:List UInt8}(h:OwnB B w v l)(hb:Below w.heap.size w w'):OwnB B w' v l:=by
 obtain⟨h1,h2⟩:=h;refine⟨h1,?_⟩
 rcases h2 with h2|⟨g,cap,cur,hv,hg,hh,r⟩
 .exact Or.inl h2
 exact Or.inr ⟨g,cap,cur,hv,hg,by rw[hb.block g (Array.getElem?_eq_some_iff.1 hh).1];exact hh,r⟩
theorem OwnB.form{B:Nat}{w:World}{v:Value}{l:List UInt8}(h:OwnB B w v l):(v=.slice none 0 0/\l=[])\/∃g cap,B<=g/\v=.slice (some ⟨g,0,none⟩) l.length cap/\∀j (hj:j<l.length),w.cell? ⟨g,j,none⟩=some (.int .u8 (l[j].toNat:Int)):=by
 rcases id h.2 with⟨h1,h2⟩|⟨g,cap,cur,h1,hg,_⟩
 .exact .inl ⟨h1,List.length_eq_zero_iff.1 h2⟩
 refine .inr ⟨g,cap,hg,h1,fun j hj=>?_⟩;subst h1;rw[World.ownsRow.cellAt h j (by omega)];simp[Lib.byteCells,hj]
theorem OwnB.text{B:Nat}{w:World}{v:Value}{l:List UInt8}(h:OwnB B w v l):
 (convert 145 9 v).run prog w=.ok (.string ⟨l.toArray⟩) w:=by
 rcases h.form with⟨rfl,rfl⟩|⟨g,cap,_,rfl,hc⟩
 .exact run_convert_bytes_nil w _ _ underlying145 underlying5 0 0 _ underlying9
 have:=run_convert_bytes_arg (P:=prog) w 145 5 underlying145 underlying5 g 0 l.length cap (l.map fun c=>(c.toNat:Int)) (by simp)
  (fun i hi=>by rw[zm,hc i hi];simp[hi]) 9 underlying9
 rw[this]
 have e:(l.map ((fun n:Int=>UInt8.ofNat n.toNat) ∘ fun c:UInt8=>(c.toNat:Int)))=l:=by
  conv=>rhs;rw[<-List.map_id l]
  exact yX fun c _=>by simp
 simp only[strOfNums,xC,e]
theorem OwnB.lit(B:Nat)(w:World)(c:UInt8)(hb:B<=w.heap.size):OwnB B (w.alloc (.cells #[.int .u8 (c.toNat:Int)] 5)) (.slice (some ⟨w.heap.size,0,none⟩) 1 1) [c] :=
 World.ownsRow_lit w #[.int .u8 (c.toNat:Int)] 1 hb (by unfold maxLen;omega) rfl
end Nt
end
section
open Go.RowKit
namespace Nt
def dgt(l:List UInt8)(i:Nat):Nat:=if h:i<l.length then (l[l.length-1-i]'(by omega)).toNat-48 else 0
theorem FB(l:List UInt8)(c:UInt8):dgt (l++[c]) 0=c.toNat-48:=by
 unfold dgt;rw[dif_pos (by simp)];simp
theorem FC(l:List UInt8)(c:UInt8)(i:Nat):dgt (l++[c]) (i+1)=dgt l i:=by
 unfold dgt
 by_cases h:i<l.length
 .rw[dif_pos (by simp;omega),dif_pos h];have e:(l++[c]).length-1-(i+1)=l.length-1-i:=by simp;omega
  simp only[e];rw[List.getElem_append_left (by omega)]
 rw[dif_neg (by simp;omega),dif_neg h]
theorem Pf(n i:Nat):dgt (Lib.decDigits n) i=n/10^i%10:=by
 induction i generalizing n with
 |zero=>
  rw[Lib.decDigits]
  split
  .rw[show ([UInt8.ofNat (48+n)]:List UInt8)=[]++[UInt8.ofNat (48+n)] from rfl,FB,Bl _ (by omega)];simp;omega
  rw[FB,Bl _ (xv _ (by omega))];simp
 |succ i ih=>
  rw[Lib.decDigits]
  split
  .rename_i h;rw[show ([UInt8.ofNat (48+n)]:List UInt8)=[]++[UInt8.ofNat (48+n)] from rfl,FC];have h1:dgt [] i=0:=rfl;have h2:n/10^(i+1)=0:=ve (zL h (by rw[zy];have:0<10^i:=wh (by omega);omega));rw[h1,h2]
  rw[FC,ih,zy,zw,Nat.div_div_eq_div_mul]
theorem WY(n i:Nat):dgt (Lib.decDigits n) i<10:=by rw[Pf];exact xv _ (by omega)
def dv:List Nat->Nat
 | []=>0
 |x::xs=>x+10*dv xs
theorem Q1(xs ys:List Nat):dv (xs++ys)=dv xs+10^xs.length*dv ys:=by
 induction xs with
 |nil=>simp[dv]
 |cons x xs ih=>
  simp only[xB,dv,ih,zn,zy,yQ];rw[zw (10^xs.length) 10,zz];omega
theorem Pg(xs:List Nat)(y:Nat):dv (xs++[y])=dv xs+10^xs.length*y:=by rw[Q1];simp[dv]
theorem K0(zs:List Nat)(p y:Nat)(h:p<zs.length):dv (zs.set p y)+10^p*lim zs p=dv zs+10^p*y:=by
 induction zs generalizing p with
 |nil=>simp at h
 |cons z zs ih=>
  cases p with
  |zero=>simp[dv,lim];omega
  |succ p=>
   have:=ih p (by simpa using h);have e:lim (z::zs) (p+1)=lim zs p:=by simp[lim]
   rw[e];simp only[zF,dv,zy];rw[zw (10^p) 10,zz,zz];omega
theorem Tb(n:Nat):dv (List.replicate n 0)=0:=by
 induction n with
 |zero=>rfl
 |succ n ih=>rw[List.replicate_succ,dv,ih]
theorem WF(zs:List Nat)(p:Nat)(h:p<zs.length):10^p*lim zs p<=dv zs:=by
 have:=K0 zs p 0 h;omega
def Cq(ds:List Nat):List UInt8:=(ds.map fun d=>UInt8.ofNat (48+d)).reverse
theorem DK(ds:List Nat):(Cq ds).length=ds.length:=by simp[Cq]
theorem I7{ds:List Nat}(h:∀d∈ds,d<10):∀c∈Cq ds,AT c:=by
 intro c hc;simp only[Cq,List.mem_reverse,vj]at hc;obtain⟨d,hd,rfl⟩:=hc;have:=h d hd;unfold AT;rw[Bl _ this];omega
theorem Hh{ds:List Nat}(h:∀d∈ds,d<10):A0 (Cq ds)=dv ds:=by
 induction ds with
 |nil=>rfl
 |cons d ds ih=>
  have e:Cq (d::ds)=Cq ds++[UInt8.ofNat (48+d)]:=by simp[Cq]
  rw[e,Bv,ih (fun x hx=>h x (by simp[hx]))];have hd:=h d (by simp);simp only[zn,yc,A0,wV,wm,Bl d hd,dv];omega
theorem U7{l:List UInt8}{i:Nat}(hd:∀c∈l,AT c)(hi:i<l.length)(hz:∀j,(h:j<i)->l[j]'(by omega)=48)(he:i+1=l.length\/l[i]≠48):
 l.drop i=Lib.decDigits (A0 l):=by
 have hv:A0 (l.drop i)=A0 l:=by
  have e:l=List.replicate i 48++l.drop i:=by
   conv=>lhs;rw[<-yt i l]
   congr 1
   apply List.ext_getElem
   .simp;omega
   intro j h1 h2;simp at h1;simp[hz j (by omega)]
  conv=>rhs;rw[e,HI]
 rw[<-hv];refine(D5 _ _ rfl ?_ (fun c hc=>hd c (wM hc)) ?_).symm
 .intro h;have:=congrArg List.length h;simp at this;omega
 rcases he with he|he
 .left;simp;omega
 right;rw[List.head?_drop,yR hi];intro e;exact he (Option.some.inj e)
theorem I8{a b:Nat}(h:(Lib.decDigits a).length<(Lib.decDigits b).length):a<b:=by
 have h0:0<(Lib.decDigits a).length:=List.length_pos_iff.2 (AX a);have h1:=(Bm a _ h0).1 (zB _)
 have h2:¬b<10^(Lib.decDigits a).length:=fun h'=>by
  have:=AV h' h0;omega
 omega
theorem Tc:∀{l m:List UInt8},l.length=m.length->(∀c∈l,AT c)->(∀c∈m,AT c)->(Op.bytesLess l m=true<->A0 l<A0 m):=by
 intro l
 induction l with
 |nil=>
  intro m hl _ _;have:m=[]:=List.length_eq_zero_iff.1 hl.symm;subst this;simp[Op.bytesLess]
 |cons a l ih=>
  intro m hl hd he
  cases m with
  |nil=>simp at hl
  |cons b m=>
   have d:l.length=m.length:=by simpa using hl
   have i:=ih d (fun c hc=>hd c (by simp[hc])) (fun c hc=>he c (by simp[hc]));have ha:=hd a (by simp);have hb:=he b (by simp);have h1:=Do (l:=l) (fun c hc=>hd c (by simp[hc]));have h2:=Do (l:=m) (fun c hc=>he c (by simp[hc]));rw[C8,C8,d];rw[d]at h1;generalize 10^m.length=P at *;unfold Op.bytesLess
   rcases v5 a.toNat b.toNat with h|h|h
   .have e:(a<b)=True:=by simp[UInt8.lt_iff_toNat_lt,h]
    have h3:(a.toNat-48+1)*P<=(b.toNat-48)*P:=yO _ (by have:=ha.1;omega);rw[yE]at h3;simp only[e,decide_true,Bool.true_or,true_iff];omega
   .obtain rfl:a=b:=UInt8.toNat_inj.1 h;have e:(a<a)=False:=by simp
    simp only[e,decide_false,beq_self_eq_true,xF,Bool.false_or,i];omega
   have e:(a<b)=False:=by simp[UInt8.lt_iff_toNat_lt];omega
   have e2:(a==b)=false:=by rw[zJ];intro h';subst h';omega
   have h3:(b.toNat-48+1)*P<=(a.toNat-48)*P:=yO _ (by have:=hb.1;omega);rw[yE]at h3;simp only[e,e2,decide_false,xw,Bool.or_false,vL,false_iff];omega
theorem Td{a b:Nat}(h:(Lib.decDigits a).length=(Lib.decDigits b).length):Op.bytesLess (Lib.decDigits a) (Lib.decDigits b)=true<->a<b:=by
 have:=Tc h (AL a) (AL b)
 rwa [Aw,Aw]at this
theorem Cp(a i:Nat):a%10^(i+1)=a%10^i+10^i*(a/10^i%10):=by
 rw[zy,Nat.mod_mul]
theorem NM{D a b i c:Nat}(h:D+10^i*c=a%10^i+b%10^i):
 D+10^i*((a/10^i%10+b/10^i%10+c)%10)+10^(i+1)*((a/10^i%10+b/10^i%10+c)/10)=a%10^(i+1)+b%10^(i+1):=by
 rw[Cp,Cp,zy];generalize a/10^i%10=x;generalize b/10^i%10=y;generalize 10^i=P at *
 have e:P*(x+y+c)=P*((x+y+c)%10)+P*10*((x+y+c)/10):=by
  rw[zz,<-yQ,Nat.mod_add_div]
 rw[yQ,yQ]at e;omega
theorem LO{D a b i c z c':Nat}(h:D+b%10^i=a%10^i+10^i*c)(e:z+b/10^i%10+c=a/10^i%10+10*c'):
 D+10^i*z+b%10^(i+1)=a%10^(i+1)+10^(i+1)*c':=by
 rw[Cp,Cp,zy];generalize a/10^i%10=x at *;generalize b/10^i%10=y at *;generalize 10^i=P at *
 have e2:P*z+P*y+P*c=P*x+P*10*c':=by
  rw[zz,<-yQ,<-yQ,<-yQ,e]
 omega
theorem U8{a i:Nat}(h:(Lib.decDigits a).length<=i):a%10^i=a:=by
 have h0:0<(Lib.decDigits a).length:=List.length_pos_iff.2 (AX a);exact xZ ((Bm a i (by omega)).1 h)
end Nt
end
section
open Go.RowKit Go.Shelf
namespace Nt
theorem Gu{a b:ByteArray}(h:a=b):Ending.returned (.string a)=.returned (.string b):=by rw[h]
theorem DU{a b:Int}(h:a=b):Ending.returned (.int .i64 a)=.returned (.int .i64 b):=by rw[h]
theorem Hi{a b:Bool}(h:a=b):Ending.returned (.bool a)=.returned (.bool b):=by rw[h]
theorem JI{a b:ByteArray}(h:a.data.toList=b.data.toList):a=b:=by
 obtain⟨a⟩:=a;obtain⟨b⟩:=b;exact congrArg ByteArray.mk (Array.toList_inj.1 h)
theorem BB(n:Nat):(num n).data.toList=Lib.decDigits n:=rfl
theorem BY(n:Nat):(num n).size=(Lib.decDigits n).length:=by simp[num,ByteArray.size]
@[irreducible] def dch (d:Nat):UInt8:=UInt8.ofNat (48+d)
theorem NN(d:Nat):dch d=UInt8.ofNat (48+d):=by unfold dch;rfl
def DgRel(N m:Nat)(t:ByteArray):Prop:=(if m=0 then [] else Lib.decDigits m)++t.data.toList=Lib.decDigits N
theorem DgRel.start(N:Nat):DgRel N (N/10) ⟨#[UInt8.ofNat (48+N%10)]⟩:=by
 unfold DgRel
 conv=>rhs;rw[Lib.decDigits]
 split
 .rename_i h;rw[dif_pos (by omega)];simp
  congr 2;omega
 rename_i h;rw[dif_neg (by omega)]
theorem DgRel.step{N m:Nat}{t:ByteArray}(h:DgRel N m t)(hm:0<m):DgRel N (m/10) (⟨#[UInt8.ofNat (48+m%10)]⟩++t):=by
 have h2:=DgRel.start m;unfold DgRel at *;rw[zC (by omega),<-h2]at h;rw[<-h];simp
theorem DgRel.done{N:Nat}{t:ByteArray}(h:DgRel N 0 t):t=num N:=JI (by unfold DgRel at h;simpa [num] using h)
theorem DgRel.size{N m:Nat}{t:ByteArray}(h:DgRel N m t)(hN:N<18446744073709551616):t.size<=20:=by
 have h1:=AV (k:=20) (u:=N) (by omega) (by omega);have h2:=congrArg List.length h;have h3:t.size=t.data.toList.length:=xM _;rw[zY]at h2;omega
theorem FD(d:Nat)(h:d<10)(w:World):
 (Instr.slice 9 (.string ⟨#[48,49,50,51,52,53,54,55,56,57]⟩) (some (.int .u64 (d:Int))) (some (.int .u64 ((d:Int)+1))) none).run prog w=.ok (.string ⟨#[dch d]⟩) w:=by
 rw[NN];obtain rfl|rfl|rfl|rfl|rfl|rfl|rfl|rfl|rfl|rfl:d=0\/d=1\/d=2\/d=3\/d=4\/d=5\/d=6\/d=7\/d=8\/d=9:=by omega
 all_goals kernel_rfl
theorem NO(n:Nat)(w:World)(hn:n<18446744073709551616):
 Calls prog 160 #[.int .u64 (n:Int)] w fun e w'=>e=.returned (.string (num n))/\w=w':=by
 obtain⟨d,hd⟩:∃d,d=n%10:=⟨_,rfl⟩;have h:d<10:=by omega
 have aa:(n:Int)%10=(d:Int):=by omega
 have a:=FD d h;have HD:=zh hd;clear hd;go_enter func160,ntmps160;go_wp2;clear aa a
 go_loop [0,3] (fun m t=>∃(k:Nat)(s:ByteArray),m=.int .u64 (k:Int)/\t=.string s/\k<=n/\DgRel n k s) (fun m _=>(intOf m).toNat)
 case atStart=>exact⟨n/10,_,by first|rfl|(congr 1;omega),rfl,vJ _ _,by rw[NN,HD.o];exact DgRel.start n⟩
 case round=>
  obtain⟨k,s,rfl,rfl,hk,hr⟩:=hrel
  by_cases h0:k=0
  .subst h0;have hs:=zh hr.done;clear hr;go_wp2;go_ret;exact⟨Gu hs.o,rfl⟩
  obtain⟨d,hd⟩:∃d,d=k%10:=⟨_,rfl⟩;have h:d<10:=by omega
  have aa:(k:Int)%10=(d:Int):=by omega
  have a:=FD d h;have HD:=zh hd;have hz:=hr.size hn;have ab:(0:Int)<(k:Int):=by omega
  replace hr:=zh hr;clear hd;go_wp2;go_round
  case rel=>exact⟨k/10,_,by first|rfl|(congr 1;omega),rfl,by omega,by rw[NN,HD.o];exact hr.o.step (by omega)⟩
  case measure=>simp[intOf];omega
theorem DV(n:Nat)(w:World)(hn:n<=9223372036854775807):
 Calls prog 127 #[.int .i64 (n:Int)] w fun e w'=>e=.returned (.string (num n))/\w=w':=by
 go_enter func127,ntmps127
 go_wp2_with (go_at_call 160;refine(NO n _ (by omega)).mono ?_;rintro e w' ⟨rfl,rfl⟩)
 go_ret;exact⟨rfl,rfl⟩
def GL(l:List UInt8):Bool:=l.all (fun c=>decide (48<=c.toNat/\c.toNat<=57))&&(decide (l.length=1)||(decide (1<l.length)&&decide (l.head?≠some 48)))
theorem Te(s:ByteArray):isN s=(decide (s.size<=300)&&GL s.data.toList):=by
 have hz:s.size=s.data.toList.length:=xM _;unfold isN Rc GL;rw[hz];generalize s.data.toList=l
 cases l with
 |nil=>rfl
 |cons a l=>
  cases l with
  |nil=>simp
  |cons b l=>simp
theorem Tf{l:List UInt8}{k:Nat}(h:k<l.length)(hb:¬AT l[k]):GL l=false:=by
 unfold GL
 have:l.all (fun c=>decide (48<=c.toNat/\c.toNat<=57))=false:=by
  rw[wK];exact⟨l[k],zQ h,by simpa [AT] using hb⟩
 rw[this,xw]
theorem Q2{l:List UInt8}(h:∀c∈l,AT c):GL l=(decide (l.length=1)||(decide (1<l.length)&&decide (l.head?≠some 48))):=by
 unfold GL
 have:l.all (fun c=>decide (48<=c.toNat/\c.toNat<=57))=true:=by
  rw[xe];intro c hc
  simpa [AT] using h c hc
 rw[this,xF]
theorem LP(s:ByteArray)(w:World)(hs:s.size<=140737488355328):
 Calls prog 125 #[.string s] w fun e w'=>e=.returned (.bool (GL s.data.toList))/\w=w':=by
 have hz:s.data.toList.length=s.size:=(xM _).symm;have HZ:=zh hz;clear hz;go_enter func125,ntmps125;go_wp2
 go_loop [3] (fun i=>∃k:Nat,k<=s.size/\i=.int .i64 (k:Int)/\Hid (∀j (h:j<s.size),j<k->AT (s[j]))) (fun i=>s.size-(intOf i).toNat)
 case atStart=>exact⟨0,zO _,rfl,fun j _ h=>absurd h (by omega)⟩
 case round=>
  obtain⟨k,hk,rfl,hd⟩:=hrel
  by_cases hlt:k<s.size
  .have hb:Hid (¬AT s[k]->GL s.data.toList=false):=fun h=>Tf (k:=k) (by have:=HZ.o;omega) h
   by_cases h1:(s[k].toNat:Int)<48
   .go_wp2;go_ret;exact⟨Hi (hb.o (fun h=>by have:=h.1;omega)).symm,rfl⟩
   by_cases h2:(57:Int)<(s[k].toNat:Int)
   .go_wp2;go_ret;exact⟨Hi (hb.o (fun h=>by have:=h.2;omega)).symm,rfl⟩
   go_wp2;go_round
   case rel=>
    refine⟨k+1,by omega,by go_num,fun j h hj=>?_⟩
    by_cases e:j=k
    .subst e;exact⟨by omega,by omega⟩
    .exact hd.o j h (by omega)
   case measure=>simp[intOf];omega
  have hG:=zh (Q2 (l:=s.data.toList) (fun c hc=>by
   obtain⟨j,hj,rfl⟩:=zl hc;exact hd.o j (by have:=HZ.o;omega) (by have:=HZ.o;omega)))
  have hl:=HZ.o
  by_cases e1:s.size=1
  .have f1:((s.size:Int)==1)=true:=by simp[e1]
   have hv:GL s.data.toList=true:=by rw[hG.o,hl,e1];rfl
   have HV:=zh hv;clear hl hv e1;go_wp2;go_ret;exact⟨Hi HV.o.symm,rfl⟩
  have f1:((s.size:Int)==1)=false:=by rw[zJ];omega
  by_cases e0:s.size=0
  .have hv:GL s.data.toList=false:=by rw[hG.o,hl,e0];rfl
   have HV:=zh hv;have f2:decide ((1:Int)<(s.size:Int))=false:=by simp;omega
   clear hl hv e1 e0;go_wp2;go_ret;exact⟨Hi HV.o.symm,rfl⟩
  have hp:1<s.size:=by omega
  have a:0<s.size:=by omega
  have hv:GL s.data.toList=decide ((s[0].toNat:Int)≠48):=by
   rw[hG.o,hl,zD e1,zH hp,Bool.false_or,xF]
   have e:s.data.toList.head? = some s[0]:=by
    rw[vd,yR (by omega)];rfl
   rw[e]
   have key:(¬some s[0]=some (48:UInt8))<->¬((s[0].toNat:Int)=48):=by
    rw[Option.some.injEq,<-UInt8.toNat_inj];have:(48:UInt8).toNat=48:=rfl;omega
   exact decide_eq_decide.2 key
  have HV:=zh hv
  by_cases h48:(s[0].toNat:Int)=48
  .have f3:((s[0].toNat:Int)==48)=true:=by rw[yL];exact h48
   have f4:((s[0].toNat:Int) != 48)=false:=by simp[h48]
   have HW:Hid (GL s.data.toList=false):=by unfold Hid;rw[HV.o];simp[h48]
   clear hl hv e1 e0 h48;go_wp2;go_ret;exact⟨Hi HW.o.symm,rfl⟩
  have f3:((s[0].toNat:Int)==48)=false:=by rw[zJ];exact h48
  have f4:((s[0].toNat:Int) != 48)=true:=by simp[h48]
  have HW:Hid (GL s.data.toList=true):=by unfold Hid;rw[HV.o];simp[h48]
  clear hl hv e1 e0 h48;go_wp2;go_ret;exact⟨Hi HW.o.symm,rfl⟩
theorem B7(s:ByteArray)(w:World)(hs:s.size<=140737488355328):
 Calls prog 76 #[.string s] w fun e w'=>e=.returned (.bool (isN s))/\w=w':=by
 have HN:=zh (Te s)
 by_cases h:s.size<=300
 .rw[zH h,xF]at HN;have h':(s.size:Int)<=300:=by omega
  go_enter func76,ntmps76
  go_wp2_with (go_at_call 125;refine(LP s _ hs).mono ?_;rintro e w' ⟨rfl,rfl⟩)
  go_ret;exact⟨Hi HN.o.symm,rfl⟩
 rw[zD h,xw]at HN;have h':decide ((s.size:Int)<=300)=false:=by simp;omega
 go_enter func76,ntmps76;go_wp2;go_ret;exact⟨Hi HN.o.symm,rfl⟩
theorem D3(a b:Nat)(w:World)(_ha:(num a).size<=140737488355328)(_hb:(num b).size<=140737488355328):
 Calls prog 126 #[.string (num a),.string (num b)] w fun e w'=>e=.returned (.int .i64 (B0 a b))/\w=w':=by
 have ea:=BY a;have eb:=BY b
 rcases v5 (num a).size (num b).size with h|h|h
 .have d:a<b:=I8 (by omega);have HC:=zh (Cy d);clear ea eb d;go_enter func126,ntmps126;go_wp2;go_ret;exact⟨DU HC.o.symm,rfl⟩
 .have f1:decide ((num a).size<(num b).size)=false:=by simp;omega
  have f2:(((num a).size:Int)==((num b).size:Int))=true:=by simp[h]
  have s:Op.bytesLess (num a).toList (num b).toList=decide (a<b):=by
   rw[yP,yP,BB,BB,wD,Td (by omega)];simp
  have hq:((num a).toList==(num b).toList)=decide (a=b):=by
   rw[yP,yP,BB,BB,wD,yL,wO];constructor
   .intro e;have:=congrArg A0 e
    rwa [Aw,Aw]at this
   intro e;rw[e]
  rcases v5 a b with d|d|d
  .rw[zH d]at s;have HC:=zh (Cy d);clear ea eb h d hq;go_enter func126,ntmps126;go_wp2;go_ret;exact⟨DU HC.o.symm,rfl⟩
  .rw[zD (by omega)]at s;rw[zH d]at hq;have HC:Hid (B0 a b=0):=by unfold Hid;rw[d];exact JV b
   clear ea eb h d;go_enter func126,ntmps126;go_wp2;go_ret;exact⟨DU HC.o.symm,rfl⟩
  rw[zD (by omega)]at s;rw[zD (by omega)]at hq;have HC:Hid (B0 a b=1):=by unfold Hid B0;simp[d,Nat.lt_asymm d]
  clear ea eb h d;go_enter func126,ntmps126;go_wp2;go_ret;exact⟨DU HC.o.symm,rfl⟩
 have d:b<a:=I8 (by omega);have f1:decide ((num a).size<(num b).size)=false:=by simp;omega
 have f2:(((num a).size:Int)==((num b).size:Int))=false:=by rw[zJ];omega
 have hq:((num a).toList==(num b).toList)=false:=by
  rw[zJ,yP,yP];intro e;have:=congrArg List.length e;rw[BB,BB]at this;omega
 have HC:Hid (B0 a b=1):=by unfold Hid B0;simp[d,Nat.lt_asymm d]
 clear ea eb d;go_enter func126,ntmps126;go_wp2;go_ret;exact⟨DU HC.o.symm,rfl⟩
theorem Gv{l:List UInt8}(h:∀c∈l,AT c)(k:Nat):A0 (l.take k)<10^k:=by
 have h1:=Do (l:=l.take k) (fun c hc=>h c (yH hc));exact zL h1 (zW (by omega) (by simp;omega))
theorem Fe(s:ByteArray)(k:Nat)(h:k<s.size):A0 (s.data.toList.take (k+1))=A0 (s.data.toList.take k)*10+(s[k].toNat-48):=by
 rw[zS (by simpa using h),Bv];simp[A0];rfl
theorem Q3(s:ByteArray)(w:World)(hs:s.size<=18)(hd:∀c∈s.data.toList,AT c):
 Calls prog 128 #[.string s] w fun e w'=>e=.returned (.int .i64 (A0 s.data.toList:Nat))/\w=w':=by
 have HD:=zh hd;clear hd;go_enter func128,ntmps128;go_wp2
 go_loop [3,4] (fun n i=>∃k v:Nat,k<=s.size/\i=.int .i64 (k:Int)/\n=.int .i64 (v:Int)/\Hid (v=A0 (s.data.toList.take k))) (fun _ i=>s.size-(intOf i).toNat)
 case atStart=>exact⟨0,0,zO _,rfl,rfl,rfl⟩
 case round=>
  obtain⟨k,v,hk,rfl,rfl,hv⟩:=hrel
  by_cases hlt:k<s.size
  .have hb:v<100000000000000000:=by
    have h1:=Gv HD.o k;have h2:10^k<=10^17:=zW (by omega) (by omega);have:=hv.o;omega
   have a:AT s[k]:=HD.o _ (by
    have:s[k]=s.data.toList[k]'(by simpa using hlt):=rfl;rw[this];exact zQ _)
   have d:(48:Int)<=(s[k].toNat:Int):=by have:=a.1;omega
   have h:(s[k].toNat:Int)<=57:=by have:=a.2;omega
   have HS:=zh (Fe s k hlt);clear a;go_wp2;go_round
   case rel=>exact⟨k+1,v*10+(s[k].toNat-48),by omega,by go_num,by go_num,by unfold Hid;rw[HS.o,<-hv.o]⟩
   case measure=>simp[intOf];omega
  obtain rfl:k=s.size:=by omega
  have e:s.data.toList.take s.size=s.data.toList:=yK (by simp);rw[e]at hv;go_wp2;go_ret;exact⟨DU (by rw[hv.o]),rfl⟩
theorem D4(n:Nat)(w:World)(hs:(num n).size<=18):
 Calls prog 128 #[.string (num n)] w fun e w'=>e=.returned (.int .i64 (n:Nat))/\w=w':=by
 have:=Q3 (num n) w hs (by rw[BB];exact AL n)
 rwa [BB,Aw]at this
theorem Ff(s:ByteArray)(w:World)(hs:s.size<=140737488355328)(h0:0<s.size)(hd:∀c∈s.data.toList,AT c):
 Calls prog 129 #[.string s] w fun e w'=>e=.returned (.string (num (A0 s.data.toList)))/\w=w':=by
 have HD:=zh hd;have HZ:Hid (s.data.toList.length=s.size):=(xM _).symm;clear hd;go_enter func129,ntmps129;go_wp2
 go_loop [3] (fun i=>∃k:Nat,k<s.size/\i=.int .i64 (k:Int)/\Hid (∀j (h:j<s.data.toList.length),j<k->s.data.toList[j]=48)) (fun i=>s.size-(intOf i).toNat)
 case atStart=>exact⟨0,h0,rfl,fun j _ h=>absurd h (by omega)⟩
 case round=>
  obtain⟨k,hk,rfl,hz⟩:=hrel
  have a:Hid (k+1=s.size\/s[k]≠48->s.extract k s.size=num (A0 s.data.toList)):=fun h=>by
   apply JI;rw[Lib.extract_to_end,BB];have d:=HZ.o;refine U7 HD.o (i:=k) (by omega) (fun j hj=>hz.o j (by omega) hj) ?_
   rcases h with h|h
   .left;omega
   right;exact h
  by_cases he:k+1=s.size
  .have f1:decide ((k:Int)<(s.size:Int)-1)=false:=by simp;omega
   have HE:=zh he;clear he;go_wp2;go_ret;exact⟨Gu (a.o (.inl HE.o)),rfl⟩
  have hl:(k:Int)<(s.size:Int)-1:=by omega
  clear he
  by_cases h48:s[k]=48
  .have hc:(s[k].toNat:Int)=48:=by rw[h48];rfl
   have f2:((s[k].toNat:Int)==48)=true:=by rw[yL];exact hc
   have H48:=zh h48;clear hc h48;go_wp2;go_round
   case rel=>
    refine⟨k+1,by omega,by go_num,fun j h hj=>?_⟩
    by_cases e:j=k
    .subst e;exact H48.o
    .exact hz.o j h (by omega)
   case measure=>simp[intOf];omega
  have f2:((s[k].toNat:Int)==48)=false:=by
   rw[zJ];intro e;apply h48;apply UInt8.toNat_inj.1;have:(48:UInt8).toNat=48:=rfl;omega
  have H48:=zh h48;clear h48;go_wp2;go_ret;exact⟨Gu (a.o (.inr H48.o)),rfl⟩
theorem Eu(n i:Nat)(w:World)(hs:(num n).size<=140737488355328)(hi:i<=140737488355328):
 Calls prog 131 #[.string (num n),.int .i64 (i:Int)] w fun e w'=>e=.returned (.int .i64 ((n/10^i%10:Nat):Int))/\w=w':=by
 have hd:Hid (n/10^i%10=dgt (Lib.decDigits n) i):=(Pf n i).symm;have hz:Hid ((num n).size=(Lib.decDigits n).length):=BY n;generalize hv:n/10^i%10=v at hd
 by_cases h:i<(num n).size
 .have hj:((num n).size:Int)-1-(i:Int)=(((num n).size-1-i:Nat):Int):=by omega
  have s:(num n).size-1-i<(num n).size:=by omega
  have d:AT ((num n)[(num n).size-1-i]):=AL n _ (by
   have:(num n)[(num n).size-1-i]=(num n).data.toList[(num n).size-1-i]'(by simpa using s):=rfl;rw[this];exact zQ _)
  have a:Hid (v=(num n)[(num n).size-1-i].toNat-48):=by
   unfold Hid;rw[hd.o,dgt,dif_pos (by have:=hz.o;omega)]
   congr 2
  have aa:(48:Int)<=((num n)[(num n).size-1-i].toNat:Int):=by have:=d.1;omega
  have ab:((num n)[(num n).size-1-i].toNat:Int)<=57:=by have:=d.2;omega
  clear d hv;go_enter func131,ntmps131;go_wp2;go_ret;exact⟨DU (by rw[a.o];omega),rfl⟩
 have a:Hid (v=0):=by
  unfold Hid;rw[hd.o,dgt,dif_neg (by have:=hz.o;omega)]
 clear hv;go_enter func131,ntmps131;go_wp2;go_ret;exact⟨DU (by rw[a.o];rfl),rfl⟩
theorem Fg(k:Nat)(w:World)(_hs:(num k).size<=140737488355328):
 Calls prog 79 #[.string (num k)] w fun e w'=>e=.returned (.tuple #[.string (EQ k),.int .i64 (ER k)])/\w=w':=by
 have hz:=BY k
 have h:300<(num k).size<->¬k<Lim:=by
  have e:(Lib.decDigits k).length<=300<->k<Lim:=by
   have:=Bm k mxd (by rw[Dk];omega);rw[<-Dk];exact this
  omega
 have HG:Hid ((k<Lim->EQ k=num k/\ER k=0)/\(¬k<Lim->EQ k=⟨#[]⟩/\ER k=2)):=by
  unfold Hid EQ ER;exact⟨fun h=>by rw[zE h,zE h];exact⟨rfl,rfl⟩,fun h=>by rw[zC h,zC h];exact⟨rfl,rfl⟩⟩
 by_cases hk:k<Lim
 .have f:decide ((300:Int)<((num k).size:Int))=false:=by simp;have:=(not_congr h).2 (by simpa using hk);omega
  have HK:=HG.o.1 hk;replace HK:=zh HK;clear hz h hk HG;go_enter func79,ntmps79;go_wp2;go_ret2;exact⟨by rw[HK.o.1,HK.o.2];rfl,rfl⟩
 have f:(300:Int)<((num k).size:Int):=by have:=h.2 hk;omega
 have HK:=HG.o.2 hk;replace HK:=zh HK;clear hz h hk HG;go_enter func79,ntmps79;go_wp2;go_ret2;exact⟨by rw[HK.o.1,HK.o.2];rfl,rfl⟩
theorem Hc:(prog.info? 3).map (fun i=>(i.zero,i.size,i.bytes))=some (some (.int .i64 0),1,8):=by kernel_rfl
def Di(ds:List Nat):List Value:=ds.map fun d:Nat=>Value.int .i64 (d:Int)
theorem I9(ds:List Nat)(d:Nat):Di ds++[Value.int .i64 (d:Int)]=Di (ds++[d]):=by simp[Di]
def OwnI(B:Nat)(w:World)(v:Value)(ds:List Nat):Prop:=w.ownsRow B 3 1 v ds.length (Di ds)
def NP(w:World)(v:Value)(ds:List Nat):Prop :=
 ∃g off cap,v=.slice (some ⟨g,off,none⟩) ds.length cap/\g<w.heap.size/\∀i,i<ds.length->w.cell? ⟨g,off+i,none⟩=some (.int .i64 (lim ds i))
theorem OwnI.at{B:Nat}{w:World}{v:Value}{ds:List Nat}(h:OwnI B w v ds)(h0:ds≠[]):NP w v ds:=by
 rcases id h.2 with⟨rfl,hx⟩|⟨g,cap,cur,rfl,hg,hh,hn,a,d,ht⟩
 .exact absurd (List.length_eq_zero_iff.1 hx) h0
 refine⟨g,0,cap,rfl,(Array.getElem?_eq_some_iff.1 hh).1,fun i hi=>?_⟩;rw[zm,World.ownsRow.cellAt h i (by omega)];simp[Di,lim,hi]
def RfRow(w:World)(g:Nat)(bs:List UInt8):Prop:=w.heap[g]? = some (.cells (bs.map fun c:UInt8=>Value.int .u8 (c.toNat:Int)).toArray 5 (0,0))
theorem RfRow.frozen{w:World}{g:Nat}{bs:List UInt8}(h:RfRow w g bs)(i:Nat):w.frozen? ⟨g,i,none⟩=false:=by
 unfold RfRow at h;simp[World.frozen?,h]
theorem RfRow.cell{w:World}{g:Nat}{bs:List UInt8}(h:RfRow w g bs){i:Nat}(hi:i<bs.length):w.cell? ⟨g,i,none⟩=some (.int .u8 (bs[i].toNat:Int)):=by
 unfold RfRow at h;simp only[World.cell?,h];simp[hi]
theorem RfRow.set{w:World}{g:Nat}{bs:List UInt8}(h:RfRow w g bs)(i:Nat)(c:UInt8):RfRow (w.setCell ⟨g,i,none⟩ (.int .u8 (c.toNat:Int))) g (bs.set i c):=by
 unfold RfRow at h ⊢;simp only[World.setCell,yl,h];simp[List.map_set]
theorem Q4(n:Nat):madeCells #[.int .u8 0] n=((List.replicate n (0:UInt8)).map fun c:UInt8=>Value.int .u8 (c.toNat:Int)).toArray:=by
 unfold madeCells;apply Array.ext
 .simp
 intro i h1 h2;have e:i%1=0:=xW i;simp[e]
theorem RfRow.made0(w:World)(n:Nat):RfRow (w.alloc (.cells (madeCells #[.int .u8 0] n) 5)) w.heap.size (List.replicate n 0):=by
 unfold RfRow;rw[zo,Q4]
theorem RfRow.text{w:World}{g:Nat}{bs:List UInt8}(h:RfRow w g bs):(convert 145 9 (.slice (some ⟨g,0,none⟩) bs.length bs.length)).run prog w=.ok (.string ⟨bs.toArray⟩) w:=by
 have:=run_convert_bytes_arg (P:=prog) w 145 5 underlying145 underlying5 g 0 bs.length bs.length (bs.map fun c=>(c.toNat:Int)) (by simp)
  (fun i hi=>by rw[zm,h.cell hi];simp[hi]) 9 underlying9
 rw[this]
 have e:(bs.map ((fun n:Int=>UInt8.ofNat n.toNat) ∘ fun c:UInt8=>(c.toNat:Int)))=bs:=by
  conv=>rhs;rw[<-List.map_id bs]
  exact yX fun c _=>by simp
 simp only[strOfNums,xC,e]
theorem IA(n:Nat)(hn:n<=1000000)(w:World):
 (Instr.makeSlice 145 (.int .i64 (n:Int)) (.int .i64 (n:Int))).run prog w =
   .ok (.slice (some ⟨w.heap.size,0,none⟩) n n) (w.alloc (.cells (madeCells #[.int .u8 0] n) 5)) :=
 xG 145 5 (.int .u8 0) 1 underlying145 LN rfl .i64 .i64 n (by omega) (by omega) w
def Fh(ds:List Nat)(k:Nat):List UInt8:=List.replicate (ds.length-k) 0++Cq (ds.take k)
theorem Q5(ds:List Nat)(k:Nat)(h:k<=ds.length):(Fh ds k).length=ds.length:=by simp[Fh,DK];omega
theorem NQ(ds:List Nat):Fh ds 0=List.replicate ds.length 0:=by simp[Fh,Cq]
theorem Q6(ds:List Nat):Fh ds ds.length=Cq ds:=by simp[Fh]
theorem LQ(ds:List Nat)(d:Nat):Cq (ds++[d])=UInt8.ofNat (48+d)::Cq ds:=by simp[Cq]
theorem NR(ds:List Nat)(k:Nat)(h:k<ds.length):(Fh ds k).set (ds.length-1-k) (UInt8.ofNat (48+lim ds k))=Fh ds (k+1):=by
 unfold Fh;rw[zS h,LQ,DY _ _ h];have e:ds.length-k=(ds.length-(k+1))+1:=by omega
 rw[e,List.replicate_succ',xS];have e2:ds.length-1-k=(List.replicate (ds.length-(k+1)) (0:UInt8)).length:=by simp;omega
 rw[e2,wX _ _ (zB _)];simp
def U9(w:World)(ds:List Nat)(k:Nat)(wr:World):Prop:=RfRow wr w.heap.size (Fh ds k)/\Below w.heap.size w wr
theorem Fi(w:World)(v:Value)(ds:List Nat)(h:NP w v ds)(h0:0<ds.length)(hl:ds.length<=100000)(hd:∀d∈ds,d<10):
 Calls prog 132 #[v] w fun e w'=>e=.returned (.string (num (dv ds)))/\Below w.heap.size w w':=by
 obtain⟨g,off,cap,rfl,hg,hc⟩:=h;have a:=IA ds.length (by omega);have HD:=zh hd;have HC:=zh hc;have HV:Hid (A0 (Cq ds)=dv ds):=Hh hd;clear hd hc;go_enter func132,ntmps132;go_wp2
 go_loopw [4] (fun i wr=>∃k:Nat,k<=ds.length/\i=.int .i64 (k:Int)/\U9 w ds k wr) (fun i _=>ds.length-(intOf i).toNat)
 case atStart=>exact⟨0,zO _,rfl,by rw[NQ];exact RfRow.made0 _ _,(zI _ _).alloc (zB _) _⟩
 case round=>
  obtain⟨k,hk,rfl,z1,z2⟩:=hrel;have af:=z2.size
  by_cases hlt:k<ds.length
  .have ab:=(z2.cell (p:=⟨g,off+k,none⟩) hg).trans (HC.o k hlt);have aa:lim ds k<10:=by rw[DY _ _ hlt];exact HD.o _ (zQ _)
   have hj:(ds.length:Int)-1-(k:Int)=((ds.length-1-k:Nat):Int):=by omega
   have ae:ds.length-1-k<ds.length:=by omega
   have s:=z1.cell (i:=ds.length-1-k) (by rw[Q5 _ _ hk];omega);have ad:=z1.frozen (ds.length-1-k)
   have HS:Hid (RfRow (wr.setCell ⟨w.heap.size,ds.length-1-k,none⟩ (.int .u8 (48+(lim ds k:Int)))) w.heap.size (Fh ds (k+1))):=by
    have:=z1.set (ds.length-1-k) (UInt8.ofNat (48+lim ds k));rw[NR _ _ hlt,Bl _ aa]at this;have e:((48+lim ds k:Nat):Int)=48+(lim ds k:Int):=by omega
    rw[e]at this;exact this
   replace z2:=zh z2;clear z1 a;go_wp2
   go_roundw
   case rel=>exact⟨k+1,by omega,by go_num,HS.o,z2.o.setCell (zB _) _⟩
   case measure=>simp[intOf];omega
  obtain rfl:k=ds.length:=by omega
  rw[Q6]at z1;have ht:=z1.text;rw[DK]at ht;replace z2:=zh z2;clear z1 a
  go_wp2_with fail
  refine(Ff ⟨(Cq ds).toArray⟩ _ (by have:=DK ds;simp[ByteArray.size];omega) (by have:=DK ds;simp[ByteArray.size];omega) (by simpa using I7 HD.o)).mono ?_;rintro e w' ⟨rfl,rfl⟩;go_wp2;go_ret;exact⟨Gu (by rw[<-HV.o]),z2.o⟩
theorem WG{ds:List Nat}(h:∀d∈ds,d<10):dv ds<10^ds.length:=by
 rw[<-Hh h];have:=Do (I7 h)
 rwa [DK]at this
theorem BF(n:Nat):n<10^(num n).size:=by
 rw[BY];exact(Bm n _ (List.length_pos_iff.2 (AX n))).1 (zB _)
theorem Gw(n:Nat):0<(num n).size:=by rw[BY];exact List.length_pos_iff.2 (AX n)
theorem Ev{a b:Nat}(h:a<=b):(num a).size<=(num b).size:=by
 have h1:=BF b;have h2:=Gw b;rw[BY a];exact AV (yM h h1) h2
theorem LR{a k:Nat}(h:(num a).size<=k):a%10^k=a:=U8 (by rw[BY]at h;exact h)
theorem LS{ds:List Nat}{d:Nat}(h:∀x∈ds,x<10)(hd:d<10):∀x∈ds++[d],x<10:=by
 intro x hx
 rcases List.mem_append.1 hx with h1|h1
 .exact h x h1
 simp at h1;omega
def Ph(w:World)(a b:Nat)(k c:Nat)(v:Value)(wr:World):Prop :=
 ∃ds,ds.length=k/\(∀d∈ds,d<10)/\OwnI w.heap.size wr v ds/\dv ds+10^k*c=a%10^k+b%10^k/\Below w.heap.size w wr
theorem Tg{D a b M c:Nat}(h:D+10^(M+1)*c=a%10^(M+1)+b%10^(M+1))(ha:a<10^M)(hb:b<10^M):D=a+b:=by
 have e:10^(M+1)=10^M*10:=zy ..;rw[xZ (by omega),xZ (by omega)]at h
 rcases yj c with h0|h0
 .subst h0;omega
 have:10^(M+1)*1<=10^(M+1)*c:=yT _ h0;omega
theorem Th(a b:Nat)(w:World)(ha:(num a).size<=10000)(hb:(num b).size<=10000)(s:¬((num a).size<=18/\(num b).size<=18)):
 Calls prog 141 #[.string (num a),.string (num b)] w fun e w'=>e=.returned (.string (num (a+b)))/\Below w.heap.size w w':=by
 obtain⟨i0,hi,af,ag,ah⟩:=vK Hc;obtain⟨M,hM⟩:∃M,M=max (num a).size (num b).size:=⟨_,rfl⟩;have al:max ((num a).size:Int) ((num b).size:Int)=(M:Int):=by omega
 have aj:M<=10000:=by omega
 have HA:Hid (a<10^M/\b<10^M):=⟨zL (BF a) (zW (by omega) (by omega)),zL (BF b) (zW (by omega) (by omega))⟩;have ad:18<(num a).size\/((num a).size<=18/\18<(num b).size):=by omega
 clear hM s
 rcases ad with ab|⟨ab,ai⟩
 all_goals
  go_enter func141,ntmps141;go_wp2
  go_loopw [5,6,7] (fun v c i wr=>∃k cc:Nat,k<=M+1/\i=.int .i64 (k:Int)/\c=.int .i64 (cc:Int)/\cc<=1/\Ph w a b k cc v wr) (fun _ _ i _=>M+1-(intOf i).toNat)
  case atStart=>exact⟨0,0,by omega,rfl,rfl,by omega,[],rfl,fun _ h=>absurd h (by simp),zq _ _ _ _,by simp[dv,Nat.mod_one],zI _ _⟩
  case round=>
   obtain⟨k,cc,hk,rfl,rfl,ak,ds,z1,z2,z3,z4,z5⟩:=hrel;have ae:=z5.size
   by_cases hlt:k<M+1
   .obtain ⟨x,hx⟩:∃x,x=a/10^k%10:=⟨_,rfl⟩;obtain⟨y,hy⟩:∃y,y=b/10^k%10:=⟨_,rfl⟩;have cx:=Eu a k wr (by omega) (by omega);have cy:=Eu b k wr (by omega) (by omega);have hr:=NM z4;rw[<-hx]at cx hr;rw[<-hy]at cy hr;have am:x<10:=by omega
    have an:y<10:=by omega
    have e1:(((x+y+cc)%10:Nat):Int)=((x:Int)+(y:Int)+(cc:Int))%10:=by omega
    have HS:Hid (∀w2 v2,w2.ownsRow w.heap.size 3 1 v2 (ds.length+1) (Di ds++[Value.int .i64 (((x:Int)+(y:Int)+(cc:Int))%10)])->Below w.heap.size w w2->Ph w a b (k+1) ((x+y+cc)/10) v2 w2):=fun w2 v2 ho hb=>by
     refine⟨ds++[(x+y+cc)%10],by simp[z1],LS z2 (by omega),?_,?_,hb⟩
     .unfold OwnI;rw[<-I9,e1,zY];exact ho
     rw[Pg,z1];exact hr
    have HO:Hid (wr.ownsRow w.heap.size 3 1 u5 ds.length (Di ds)):=z3;have HB:=zh z5;have HL:Hid (ds.length=k):=z1;clear z1 z2 z3 z4 z5 hx hy hr e1
    go_wp2_with fail
    refine cx.mono ?_;rintro e w1 ⟨rfl,rfl⟩
    go_wp2_with fail
    refine cy.mono ?_;rintro e w1 ⟨rfl,rfl⟩;clear cx cy
    go_wp2_with (at_builtin;refine xT _ rfl _ _ 26 rfl w.heap.size 3 i0 (.int .i64 0) 1 8 underlying26 hi af ag ah rfl (by decide) u5 ds.length (Di ds) rfl (HO.o.alloc _) ⟨wr.heap.size,0,none⟩ 1 1 [.int .i64 (((x:Int)+(y:Int)+(cc:Int))%10)] rfl rfl (Cx _ _ _) (Cc _ _) (by have:=HL.o;unfold maxLen;omega) (by have:=HL.o;omega) (by simp;omega) ?_;intro v2 w2 d aa _)
    refine⟨⟨k+1,(x+y+cc)/10,by omega,by go_num,by go_num,by omega,HS.o w2 v2 d ((HB.o.alloc (by omega) _).grown aa (by simp;omega) (fun b e=>(HO.o.lt b e).1))⟩,by simp only[intOf];omega⟩
   obtain rfl:k=M+1:=by omega
   have hv:=Tg z4 HA.o.1 HA.o.2;have ct:=Fi wr u5 ds (z3.at (by intro h;rw[h]at z1;simp at z1)) (by omega) (by omega) z2;rw[hv]at ct;replace z5:=zh z5;clear z1 z2 z3 z4 hv
   go_wp2_with fail
   refine ct.q fun w1 hb=>?_;have hB:=zh (z5.o.trans (hb.mono ae));clear hb ct;go_wp2;go_ret;exact⟨rfl,hB.o⟩
theorem Ti{a:Nat}(h:(num a).size<=18):a<1000000000000000000:=by
 have h1:=BF a;have h2:10^(num a).size<=10^18:=zW (by omega) h;omega
theorem WH{a:Nat}(h:(num a).size<=9):a<1000000000:=by
 have h1:=BF a;have h2:10^(num a).size<=10^9:=zW (by omega) h;omega
theorem NS(a b:Nat)(w:World)(ha:(num a).size<=18)(hb:(num b).size<=18):
 Calls prog 141 #[.string (num a),.string (num b)] w fun e w'=>e=.returned (.string (num (a+b)))/\w=w':=by
 have h1:=Ti ha;have h2:=Ti hb;have c1:=D4 a w ha;have c2:=D4 b w hb;have c3:=DV (a+b) w (by omega);rw[yh]at c3;go_enter func141,ntmps141
 go_wp2_with fail
 refine c1.mono ?_;rintro e w1 ⟨rfl,rfl⟩
 go_wp2_with fail
 refine c2.mono ?_;rintro e w1 ⟨rfl,rfl⟩
 go_wp2_with fail
 refine c3.mono ?_;rintro e w1 ⟨rfl,rfl⟩;go_wp2;go_ret;exact⟨rfl,rfl⟩
theorem Tj(a b:Nat)(w:World)(ha:(num a).size<=10000)(hb:(num b).size<=10000):
 Calls prog 141 #[.string (num a),.string (num b)] w fun e w'=>e=.returned (.string (num (a+b)))/\Below w.heap.size w w':=by
 by_cases h:(num a).size<=18/\(num b).size<=18
 .refine(NS a b w h.1 h.2).mono ?_;rintro e w' ⟨rfl,rfl⟩;exact⟨rfl,zI _ _⟩
 exact Th a b w ha hb h
def LT(w:World)(a b:Nat)(k c:Nat)(v:Value)(wr:World):Prop :=
 ∃ds,ds.length=k/\(∀d∈ds,d<10)/\OwnI w.heap.size wr v ds/\dv ds+b%10^k=a%10^k+10^k*c/\Below w.heap.size w wr
theorem Q7{D a b k c:Nat}(h:D+b%10^k=a%10^k+10^k*c)(ha:a<10^k)(hb:b<=a)(hD:D<10^k):D=a-b:=by
 rw[xZ (by omega),xZ ha]at h
 rcases yj c with h0|h0
 .subst h0;omega
 have:10^k*1<=10^k*c:=yT _ h0;omega
theorem JJ(a b:Nat)(w:World)(ha:(num a).size<=10000)(ab:b<=a):
 Calls prog 130 #[.string (num a),.string (num b)] w fun e w'=>e=.returned (.string (num (a-b)))/\Below w.heap.size w w':=by
 obtain⟨i0,hi,ad,ae,af⟩:=vK Hc;have hb:=Ev ab;have ai:=Gw a;have HA:=zh (BF a);replace ab:=zh ab;go_enter func130,ntmps130;go_wp2
 go_loopw [5,6,7] (fun v c i wr=>∃k cc:Nat,k<=(num a).size/\i=.int .i64 (k:Int)/\c=.int .i64 (cc:Int)/\cc<=1/\LT w a b k cc v wr) (fun _ _ i _=>(num a).size-(intOf i).toNat)
 case atStart=>exact⟨0,0,by omega,rfl,rfl,by omega,[],rfl,fun _ h=>absurd h (by simp),zq _ _ _ _,by simp[dv,Nat.mod_one],zI _ _⟩
 case round=>
  obtain⟨k,cc,hk,rfl,rfl,aj,ds,z1,z2,z3,z4,z5⟩:=hrel;have ah:=z5.size
  by_cases hlt:k<(num a).size
  .obtain ⟨x,hx⟩:∃x,x=a/10^k%10:=⟨_,rfl⟩;obtain⟨y,hy⟩:∃y,y=b/10^k%10:=⟨_,rfl⟩;have cx:=Eu a k wr (by omega) (by omega);have cy:=Eu b k wr (by omega) (by omega);rw[<-hx]at cx;rw[<-hy]at cy;have ak:x<10:=by omega
   have al:y<10:=by omega
   have HS:Hid (∀(z c':Nat) (d:Int) w2 v2,z<10->c'<=1->z+y+cc=x+10*c'->d=(z:Int)->w2.ownsRow w.heap.size 3 1 v2 (ds.length+1) (Di ds++[Value.int .i64 d])->Below w.heap.size w w2->LT w a b (k+1) c' v2 w2):=fun z c' d w2 v2 hz hc he ag ho hb=>by
    subst ag;refine⟨ds++[z],by simp[z1],LS z2 hz,?_,?_,hb⟩
    .unfold OwnI;rw[<-I9,zY];exact ho
    rw[Pg,z1];exact LO z4 (by rw[<-hx,<-hy];exact he)
   have HO:Hid (wr.ownsRow w.heap.size 3 1 u5 ds.length (Di ds)):=z3;have HB:=zh z5;have HL:Hid (ds.length=k):=z1;clear z1 z2 z3 z4 z5 hx hy
   by_cases hneg:x<y+cc
   all_goals
    go_wp2_with fail
    refine cx.mono ?_;rintro e w1 ⟨rfl,rfl⟩
    go_wp2_with fail
    refine cy.mono ?_;rintro e w1 ⟨rfl,rfl⟩;clear cx cy
   .go_wp2_with (at_builtin;refine xT _ rfl _ _ 26 rfl w.heap.size 3 i0 (.int .i64 0) 1 8 underlying26 hi ad ae af rfl (by decide) u5 ds.length (Di ds) rfl (HO.o.alloc _) ⟨wr.heap.size,0,none⟩ 1 1 [.int .i64 ((x:Int)-(y:Int)-(cc:Int)+10)] rfl rfl (Cx _ _ _) (Cc _ _) (by have:=HL.o;unfold maxLen;omega) (by have:=HL.o;omega) (by simp;omega) ?_;intro v2 w2 s aa _)
    refine⟨⟨k+1,1,by omega,by go_num,by go_num,by omega,HS.o (x+10-y-cc) 1 _ w2 v2 (by omega) (by omega) (by omega) (by omega) s ((HB.o.alloc (by omega) _).grown aa (by simp;omega) (fun b e=>(HO.o.lt b e).1))⟩,by simp only[intOf];omega⟩
   go_wp2_with (at_builtin;refine xT _ rfl _ _ 26 rfl w.heap.size 3 i0 (.int .i64 0) 1 8 underlying26 hi ad ae af rfl (by decide) u5 ds.length (Di ds) rfl (HO.o.alloc _) ⟨wr.heap.size,0,none⟩ 1 1 [.int .i64 ((x:Int)-(y:Int)-(cc:Int))] rfl rfl (Cx _ _ _) (Cc _ _) (by have:=HL.o;unfold maxLen;omega) (by have:=HL.o;omega) (by simp;omega) ?_;intro v2 w2 s aa _)
   refine⟨⟨k+1,0,by omega,by go_num,by go_num,by omega,HS.o (x-y-cc) 0 _ w2 v2 (by omega) (by omega) (by omega) (by omega) s ((HB.o.alloc (by omega) _).grown aa (by simp;omega) (fun b e=>(HO.o.lt b e).1))⟩,by simp only[intOf];omega⟩
  obtain rfl:k=(num a).size:=by omega
  have hD:=WG z2;rw[z1]at hD;have hv:=Q7 z4 HA.o ab.o hD;have ct:=Fi wr u5 ds (z3.at (by intro h;rw[h]at z1;simp at z1;omega)) (by omega) (by omega) z2;rw[hv]at ct;replace z5:=zh z5;clear z1 z2 z3 z4 hv hD
  go_wp2_with fail
  refine ct.q fun w1 hb=>?_;have hB:=zh (z5.o.trans (hb.mono ah));clear hb ct;go_wp2;go_ret;exact⟨rfl,hB.o⟩
def RowI(w:World)(g:Nat)(zs:List Nat):Prop:=w.heap[g]? = some (.cells (Di zs).toArray 3 (0,0))
theorem RowI.lt{w:World}{g:Nat}{zs:List Nat}(h:RowI w g zs):g<w.heap.size:=(Array.getElem?_eq_some_iff.1 h).1
theorem RowI.frozen{w:World}{g:Nat}{zs:List Nat}(h:RowI w g zs)(i:Nat):w.frozen? ⟨g,i,none⟩=false:=by
 unfold RowI at h;simp[World.frozen?,h]
theorem RowI.cell{w:World}{g:Nat}{zs:List Nat}(h:RowI w g zs){i:Nat}(hi:i<zs.length):w.cell? ⟨g,i,none⟩=some (.int .i64 (lim zs i)):=by
 unfold RowI at h;simp only[World.cell?,h];simp[Di,lim,hi]
theorem RowI.set{w:World}{g:Nat}{zs:List Nat}(h:RowI w g zs)(i:Nat)(y:Nat):RowI (w.setCell ⟨g,i,none⟩ (.int .i64 (y:Int))) g (zs.set i y):=by
 unfold RowI at h ⊢;simp only[World.setCell,yl,h];simp[Di,List.map_set]
theorem Q8(n:Nat):madeCells #[.int .i64 0] n=(Di (List.replicate n 0)).toArray:=by
 unfold madeCells Di;apply Array.ext
 .simp
 intro i h1 h2;have e:i%1=0:=xW i;simp[e]
theorem RowI.made0(w:World)(n:Nat):RowI (w.alloc (.cells (madeCells #[.int .i64 0] n) 3)) w.heap.size (List.replicate n 0):=by
 unfold RowI;rw[zo,Q8]
theorem RowI.at{w:World}{g:Nat}{zs:List Nat}(h:RowI w g zs):NP w (.slice (some ⟨g,0,none⟩) zs.length zs.length) zs :=
 ⟨g,0,zs.length,rfl,h.lt,fun i hi=>by rw[zm];exact h.cell hi⟩
theorem IS(n:Nat)(hn:n<=1000000)(w:World):
 (Instr.makeSlice 26 (.int .i64 (n:Int)) (.int .i64 (n:Int))).run prog w =
   .ok (.slice (some ⟨w.heap.size,0,none⟩) n n) (w.alloc (.cells (madeCells #[.int .i64 0] n) 3)) :=
 xG 26 3 (.int .i64 0) 8 underlying26 Hc rfl .i64 .i64 n (by omega) (by omega) w
theorem Hj(n i:Nat)(w:World)(hs:(num n).size<=140737488355328)(hi:i<=140737488355328):
 Calls prog 131 #[.string (num n),.int .i64 (i:Int)] w fun e w'=>e=.returned (.int .i64 ((n/10^i%10:Nat):Int))/\w'=w :=
 (Eu n i w hs hi).mono fun _ _ h=>⟨h.1,h.2.symm⟩
def TOut(w:World)(a b L g i:Nat)(wr:World):Prop :=
 ∃zs,zs.length=L/\RowI wr g zs/\(∀p,lim zs p<=81*i)/\dv zs=(a%10^i)*b/\Below w.heap.size w wr
def TIn(w:World)(a b L g i j:Nat)(wr:World):Prop :=
 ∃zs,zs.length=L/\RowI wr g zs/\(∀p,lim zs p<=81*(i+1))/\(∀p,i+j<=p->lim zs p<=81*i)/\dv zs=(a%10^i)*b+10^i*((a/10^i%10)*(b%10^j))/\Below w.heap.size w wr
theorem TOut.start{w wr:World}{a b L g i:Nat}(h:TOut w a b L g i wr):TIn w a b L g i 0 wr:=by
 obtain⟨zs,h1,h2,h3,h4,h5⟩:=h;exact⟨zs,h1,h2,fun p=>by have:=h3 p;omega,fun p _=>h3 p,by simp[h4,Nat.mod_one],h5⟩
theorem TIn.done{w wr:World}{a b L g i:Nat}(h:TIn w a b L g i (num b).size wr):TOut w a b L g (i+1) wr:=by
 obtain⟨zs,h1,h2,h3,h4,h5,h6⟩:=h;refine⟨zs,h1,h2,h3,?_,h6⟩;rw[h5,LR (zB _),Cp,yE,zz]
theorem TIn.at{w wr:World}{a b L g i j:Nat}(h:TIn w a b L g i j wr)(hl:i+j<L):
 ∃z:Nat,z<=81*i/\wr.cell? ⟨g,i+j,none⟩=some (.int .i64 (z:Int))/\wr.frozen? ⟨g,i+j,none⟩=false:=by
 obtain⟨zs,h1,h2,h3,h4,h5,h6⟩:=h;exact⟨lim zs (i+j),h4 _ (zB _),h2.cell (by omega),h2.frozen _⟩
theorem TIn.step{w wr:World}{a b L g i j:Nat}(h:TIn w a b L g i j wr)(hl:i+j<L)(hg:w.heap.size<=g){z x y:Nat}{d:Int}(hz:wr.cell? ⟨g,i+j,none⟩=some (.int .i64 (z:Int)))
 (hx:x=a/10^i%10)(hy:y=b/10^j%10)(hd:d=((z+x*y:Nat):Int)):TIn w a b L g i (j+1) (wr.drew.setCell ⟨g,i+j,none⟩ (.int .i64 d)):=by
 subst hd;obtain⟨zs,h1,h2,h3,h4,h5,h6⟩:=h;have hc:=h2.cell (i:=i+j) (by omega);rw[hz]at hc;have aa:z=lim zs (i+j):=by simp at hc;omega
 have ab:x*y<=9*9:=xk (by omega) (by omega);have ad:=h4 (i+j) (zB _);have s:RowI wr.drew g zs:=h2;refine⟨zs.set (i+j) (z+x*y),by simpa using h1,s.set _ _,fun p=>?_,fun p hp=>?_,?_,h6.drew.setCell hg _⟩
 .by_cases e:p=i+j
  .subst e;rw[Hv _ _ _ (by omega)];omega
  rw[B9 _ _ _ _ e];exact h3 p
 .rw[B9 _ _ _ _ (by omega)];exact h4 p (by omega)
 have hs:=K0 zs (i+j) (z+x*y) (by omega);rw[<-aa,yQ]at hs;rw[Cp b j,<-hy,<-hx,yQ,yQ];have e:10^(i+j)*(x*y)=10^i*(x*(10^j*y)):=by rw[xf,zz,Nat.mul_left_comm (10^j)]
 rw[<-hx]at h5;omega
def TCar(w:World)(a b L g i:Nat)(wr:World):Prop :=
 ∃zs,zs.length=L/\RowI wr g zs/\(∀p,p<i->lim zs p<10)/\lim zs i<=900000/\(∀p,i<p->lim zs p<=810000)/\dv zs=a*b/\Below w.heap.size w wr
theorem TOut.car{w wr:World}{a b L g:Nat}(h:TOut w a b L g (num a).size wr)(ha:(num a).size<=10000):TCar w a b L g 0 wr:=by
 obtain⟨zs,h1,h2,h3,h4,h5⟩:=h;exact⟨zs,h1,h2,fun p hp=>absurd hp (by omega),by have:=h3 0;omega,fun p _=>by have:=h3 p;omega,by rw[h4,LR (zB _)],h5⟩
theorem TCar.at{w wr:World}{a b L g i:Nat}(h:TCar w a b L g i wr)(hl:i+1<L):
 ∃z y:Nat,z<=900000/\y<=810000/\wr.cell? ⟨g,i,none⟩=some (.int .i64 (z:Int))/\wr.cell? ⟨g,i+1,none⟩=some (.int .i64 (y:Int))/\wr.frozen? ⟨g,i,none⟩=false/\wr.frozen? ⟨g,i+1,none⟩=false:=by
 obtain⟨zs,h1,h2,h3,h4,h5,h6,h7⟩:=h;exact⟨lim zs i,lim zs (i+1),h4,h5 _ (by omega),h2.cell (by omega),h2.cell (by omega),h2.frozen _,h2.frozen _⟩
theorem TCar.step{w wr:World}{a b L g i:Nat}(h:TCar w a b L g i wr)(hl:i+1<L)(hg:w.heap.size<=g){z y:Nat}{d1 d2:Int}(hz:wr.cell? ⟨g,i,none⟩=some (.int .i64 (z:Int)))(hy:wr.cell? ⟨g,i+1,none⟩=some (.int .i64 (y:Int)))
 (e1:d1=((y+z/10:Nat):Int))(e2:d2=((z%10:Nat):Int)):TCar w a b L g (i+1) ((wr.drew.setCell ⟨g,i+1,none⟩ (.int .i64 d1)).setCell ⟨g,i,none⟩ (.int .i64 d2)):=by
 subst e1 e2;obtain⟨zs,h1,h2,h3,h4,h5,h6,h7⟩:=h;have hc:=h2.cell (i:=i) (by omega);rw[hz]at hc;have ab:z=lim zs i:=by simp at hc;omega
 have d:=h2.cell (i:=i+1) (by omega);rw[hy]at d;have aa:y=lim zs (i+1):=by simp at d;omega
 have s:RowI wr.drew g zs:=h2;have hb:=h5 (i+1) (by omega);refine⟨(zs.set (i+1) (y+z/10)).set i (z%10),by simpa using h1,(s.set _ _).set _ _,fun p hp=>?_,?_,fun p hp=>?_,?_,(h7.drew.setCell hg _).setCell hg _⟩
 .by_cases e:p=i
  .subst e;rw[Hv _ _ _ (by simp;omega)];omega
  rw[B9 _ _ _ _ e,B9 _ _ _ _ (by omega)];exact h3 p (by omega)
 .rw[B9 _ _ _ _ (by omega),Hv _ _ _ (by omega)];omega
 .rw[B9 _ _ _ _ (by omega),B9 _ _ _ _ (by omega)];exact h5 p (by omega)
 have s1:=K0 zs (i+1) (y+z/10) (by omega);have s2:=K0 (zs.set (i+1) (y+z/10)) i (z%10) (by simp;omega);rw[B9 _ _ _ _ (by omega),<-ab]at s2;rw[<-aa,zy]at s1;rw[<-h6];generalize 10^i=P at s1 s2;have e3:P*z=P*(z%10)+P*10*(z/10):=by rw[zz,<-yQ,Nat.mod_add_div]
 rw[yQ]at s1;omega
theorem TCar.end{w wr:World}{a b L g:Nat}(h:TCar w a b (L+1) g L wr)(hL:a*b<10^L):∃zs,zs.length=L+1/\RowI wr g zs/\(∀d∈zs,d<10)/\dv zs=a*b/\Below w.heap.size w wr:=by
 obtain⟨zs,h1,h2,h3,h4,h5,h6,h7⟩:=h;refine⟨zs,h1,h2,fun d hd=>?_,h6,h7⟩;obtain⟨p,hp,rfl⟩:=zl hd;rw[<-DY _ _ hp]
 by_cases e:p<L
 .exact h3 p e
 obtain rfl:p=L:=by omega
 have h8:=WF zs p hp
 rcases yj (lim zs p) with h0|h0
 .omega
 have:10^p*1<=10^p*lim zs p:=yT _ h0;omega
theorem LU(a b:Nat)(w:World)(ha:(num a).size<=9)(hb:(num b).size<=9):
 Calls prog 80 #[.string (num a),.string (num b)] w fun e w'=>e=.returned (.string (num (a*b)))/\w=w':=by
 have h1:=WH ha;have h2:=WH hb;have hp:a*b<=999999999*999999999:=xk (by omega) (by omega);have c1:=D4 a w (by omega);have c2:=D4 b w (by omega);have c3:=DV (a*b) w (by omega);have e:((a*b:Nat):Int)=(a:Int)*(b:Int):=ya _ _;have h:(a:Int)*(b:Int)<=999999998000000001:=by rw[<-e];omega
 have d:0<=(a:Int)*(b:Int):=by rw[<-e];omega
 rw[e]at c3;clear e hp;go_enter func80,ntmps80
 go_wp2_with fail
 refine c1.mono ?_;rintro e w1 ⟨rfl,rfl⟩
 go_wp2_with fail
 refine c2.mono ?_;rintro e w1 ⟨rfl,rfl⟩
 go_wp2_with fail
 refine c3.mono ?_;rintro e w1 ⟨rfl,rfl⟩;go_wp2;go_ret;exact⟨rfl,rfl⟩
theorem Q9(a b:Nat)(w:World)(ha:(num a).size<=10000)(hb:(num b).size<=10000)(ab:¬((num a).size<=9/\(num b).size<=9)):
 Calls prog 80 #[.string (num a),.string (num b)] w fun e w'=>e=.returned (.string (num (a*b)))/\Below w.heap.size w w':=by
 have h:=IS ((num a).size+(num b).size+1) (by omega);rw[yh,yh,Int.natCast_one]at h
 have HL:Hid (a*b<10^((num a).size+(num b).size)):=by
  unfold Hid;rw[xf];exact xO (BF a) (BF b)
 have ae:9<(num a).size\/((num a).size<=9/\9<(num b).size):=by omega
 clear ab
 rcases ae with ad|⟨ad,al⟩
 all_goals
  go_enter func80,ntmps80;go_wp2
  go_loopw [6] (fun i wr=>∃k:Nat,k<=(num a).size/\i=.int .i64 (k:Int)/\TOut w a b ((num a).size+(num b).size+1) w.heap.size k wr) (fun i _=>(num a).size-(intOf i).toNat)
  case atStart=>exact⟨0,zO _,rfl,List.replicate ((num a).size+(num b).size+1) 0,by simp,RowI.made0 _ _,fun p=>by rw[Eb];omega,by rw[Tb];simp[Nat.mod_one],(zI _ _).alloc (zB _) _⟩
  case round=>
   obtain⟨k,hk,rfl,hrel⟩:=hrel
   by_cases hkn:k<(num a).size
   .have HR:=zh hrel;clear hrel h;go_wp2;obtain⟨wo,rfl⟩:∃wo:World,wo=wr:=⟨_,rfl⟩
    go_loopw [7] (fun j wr=>∃q:Nat,q<=(num b).size/\j=.int .i64 (q:Int)/\TIn w a b ((num a).size+(num b).size+1) w.heap.size k q wr) (fun j _=>(num b).size-(intOf j).toNat)
    case atStart=>exact⟨0,zO _,rfl,HR.o.start⟩
    case round=>
     obtain⟨q,hq,rfl,hrel⟩:=hrel
     by_cases hqn:q<(num b).size
     .obtain⟨z,hz,s,ai⟩:=hrel.at (by omega);obtain⟨x,hx⟩:∃x,x=a/10^k%10:=⟨_,rfl⟩;obtain⟨y,hy⟩:∃y,y=b/10^q%10:=⟨_,rfl⟩;have cx:=fun W=>Hj a k W (by omega) (by omega);have cy:=fun W=>Hj b q W (by omega) (by omega);rw[<-hx]at cx;rw[<-hy]at cy;have am:x<10:=by omega
      have an:y<10:=by omega
      have ag:x*y<=9*9:=xk (by omega) (by omega);have exy:((x*y:Nat):Int)=(x:Int)*(y:Int):=ya _ _;have ak:(x:Int)*(y:Int)<=81:=by rw[<-exy];omega
      have aj:0<=(x:Int)*(y:Int):=by rw[<-exy];omega
      have HS:=zh (fun d hd=>hrel.step (d:=d) (by omega) (zB _) s hx hy hd);have s1:IntKind.i64.wrap ((k:Int)+(q:Int))=(k:Int)+(q:Int):=yi _ (by omega);have s2:(0:Int)<=(k:Int)+(q:Int):=by omega
      have s3:(k:Int)+(q:Int)<((num a).size:Int)+((num b).size:Int)+1:=by omega
      have s4:((k:Int)+(q:Int)).toNat=k+q:=by omega
      have s5:IntKind.i64.wrap ((x:Int)*(y:Int))=(x:Int)*(y:Int):=yi _ (by omega);have s6:IntKind.i64.wrap ((z:Int)+(x:Int)*(y:Int))=(z:Int)+(x:Int)*(y:Int):=yi _ (by omega);clear hx hy hrel ag exy HR;go_wp2;refine wp_region_still_tail 15 (by kernel_rfl) (by kernel_rfl) ?_;simp only[List.take_succ_cons,xj,List.drop_succ_cons,List.drop_zero]
      repeat still_step
      still_call (cx _)
      repeat still_step
      still_call (cy _)
      repeat still_step
      refine wpStill_nil ?_;change wpList _ _ _ _ _ wr.drew;go_wp2;exact⟨⟨q+1,by omega,by go_num,HS.o _ (by simp)⟩,by simp only[intOf];omega⟩
     obtain rfl:q=(num b).size:=by omega
     have HT:=zh hrel.done;clear hrel HR;go_wp2;exact⟨⟨k+1,by omega,by go_num,HT.o⟩,by simp only[intOf];omega⟩
   obtain rfl:k=(num a).size:=by omega
   have HT:=zh (hrel.car ha);clear hrel h;go_wp2
   go_loopw [8] (fun i wr=>∃k:Nat,k<=(num a).size+(num b).size/\i=.int .i64 (k:Int)/\TCar w a b ((num a).size+(num b).size+1) w.heap.size k wr) (fun i _=>(num a).size+(num b).size-(intOf i).toNat)
   case atStart=>exact⟨0,zO _,rfl,HT.o⟩
   case round=>
    obtain⟨k,hk,rfl,hrel⟩:=hrel
    by_cases hkn:k<(num a).size+(num b).size
    .obtain⟨z,y,hz,hy,s,ah,ai,ao⟩:=hrel.at (by omega);have HS:=zh (fun d1 d2 e1 e2=>hrel.step (d1:=d1) (d2:=d2) (by omega) (zB _) s ah e1 e2);have s1:IntKind.i64.wrap ((k:Int)+1)=(k:Int)+1:=yi _ (by omega);have s2:(0:Int)<=(k:Int)+1:=by omega
     have s3:(k:Int)<((num a).size:Int)+((num b).size:Int):=by omega
     have s4:((k:Int)+1).toNat=k+1:=by omega
     have s8:(k:Int)<((num a).size:Int)+((num b).size:Int)+1:=by omega
     have s5:(z:Int).tdiv 10=((z/10:Nat):Int):=by rw[Int.tdiv_eq_ediv_of_nonneg (by omega)];rfl
     have s6:IntKind.i64.wrap ((z/10:Nat):Int)=((z/10:Nat):Int):=yi _ (by omega);have s7:IntKind.i64.wrap ((y:Int)+((z/10:Nat):Int))=(y:Int)+((z/10:Nat):Int):=yi _ (by omega);clear hrel HT;go_wp2;refine wp_region_still_tail 12 (by kernel_rfl) (by kernel_rfl) ?_;simp only[List.take_succ_cons,xj,List.drop_succ_cons,List.drop_zero]
     repeat still_step
     refine wpStill_nil ?_;change wpList _ _ _ _ _ wr.drew;go_wp2;exact⟨⟨k+1,by omega,by go_num,HS.o _ _ (by omega) (by omega)⟩,by simp only[intOf];omega⟩
    obtain rfl:k=(num a).size+(num b).size:=by omega
    obtain⟨zs,z1,z2,z3,z4,z5⟩:=hrel.end HL.o;have aa:=z2.at;have ct:=Fi wr _ zs aa (by omega) (by omega) z3;rw[z1,z4]at ct;have af:=z5.size;replace z5:=zh z5;clear hrel HT z1 z2 z3 z4 aa
    go_wp2_with fail
    refine ct.q fun w1 hb=>?_;have hB:=zh (z5.o.trans (hb.mono af));clear hb ct;go_wp2;go_ret;exact⟨rfl,hB.o⟩
theorem QA(a b:Nat)(w:World)(ha:(num a).size<=10000)(hb:(num b).size<=10000):
 Calls prog 80 #[.string (num a),.string (num b)] w fun e w'=>e=.returned (.string (num (a*b)))/\Below w.heap.size w w':=by
 by_cases h:(num a).size<=9/\(num b).size<=9
 .refine(LU a b w h.1 h.2).mono ?_;rintro e w' ⟨rfl,rfl⟩;exact⟨rfl,zI _ _⟩
 exact Q9 a b w ha hb h
theorem LV:num 0=⟨#[48]⟩:=JZ [48] 0 (by decide) (by decide)
theorem QB(a b:Nat)(w:World)(ha:(num a).size<=10000)(hb:(num b).size<=10000)(h:a<b):
 Calls prog 78 #[.string (num a),.string (num b)] w fun e w'=>e=.returned (.tuple #[.string (num (a/b)),.string (num (a%b))])/\w=w':=by
 have c1:=D3 a b w (by omega) (by omega);rw[Cy h]at c1;have HV:Hid (num (a/b)=⟨#[48]⟩/\num (a%b)=num a):=⟨by rw[ve h,LV],by rw[xZ h]⟩;clear h;go_enter func78,ntmps78
 go_wp2_with fail
 refine c1.mono ?_;rintro e w1 ⟨rfl,rfl⟩;go_wp2;go_ret2;exact⟨by rw[HV.o.1,HV.o.2];rfl,rfl⟩
theorem Gx{a b:Nat}(h:b<=a):∃c:Int,c=B0 a b/\0<=c/\c<=1:=by
 refine⟨_,rfl,?_⟩;unfold B0;rw[zC (by omega)]
 split<;>omega
theorem NT(a b:Nat)(w:World)(ha:(num a).size<=18)(d:b≠0)(h:b<=a):
 Calls prog 78 #[.string (num a),.string (num b)] w fun e w'=>e=.returned (.tuple #[.string (num (a/b)),.string (num (a%b))])/\w=w':=by
 have hb:=Ev h;have h1:=Ti ha;have c1:=D3 a b w (by omega) (by omega);obtain⟨c,hc,s,aa⟩:=Gx h;rw[<-hc]at c1;have v1:=D4 a w ha;have v2:=D4 b w (by omega);have hq:=vJ a b;have hr:a%b<b:=xv _ (by omega);have d1:=DV (a/b) w (by omega);have d2:=DV (a%b) w (by omega);rw[vE]at d1;rw[vD]at d2;have hz:((b:Int)==0)=false:=by rw[zJ];omega
 have hw:wrap64 ((a:Int)/(b:Int))=(a:Int)/(b:Int):=by
  have e:(a:Int)/(b:Int)=((a/b:Nat):Int):=by simp
  rw[e];generalize a/b=q at hq;exact IntWalk.wrap64_in _ ⟨by omega,by omega⟩
 clear hc hq hr;replace d:=zh d;go_enter func78,ntmps78
 go_wp2_with fail
 refine c1.mono ?_;rintro e w1 ⟨rfl,rfl⟩
 go_wp2_with fail
 refine v1.mono ?_;rintro e w1 ⟨rfl,rfl⟩
 go_wp2_with fail
 refine v2.mono ?_;rintro e w1 ⟨rfl,rfl⟩
 go_wp2_with fail
 refine d1.mono ?_;rintro e w1 ⟨rfl,rfl⟩
 go_wp2_with fail
 refine v1.mono ?_;rintro e w1 ⟨rfl,rfl⟩
 go_wp2_with fail
 refine v2.mono ?_;rintro e w1 ⟨rfl,rfl⟩
 go_wp2_with fail
 refine d2.mono ?_;rintro e w1 ⟨rfl,rfl⟩;go_wp2;go_ret2;exact⟨rfl,rfl⟩
def Vd(w:World)(a b i:Nat)(v:Value)(s:ByteArray)(wr:World):Prop :=
 ∃ qs:List UInt8,(∀c∈qs,AT c)/\(∀c∈s.data.toList,AT c)/\s.size<=20000/\qs.length<=i/\A0 ((num a).data.toList.take i)=A0 qs*b+val s/\val s<b /\
  (i+1=(num b).size\/(s=num (val s)/\qs≠[]))/\OwnB w.heap.size wr v qs/\Below w.heap.size w wr
def VN(w:World)(R b:Nat)(qs:List UInt8)(v:Value)(t r:Nat)(wr:World):Prop:=r+t*b=R/\OwnB w.heap.size wr v qs/\Below w.heap.size w wr
theorem QC{s a:ByteArray}{i:Nat}(hi:i<a.size)(hs:∀c∈s.data.toList,AT c)(ha:∀c∈a.data.toList,AT c):
 (s++a.extract i (i+1)).data.toList=s.data.toList++[a[i]]/\(∀c∈(s++a.extract i (i+1)).data.toList,AT c)/\(s++a.extract i (i+1)).size=s.size+1:=by
 have e:(s++a.extract i (i+1)).data.toList=s.data.toList++[a[i]]:=by
  rw[ByteArray.toList_data_append,Lib.extract_data,show i+1-i=1 by omega]
  congr 1
  rw[wA (by simpa using hi)];rfl
 refine⟨e,fun c hc=>?_,?_⟩
 .rw [e]at hc
  rcases List.mem_append.1 hc with h|h
  .exact hs c h
  simp at h;subst h
  exact ha _ (by
   have:a[i]=a.data.toList[i]'(by simpa using hi):=rfl;rw[this];exact zQ _)
 rw[xM,e];simp
theorem Tk(a b:Nat)(d:b≠0):
 ((num a).extract 0 ((num b).size-1)).data.toList=(num a).data.toList.take ((num b).size-1)/\A0 ((num a).data.toList.take ((num b).size-1))<b:=by
 constructor
 .rw[Lib.extract_data];simp
 have h1:=Gv (l:=(num a).data.toList) (by rw[BB];exact AL a) ((num b).size-1);have hp:=Gw b
 by_cases hs:(num b).size-1=0
 .rw[hs]at h1 ⊢;simp only[xj,EM];omega
 have h2:¬b<10^((num b).size-1):=fun hc=>by
  have:=AV hc (by omega);rw[<-BY]at this;omega
 omega
theorem Tl{A Q S b c t r:Nat}(h1:A=Q*b+S)(h2:r+t*b=S*10+c):A*10+c=(Q*10+t)*b+r:=by
 rw[h1,yE,yE,zz,zz,zw b 10];omega
theorem WI{S b c:Nat}(h1:S<b)(h2:c<=9):S*10+c<10*b:=by omega
theorem Tm{t r b R:Nat}(h:r+t*b=R)(hR:R<10*b)(hr:b<=r):t+1<=9/\(r-b)+(t+1)*b=R:=by
 have e:(t+1)*b=t*b+b:=Nat.succ_mul t b;refine⟨?_,by omega⟩
 rcases xQ t 9 with h9|h9
 .omega
 have:9*b<=t*b:=yO _ h9;omega
theorem Tn{a b Q S:Nat}(h:a=Q*b+S)(hs:S<b):Q=a/b/\S=a%b:=by
 subst h;constructor
 .rw[Nat.add_comm,Nat.add_mul_div_right _ _ (by omega),ve hs,zm]
 rw[Nat.add_comm,Nat.add_mul_mod_self_right,xZ hs]
theorem To(a b:Nat)(w:World)(ha:(num a).size<=9000)(aE:18<(num a).size)(ai:b≠0)(h:b<=a):
 Calls prog 78 #[.string (num a),.string (num b)] w fun e w'=>e=.returned (.tuple #[.string (num (a/b)),.string (num (a%b))])/\Below w.heap.size w w':=by
 obtain⟨i0,hi,av,aw,ax⟩:=vK LN;have hb:=Ev h;have aH:=Gw b;have c1:=D3 a b w (by omega) (by omega);obtain⟨c,hc,az,aA⟩:=Gx h;rw[<-hc]at c1;have aF:((num b).size:Int)-1=(((num b).size-1:Nat):Int):=by omega
 have aG:(num b).size-1<=(num a).size:=by omega
 have HS:=zh (Tk a b ai);have HD:Hid (∀c∈(num a).data.toList,AT c):=by unfold Hid;rw[BB];exact AL a
 have HV:Hid (A0 ((num a).data.toList.take (num a).size)=a):=by
  unfold Hid;rw[yK (by rw[BY,BB];exact zB _),BB,Aw]
 replace ai:=zh ai;clear hc h;go_enter func78,ntmps78
 go_wp2_with fail
 refine c1.mono ?_;rintro e w1 ⟨rfl,rfl⟩;clear c1
 go_wp2_with (at_make;refine wpList_make_own _ rfl _ _ 145 rfl w.heap.size 5 i0 (.int .u8 0) 1 underlying145 hi av aw _ _ _ (num a).size rfl rfl (by omega) (by rw[ax];omega) (by unfold maxLen;omega) (zB _) ?_;intro w1 ab af)
 have h0:OwnB w.heap.size w1 (.slice (some ⟨w.heap.size,0,none⟩) 0 (num a).size) []:=ab;have ae:Below w.heap.size w w1:=(zI _ _).grown af (zB _) (fun k e=>by cases e);replace h0:=zh h0;replace ae:=zh ae;clear ab af
 go_loopw [6,7,8] (fun v r i wr=>∃(k:Nat)(s:ByteArray),(num b).size<=k+1/\k<=(num a).size/\i=.int .i64 (k:Int)/\r=.string s/\Vd w a b k v s wr) (fun _ _ i _=>(num a).size-(intOf i).toNat)
 case atStart=>
  refine⟨(num b).size-1,_,by omega,by omega,rfl,rfl,[],fun _ h=>absurd h (by simp),?_,?_,by simp,?_,?_,.inl (by omega),h0.o,ae.o⟩
  .rw[HS.o.1];exact fun c hc=>HD.o c (yH hc)
  .rw[xM,HS.o.1];simp;omega
  .unfold val;rw[HS.o.1];simp[A0]
  .unfold val;rw[HS.o.1];exact HS.o.2
 case round=>
  obtain⟨k,s,aI,hk,rfl,rfl,qs,z1,z2,z3,z4,z5,z6,z7,z8,z9⟩:=hrel;clear h0 ae;have ar:=z9.size
  by_cases hlt:k<(num a).size
  .have al:=QC hlt z2 HD.o;have ct:=Ff (s++(num a).extract k (k+1)) wr (by omega) (by omega) al.2.1;obtain⟨c,hc⟩:∃c,c=(num a)[k].toNat-48:=⟨_,rfl⟩
   have ao:AT ((num a)[k]):=HD.o _ (by
    have:(num a)[k]=(num a).data.toList[k]'(by simpa using hlt):=rfl;rw[this];exact zQ _)
   have aB:c<=9:=by have:=ao.2;omega
   have hR:A0 (s++(num a).extract k (k+1)).data.toList=val s*10+c:=by
    rw[al.1,Bv,hc];simp[A0,val]
   rw[hR]at ct;have hA:=Fe (num a) k hlt;rw[<-hc]at hA;have ah:=WI z6 aB;obtain⟨R,ag⟩:∃R,R=val s*10+c:=⟨_,rfl⟩;rw[<-ag]at ct ah
   have HN:Hid (∀(t r:Nat) (d:Int) v2 w2,r+t*b=R->r<b->t<=9->d=48+(t:Int)->w2.ownsRow w.heap.size 5 1 v2 (qs.length+1) (Lib.byteCells qs++[Value.int .u8 d])->Below w.heap.size w w2->(num r).size<=20000->Vd w a b (k+1) v2 (num r) w2):=by
    intro t r d v2 w2 h1 h2 h3 h4 ho ay au;refine⟨qs++[UInt8.ofNat (48+t)],?_,by rw[BB];exact AL r,au,by simp;omega,?_,by rw[Bu];exact h2,.inr ⟨by rw[Bu],by simp⟩,?_,ay⟩
    .intro x hx
     rcases List.mem_append.1 hx with h|h
     .exact z1 x h
     simp at h;subst h;unfold AT;have:=Bl t (by omega);rw[show (48+UInt8.ofNat t:UInt8)=UInt8.ofNat (48+t) from by simp] ;omega
    .rw [hA,Bv,Bu]
     have e:A0 [UInt8.ofNat (48+t)]=t:=by
      have:=Bl t (by omega);simp only[A0,wV,wm];omega
     rw[e];simp only[zn,yc];exact Tl z5 (by rw[h1,ag])
    unfold OwnB;rw[<-I6,zY,Bl t (by omega)];have e:((48+t:Nat):Int)=d:=by omega
    rw[e];exact ho
   have HO:Hid (OwnB w.heap.size wr u6 qs):=z8;have HB:=zh z9;have HL:Hid (qs.length<=k):=z4;have HR:=zh ah;clear z1 z2 z4 z5 z6 z7 z8 z9 al hR hA ah ao hc ag;have aJ:((k:Int)+1).toNat=k+1:=by omega
   go_wp2_with fail
   refine ct.mono ?_;rintro e w2 ⟨rfl,rfl⟩;clear ct;go_wp2;obtain⟨wo,rfl⟩:∃wo:World,wo=wr:=⟨_,rfl⟩
   go_loopw [7,9] (fun r d wr=>∃t r':Nat,t<=9/\r=.string (num r')/\d=.int .u8 (48+(t:Int))/\VN w R b qs u6 t r' wr) (fun _ d _=>57-(intOf d).toNat)
   case atStart=>exact⟨0,R,by omega,rfl,rfl,by simp,HO.o,HB.o⟩
   case round=>
    obtain⟨t,r',ht,rfl,rfl,y1,y2,y3⟩:=hrel
    have aD:(num r').size<=10000:=by
     have h1:=Ev (show r'<=R by omega);have h2:=HR.o
     have h3:(num R).size<=(num b).size+1:=by
      rw[BY];refine AV ?_ (by omega);have:=BF b;rw[zy];omega
     omega
    have cm:=JJ r' b wr aD;have co:=D3 r' b wr (by omega) (by omega);have ar:=y3.size;replace y1:=zh y1;replace y3:=zh y3
    by_cases hlt2:r'<b
    .rw[Cy hlt2]at co;have HQ:Hid (wr.ownsRow w.heap.size 5 1 u6 qs.length (Lib.byteCells qs)):=y2;replace hlt2:=zh hlt2;clear y2 cm
     go_wp2_with fail
     refine co.mono ?_;rintro e w2 ⟨rfl,rfl⟩;clear co
     go_wp2_with (at_builtin;refine xT _ rfl _ _ 145 rfl w.heap.size 5 i0 (.int .u8 0) 1 1 underlying145 hi av aw ax rfl (by decide) u6 qs.length (Lib.byteCells qs) rfl (HQ.o.alloc _) ⟨wr.heap.size,0,none⟩ 1 1 [.int .u8 (48+(t:Int))] rfl rfl (Cx _ _ _) (Cc _ _) (by have:=HL.o;unfold maxLen;omega) (by have:=HL.o;omega) (by simp;omega) ?_;intro v2 w2 am aq _)
     exact⟨⟨k+1,num r',by omega,by omega,by go_num,rfl,HN.o t r' _ v2 w2 y1.o hlt2.o ht rfl am ((y3.o.alloc (by omega) _).grown aq (by simp;omega) (fun b e=>(HQ.o.lt b e).1)) (by omega)⟩,by simp only[intOf];omega⟩
    have ak:b<=r':=by omega
    obtain⟨c,hc,az,aA⟩:=Gx ak;rw[<-hc]at co;have aa:=zh (Tm y1.o HR.o ak);have cm:=cm ak;replace y2:=zh y2;clear hc hlt2
    go_wp2_with fail
    refine co.mono ?_;rintro e w2 ⟨rfl,rfl⟩;clear co
    go_wp2_with fail
    refine cm.q fun w2 ad=>?_;replace ad:=zh ad;clear cm;go_wp2;refine⟨⟨t+1,r'-b,aa.o.1,rfl,by go_num,aa.o.2,y2.o.below ad.o,y3.o.trans (ad.o.mono ar)⟩,?_⟩;have:=aa.o.1;simp only[intOf];omega
  obtain rfl:k=(num a).size:=by omega
  have an:s=num (val s)/\qs≠[]:=by
   rcases z7 with h|h
   .omega
   exact h
  have aj:=Tn (a:=a) (by rw[<-z5];exact HV.o.symm) z6;have ht:=z8.text;have aC:0<qs.length:=List.length_pos_iff.2 an.2;have ct:=Ff ⟨qs.toArray⟩ wr (by simp[ByteArray.size];omega) (by simp[ByteArray.size];omega) (by simpa using z1);have e:(⟨qs.toArray⟩:ByteArray).data.toList=qs:=rfl;rw[e,aj.1]at ct;have HF:Hid (s=num (a%b)):=by unfold Hid;rw[<-aj.2];exact an.1
  have HB:=zh z9;clear z1 z2 z4 z5 z6 z7 z8 z9 an aj aC e
  go_wp2_with fail
  refine ct.mono ?_;rintro e w2 ⟨rfl,rfl⟩;go_wp2;go_ret2;exact⟨by rw[HF.o];rfl,HB.o⟩
theorem LW(a b:Nat)(w:World)(ha:(num a).size<=9000)(hb:(num b).size<=9000)(d:b≠0):
 Calls prog 78 #[.string (num a),.string (num b)] w fun e w'=>e=.returned (.tuple #[.string (num (a/b)),.string (num (a%b))])/\Below w.heap.size w w':=by
 rcases xQ a b with h|h
 .refine(QB a b w (by omega) (by omega) h).mono ?_;rintro e w' ⟨rfl,rfl⟩;exact⟨rfl,zI _ _⟩
 by_cases h18:(num a).size<=18
 .refine(NT a b w h18 d h).mono ?_;rintro e w' ⟨rfl,rfl⟩;exact⟨rfl,zI _ _⟩
 exact To a b w ha (by omega) d h
def VO(G:Nat)(w:World)(g:Nat)(v u:Value)(wr:World):Prop :=
 ∃k:Nat,v=.string (num k)/\u=.string (num g)/\Nat.gcd k g=G/\(num k).size<=9000/\(num g).size<=9000/\Below w.heap.size w wr
theorem Hk(g:Nat):((num g).toList==[48])=decide (g=0):=by
 rw[yP,BB,wD,yL,wO];constructor
 .intro e;have:=congrArg A0 e;rw[Aw]at this;rw[this];rfl
 intro e;subst e;rw[wZ (by omega)];rfl
theorem NU(a b:Nat)(w:World)(ha:(num a).size<=9000)(hb:(num b).size<=9000):
 Calls prog 77 #[.string (num a),.string (num b)] w fun e w'=>e=.returned (.string (num (Nat.gcd a b)))/\Below w.heap.size w w':=by
 go_enter func77,ntmps77;go_wp2
 go_loopg [0,1] b (fun g v u wr=>VO (Nat.gcd a b) w g v u wr)
 case atStart=>exact⟨a,rfl,rfl,rfl,ha,hb,zI _ _⟩
 case round=>
  obtain⟨k,rfl,rfl,h3,h4,h5,h6⟩:=hrel;have h:=h6.size;have hz:=Hk gk
  by_cases hg:gk=0
  .rw[zH hg]at hz;have HF:Hid (num k=num (Nat.gcd a b)):=by unfold Hid;rw[<-h3,hg,Nat.gcd_zero_right]
   replace h6:=zh h6;clear h3 hg;go_wp2;go_ret;exact⟨Gu HF.o,h6.o⟩
  rw[zD hg]at hz;have hc:=LW k gk wr h4 h5 hg;replace h3:=zh h3;replace h6:=zh h6;replace hg:=zh hg
  go_wp2_with fail
  refine hc.q fun w2 d=>?_;replace d:=zh d;clear hc;go_wp2
  go_roundg (k%gk)
  case measure=>exact xv _ (by have:=hg.o;omega)
  case rel=>
   refine⟨gk,rfl,rfl,?_,h5,?_,h6.o.trans (d.o.mono h)⟩
   .rw[<-h3.o,vU gk,<-Nat.gcd_rec,vU]
   exact zV (Ev (xA (xv k (by have:=hg.o;omega)))) h5
theorem AC{n:Nat}(h:n<Lim):(num n).size<=300:=by
 have:=AV (k:=mxd) h (by rw[Dk];omega);rw[BY,<-Dk];exact this
theorem NV(a b:Nat)(w:World)(ha:a<Lim)(hb:b<Lim)(h:(num (a+b)).size<=1000):
 Calls prog 103 #[.string (num a),.string (num b)] w fun e w'=>e=.returned (.tuple #[.string (EQ (a+b)),.int .i64 (ER (a+b))])/\Below w.heap.size w w':=by
 have c1:=Tj a b w (by have:=AC ha;omega) (by have:=AC hb;omega);have i1:=B7 (num a) w (by have:=AC ha;omega);have i2:=B7 (num b) w (by have:=AC hb;omega);rw[BS ha]at i1;rw[BS hb]at i2;have c2:=fun W=>Fg (a+b) W (by omega);go_enter func103,ntmps103
 go_wp2_with fail
 refine i1.mono ?_;rintro e w' ⟨rfl,rfl⟩
 go_wp2_with fail
 refine i2.mono ?_;rintro e w' ⟨rfl,rfl⟩;clear i1 i2
 go_wp2_with fail
 refine(c1).q fun w1 d=>?_;replace d:=zh d
 go_wp2_with fail
 refine(c2 _).mono ?_;rintro e w2 ⟨rfl,rfl⟩;clear c1 c2;go_wp2;go_ret2;exact⟨rfl,d.o⟩
theorem NW(a b:Nat)(w:World)(ha:a<Lim)(hb:b<Lim)(h:(num (a*b)).size<=1000):
 Calls prog 36 #[.string (num a),.string (num b)] w fun e w'=>e=.returned (.tuple #[.string (EQ (a*b)),.int .i64 (ER (a*b))])/\Below w.heap.size w w':=by
 have c1:=QA a b w (by have:=AC ha;omega) (by have:=AC hb;omega);have i1:=B7 (num a) w (by have:=AC ha;omega);have i2:=B7 (num b) w (by have:=AC hb;omega);rw[BS ha]at i1;rw[BS hb]at i2;have c2:=fun W=>Fg (a*b) W (by omega);go_enter func36,ntmps36
 go_wp2_with fail
 refine i1.mono ?_;rintro e w' ⟨rfl,rfl⟩
 go_wp2_with fail
 refine i2.mono ?_;rintro e w' ⟨rfl,rfl⟩;clear i1 i2
 go_wp2_with fail
 refine(c1).q fun w1 d=>?_;replace d:=zh d
 go_wp2_with fail
 refine(c2 _).mono ?_;rintro e w2 ⟨rfl,rfl⟩;clear c1 c2;go_wp2;go_ret2;exact⟨rfl,d.o⟩
theorem NX(a b:Nat)(w:World)(ha:a<Lim)(hb:b<Lim):
 Calls prog 34 #[.string (num a),.string (num b)] w fun e w'=>e=.returned (.tuple #[.string (num (Nat.gcd a b)),.int .i64 0])/\Below w.heap.size w w':=by
 have c1:=NU a b w (by have:=AC ha;omega) (by have:=AC hb;omega);have i1:=B7 (num a) w (by have:=AC ha;omega);have i2:=B7 (num b) w (by have:=AC hb;omega);rw[BS ha]at i1;rw[BS hb]at i2;go_enter func34,ntmps34
 go_wp2_with fail
 refine i1.mono ?_;rintro e w' ⟨rfl,rfl⟩
 go_wp2_with fail
 refine i2.mono ?_;rintro e w' ⟨rfl,rfl⟩;clear i1 i2
 go_wp2_with fail
 refine(c1).q fun w1 d=>?_;replace d:=zh d;clear c1;go_wp2;go_ret2;exact⟨rfl,d.o⟩
theorem IB(a b:Nat)(w:World)(ha:a<Lim)(hb:b<Lim):
 Calls prog 104 #[.string (num a),.string (num b)] w fun e w'=>e=.returned (.tuple #[.int .i64 (B0 a b),.int .i64 0])/\Below w.heap.size w w':=by
 have c1:=D3 a b w (by have:=AC ha;omega) (by have:=AC hb;omega);have i1:=B7 (num a) w (by have:=AC ha;omega);have i2:=B7 (num b) w (by have:=AC hb;omega);rw[BS ha]at i1;rw[BS hb]at i2;go_enter func104,ntmps104
 go_wp2_with fail
 refine i1.mono ?_;rintro e w' ⟨rfl,rfl⟩
 go_wp2_with fail
 refine i2.mono ?_;rintro e w' ⟨rfl,rfl⟩;clear i1 i2
 go_wp2_with fail
 refine c1.mono ?_;rintro e w1 ⟨rfl,rfl⟩;clear c1;go_wp2;go_ret2;exact⟨rfl,zI _ _⟩
theorem NY(a b:Nat)(w:World)(ha:a<Lim)(hb:b<Lim)(h:b<=a):
 Calls prog 105 #[.string (num a),.string (num b)] w fun e w'=>e=.returned (.tuple #[.string (num (a-b)),.int .i64 0])/\Below w.heap.size w w':=by
 have c1:=D3 a b w (by have:=AC ha;omega) (by have:=AC hb;omega);obtain⟨c,hc,s,aa⟩:=Gx h;rw[<-hc]at c1;have c2:=JJ a b w (by have:=AC ha;omega) h;clear hc;have i1:=B7 (num a) w (by have:=AC ha;omega);have i2:=B7 (num b) w (by have:=AC hb;omega);rw[BS ha]at i1;rw[BS hb]at i2;go_enter func105,ntmps105
 go_wp2_with fail
 refine i1.mono ?_;rintro e w' ⟨rfl,rfl⟩
 go_wp2_with fail
 refine i2.mono ?_;rintro e w' ⟨rfl,rfl⟩;clear i1 i2
 go_wp2_with fail
 refine c1.mono ?_;rintro e w1 ⟨rfl,rfl⟩
 go_wp2_with fail
 refine(c2).q fun w1 d=>?_;replace d:=zh d;clear c1 c2;go_wp2;go_ret2;exact⟨rfl,d.o⟩
theorem NZ(a b:Nat)(w:World)(ha:a<Lim)(hb:b<Lim)(h:b≠0):
 Calls prog 35 #[.string (num a),.string (num b)] w fun e w'=>e=.returned (.tuple #[.string (num (a/b)),.string (num (a%b)),.int .i64 0])/\Below w.heap.size w w':=by
 have c1:=LW a b w (by have:=AC ha;omega) (by have:=AC hb;omega) h;have hz:=Hk b;rw[zD h]at hz;replace h:=zh h;have i1:=B7 (num a) w (by have:=AC ha;omega);have i2:=B7 (num b) w (by have:=AC hb;omega);rw[BS ha]at i1;rw[BS hb]at i2;go_enter func35,ntmps35
 go_wp2_with fail
 refine i1.mono ?_;rintro e w' ⟨rfl,rfl⟩
 go_wp2_with fail
 refine i2.mono ?_;rintro e w' ⟨rfl,rfl⟩;clear i1 i2
 go_wp2_with fail
 refine(c1).q fun w1 d=>?_;replace d:=zh d;clear c1;go_wp2
 go_ret3
 exact⟨rfl,d.o⟩
theorem VP(a b:Nat)(w:World)(ha:a<Lim)(hb:b<Lim):Calls prog 34 #[.string (T (some a)),.string (T (some b))] w fun e w'=>e=.returned (.tuple #[.string (T (some (Nat.gcd a b))),.int .i64 0])/\Below w.heap.size w w':=NX a b w ha hb
theorem WJ(a b:Nat)(w:World)(ha:a<Lim)(hb:b<Lim)(h:b≠0):Calls prog 35 #[.string (T (some a)),.string (T (some b))] w fun e w'=>e=.returned (.tuple #[.string (T (some (a/b))),.string (T (some (a%b))),.int .i64 0])/\Below w.heap.size w w':=NZ a b w ha hb h
theorem WZ(a b:Nat)(w:World)(ha:a<Lim)(hb:b<Lim)(h:a+b<Lim):Calls prog 103 #[.string (T (some a)),.string (T (some b))] w fun e w'=>e=.returned (.tuple #[.string (T (some (a+b))),.int .i64 0])/\Below w.heap.size w w':=by
 have:=NV a b w ha hb (by have:=AC h;omega);unfold EQ ER at this;rw[zE h,zE h]at this;exact this
theorem Tp(a b:Nat)(w:World)(ha:a<Lim)(hb:b<Lim)(h:a*b<Lim):Calls prog 36 #[.string (T (some a)),.string (T (some b))] w fun e w'=>e=.returned (.tuple #[.string (T (some (a*b))),.int .i64 0])/\Below w.heap.size w w':=by
 have:=NW a b w ha hb (by have:=AC h;omega);unfold EQ ER at this;rw[zE h,zE h]at this;exact this
theorem WK(a b:Nat)(w:World)(ha:a<Lim)(hb:b<Lim)(h:b<=a):Calls prog 105 #[.string (T (some a)),.string (T (some b))] w fun e w'=>e=.returned (.tuple #[.string (T (some (a-b))),.int .i64 0])/\Below w.heap.size w w':=NY a b w ha hb h
theorem Xa(a b:Nat)(w:World)(ha:a<Lim)(hb:b<Lim):Calls prog 104 #[.string (T (some a)),.string (T (some b))] w fun e w'=>e=.returned (.tuple #[.int .i64 (B0 a b),.int .i64 0])/\Below w.heap.size w w':=IB a b w ha hb
theorem ris(s:ByteArray)(b:Bool)(h:isN s=b)(w:World)(hs:s.size<=140737488355328):Calls prog 76 #[.string s] w fun e w'=>e=.returned (.bool b)/\w=w':=by
 have:=B7 s w hs
 rwa [h]at this
theorem K1(g:Bool)(n d:ByteArray)(w:World)(hn:n.size<=140737488355328)(h:isN n=false):
 Calls prog 33 #[.agg #[.bool g,.string n,.string d]] w fun e w'=>e=.returned (.bool false)/\Below w.heap.size w w':=by
 replace h:=zh h;go_enter func33,ntmps33
 go_wp2_with fail
 refine(ris n false h.o _ hn).mono ?_;rintro e w1 ⟨rfl,rfl⟩;go_wp2;go_ret;exact⟨rfl,Ba w _ _ _⟩
theorem K2(g:Bool)(n d:ByteArray)(w:World)(hn:n.size<=140737488355328)(hd:d.size<=140737488355328)(h:isN n=true)(h2:isN d=false):
 Calls prog 33 #[.agg #[.bool g,.string n,.string d]] w fun e w'=>e=.returned (.bool false)/\Below w.heap.size w w':=by
 replace h:=zh h;replace h2:=zh h2;go_enter func33,ntmps33
 go_wp2_with fail
 refine(ris n true h.o _ hn).mono ?_;rintro e w1 ⟨rfl,rfl⟩
 go_wp2_with fail
 refine(ris d false h2.o _ hd).mono ?_;rintro e w1 ⟨rfl,rfl⟩;go_wp2;go_ret;exact⟨rfl,Ba w _ _ _⟩
theorem K4(g:Bool)(a:Nat)(w:World)(ha:a<Lim):
 Calls prog 33 #[.agg #[.bool g,.string (T (some a)),.string (T (some 0))]] w fun e w'=>e=.returned (.bool false)/\Below w.heap.size w w':=by
 have hb:0<Lim:=by omega
 have ia:=zh (CM (An ha));have za:=zh (BH (An ha));have ib:=zh (CM (An hb));have zb:=zh (BH (An hb));have z:=AM 0;rw[zH rfl]at z;go_enter func33,ntmps33
 go_wp2_with fail
 refine(ris _ true ia.o _ za.o).mono ?_;rintro e w1 ⟨rfl,rfl⟩
 go_wp2_with fail
 refine(ris _ true ib.o _ zb.o).mono ?_;rintro e w1 ⟨rfl,rfl⟩;go_wp2;go_ret;exact⟨rfl,Ba w _ _ _⟩
theorem K7(b:Nat)(w:World)(hb:b<Lim)(a:b≠0):
 Calls prog 33 #[.agg #[.bool true,.string (T (some 0)),.string (T (some b))]] w fun e w'=>e=.returned (.bool false)/\Below w.heap.size w w':=by
 have ha:0<Lim:=by omega
 have ia:=zh (CM (An ha));have za:=zh (BH (An ha));have ib:=zh (CM (An hb));have zb:=zh (BH (An hb));have z:=AM 0;rw[zH rfl]at z;have z2:=AM b;rw[zD a]at z2;replace a:=zh a;go_enter func33,ntmps33
 go_wp2_with fail
 refine(ris _ true ia.o _ za.o).mono ?_;rintro e w1 ⟨rfl,rfl⟩
 go_wp2_with fail
 refine(ris _ true ib.o _ zb.o).mono ?_;rintro e w1 ⟨rfl,rfl⟩;go_wp2;go_ret;exact⟨rfl,Ba w _ _ _⟩
theorem FE(a b:Nat)(w:World)(ha:a<Lim)(hb:b<Lim)(d:b≠0):
 Calls prog 33 #[.agg #[.bool false,.string (T (some a)),.string (T (some b))]] w fun e w'=>e=.returned (.bool (decide (Nat.gcd a b=1)))/\Below w.heap.size w w':=by
 have ia:=zh (CM (An ha));have za:=zh (BH (An ha));have ib:=zh (CM (An hb));have zb:=zh (BH (An hb));have z2:=AM b;rw[zD d]at z2;have z3:=Gd (Nat.gcd a b);replace d:=zh d;go_enter func33,ntmps33
 go_wp2_with fail
 refine(ris _ true ia.o _ za.o).mono ?_;rintro e w1 ⟨rfl,rfl⟩
 go_wp2_with fail
 refine(ris _ true ib.o _ zb.o).mono ?_;rintro e w1 ⟨rfl,rfl⟩
 go_wp2_with fail
 refine(VP a b _ ha hb).q fun w1 h=>?_;have s:=zh ((Ba w false (T (some a)) (T (some b))).trans (h.mono (by simp)));clear h;go_wp2;go_ret;exact⟨rfl,s.o⟩
theorem IT(a b:Nat)(w:World)(ha:a<Lim)(hb:b<Lim)(h:b≠0)(d:a≠0):
 Calls prog 33 #[.agg #[.bool true,.string (T (some a)),.string (T (some b))]] w fun e w'=>e=.returned (.bool (decide (Nat.gcd a b=1)))/\Below w.heap.size w w':=by
 have ia:=zh (CM (An ha));have za:=zh (BH (An ha));have ib:=zh (CM (An hb));have zb:=zh (BH (An hb));have z2:=AM b;rw[zD h]at z2;have z3:=Gd (Nat.gcd a b);replace h:=zh h;have z:=AM a;rw[zD d]at z;replace d:=zh d;go_enter func33,ntmps33
 go_wp2_with fail
 refine(ris _ true ia.o _ za.o).mono ?_;rintro e w1 ⟨rfl,rfl⟩
 go_wp2_with fail
 refine(ris _ true ib.o _ zb.o).mono ?_;rintro e w1 ⟨rfl,rfl⟩
 go_wp2_with fail
 refine(VP a b _ ha hb).q fun w1 s=>?_;have aa:=zh ((Ba w true (T (some a)) (T (some b))).trans (s.mono (by simp)));clear s;go_wp2;go_ret;exact⟨rfl,aa.o⟩
theorem Dj(g:Bool)(n d:ByteArray)(w:World)(hn:n.size<=140737488355328)(hd:d.size<=140737488355328):
 Calls prog 33 #[.agg #[.bool g,.string n,.string d]] w fun e w'=>e=.returned (.bool (As g n d))/\Below w.heap.size w w':=by
 cases h1:isN n with
 |false=>
  have e:As g n d=false:=by unfold As;rw[h1];rfl
  rw[e];exact K1 g n d w hn h1
 |true=>
  cases h2:isN d with
  |false=>
   have e:As g n d=false:=by unfold As;rw[h1,h2];rfl
   rw[e];exact K2 g n d w hn hd h1 h2
  |true=>
   obtain⟨a,ha,rfl⟩:=BT h1;obtain⟨b,hb,rfl⟩:=BT h2;rw[Fq g a b ha hb]
   by_cases hb0:b=0
   .subst hb0;simp only[decide_true,Bool.not_true,xw];exact K4 g a w ha
   rw[zD hb0,Bool.not_false,xF]
   by_cases ha0:a=0
   .rw [zE ha0];subst ha0
    cases g with
    |true=>exact K7 b w hb hb0
    |false=>
     have e:(!false&&decide (b=1))=decide (Nat.gcd 0 b=1):=by
      rw[Bool.not_false,xF];exact decide_eq_decide.2 (by rw[v4])
     rw[e];exact FE 0 b w ha hb hb0
   rw[zC ha0]
   cases g with
   |true=>exact IT a b w ha hb hb0 ha0
   |false=>exact FE a b w ha hb hb0
theorem Dt(g:Bool)(a b:Nat)(w:World)(ha:a<Lim)(hb:b<Lim)(ai:b≠0):
 Calls prog 102 #[.bool g,.string (T (some a)),.string (T (some b))] w fun e w'=>e=.returned (.tuple #[qv (mkRat (sg g a) b),.int .i64 0])/\Below w.heap.size w w':=by
 have HV:=zh (UQ g a b ai);obtain⟨G,af⟩:∃G,G=Nat.gcd a b:=⟨_,rfl⟩;have ah:G<Lim:=by rw[af];exact Hx ha hb
 have ag:G≠0:=by rw[af];exact wJ (Nat.gcd_pos_of_pos_right a (by omega))
 have k1:=fun W=>VP a b W ha hb;rw[<-af]at HV k1;have k2:=fun W=>WJ a G W ha ah ag;have k3:=fun W=>WJ b G W hb ah ag;have z:=AM (a/G);generalize hx:a/G=x at HV k2 z;generalize hy:b/G=y at HV k3;generalize a%G=r1 at k2;generalize b%G=r2 at k3;clear af ag hx hy ai ah;have key:(g=false)\/(g=true/\x=0)\/(g=true/\x≠0):=by cases g<;>simp<;>omega
 rcases key with rfl|⟨rfl,ae⟩|⟨rfl,ae⟩
 rotate_left
 .rw[zH ae]at HV z;replace ae:=zh ae;go_enter func102,ntmps102
  go_wp2_with fail
  refine(k1 _).q fun w1 h=>?_;have q1:=(B3.new w false ⟨#[]⟩ ⟨#[]⟩).below h;have ab:=zh ((Ba w false ⟨#[]⟩ ⟨#[]⟩).trans (h.mono (by simp)));replace q1:=zh q1;clear h
  go_wp2_with fail
  refine(k2 _).q fun w2 s=>?_;have q2:=zh (q1.o.below s);have ad:=ab.t s;clear s q1
  go_wp2_with fail
  refine(k3 _).q fun w3 aa=>?_;have q3:=q2.o.below aa;have d:=ad.t aa;obtain⟨c1,c2,c3,c4,c5,c6⟩:=q3.facts;have c7:=q3.lt;replace q3:=zh q3;clear aa q2;go_wp2;refine zX (v:=.tuple #[.agg #[.bool false,.string (T (some x)),.string (T (some y))],.int .i64 0]) (by simp[results,results102,go_sem,c1,c2,c3]) rfl ⟨by rw[HV.o];rfl,?_⟩
  repeat refine ze ?_ (by simp only[];omega) _
  first|exact d.o|exact d.o.alloc d.o.size _
 .rw[zD ae]at HV z;replace ae:=zh ae;go_enter func102,ntmps102
  go_wp2_with fail
  refine(k1 _).q fun w1 h=>?_;have q1:=(B3.new w false ⟨#[]⟩ ⟨#[]⟩).below h;have ab:=zh ((Ba w false ⟨#[]⟩ ⟨#[]⟩).trans (h.mono (by simp)));replace q1:=zh q1;clear h
  go_wp2_with fail
  refine(k2 _).q fun w2 s=>?_;have q2:=zh (q1.o.below s);have ad:=ab.t s;clear s q1
  go_wp2_with fail
  refine(k3 _).q fun w3 aa=>?_;have q3:=q2.o.below aa;have d:=ad.t aa;obtain⟨c1,c2,c3,c4,c5,c6⟩:=q3.facts;have c7:=q3.lt;replace q3:=zh q3;clear aa q2;go_wp2;refine zX (v:=.tuple #[.agg #[.bool true,.string (T (some x)),.string (T (some y))],.int .i64 0]) (by simp[results,results102,go_sem,c1,c2,c3]) rfl ⟨by rw[HV.o];rfl,?_⟩
  repeat refine ze ?_ (by simp only[];omega) _
  first|exact d.o|exact d.o.alloc d.o.size _
 skip
 go_enter func102,ntmps102
 go_wp2_with fail
 refine(k1 _).q fun w1 h=>?_;have q1:=(B3.new w false ⟨#[]⟩ ⟨#[]⟩).below h;have ab:=zh ((Ba w false ⟨#[]⟩ ⟨#[]⟩).trans (h.mono (by simp)));replace q1:=zh q1;clear h
 go_wp2_with fail
 refine(k2 _).q fun w2 s=>?_;have q2:=zh (q1.o.below s);have ad:=ab.t s;clear s q1
 go_wp2_with fail
 refine(k3 _).q fun w3 aa=>?_;have q3:=q2.o.below aa;have d:=ad.t aa;obtain⟨c1,c2,c3,c4,c5,c6⟩:=q3.facts;have c7:=q3.lt;replace q3:=zh q3;clear aa q2;go_wp2;refine zX (v:=.tuple #[.agg #[.bool false,.string (T (some x)),.string (T (some y))],.int .i64 0]) (by simp[results,results102,go_sem,c1,c2,c3]) rfl ⟨by rw[HV.o];rfl,?_⟩
 repeat refine ze ?_ (by simp only[];omega) _
 first|exact d.o|exact d.o.alloc d.o.size _
theorem QD(g:Bool)(n d:ByteArray)(w:World):
 Calls prog 100 #[.agg #[.bool g,.string n,.string d]] w fun e w'=>e=.returned (.agg #[.bool (!g&&!(n.toList==[48])),.string n,.string d])/\Below w.heap.size w w':=by
 cases g with
 |true=>
  go_enter func100,ntmps100;go_wp2;refine zX (v:=.agg #[.bool false,.string n,.string d]) (by simp[results,results100,go_sem]) rfl ⟨rfl,?_⟩
  repeat refine ze ?_ (by simp only[];omega) _
  exact((zI _ w).alloc (zB _) _).alloc (by simp) _
 |false=>
  cases hz:(n.toList==[48]) with
  |true=>
   go_enter func100,ntmps100;go_wp2;refine zX (v:=.agg #[.bool false,.string n,.string d]) (by simp[results,results100,go_sem]) rfl ⟨rfl,?_⟩
   repeat refine ze ?_ (by simp only[];omega) _
   exact((zI _ w).alloc (zB _) _).alloc (by simp) _
  |false=>
   go_enter func100,ntmps100;go_wp2;refine zX (v:=.agg #[.bool true,.string n,.string d]) (by simp[results,results100,go_sem]) rfl ⟨rfl,?_⟩
   repeat refine ze ?_ (by simp only[];omega) _
   exact((zI _ w).alloc (zB _) _).alloc (by simp) _
theorem Pi(q:Rat)(w:World):
 Calls prog 100 #[qv q] w fun e w'=>e=.returned (qv (-q))/\Below w.heap.size w w':=by
 have h:=QD (decide (q.num<0)) (T (some q.num.natAbs)) (T (some q.den)) w;rw[RG]at h;exact h
theorem QE(g:Bool)(n d:ByteArray)(w:World)(hn:n.size<=140)(hd:d.size<=140):
 Calls prog 101 #[.agg #[.bool g,.string n,.string d]] w fun e w'=>e=.returned (.bool false)/\Below w.heap.size w w':=by
 have h1:decide ((140:Int)<(n.size:Int))=false:=zD (by omega);have h2:decide ((140:Int)<(d.size:Int))=false:=zD (by omega);go_enter func101,ntmps101;go_wp2;go_ret;exact⟨rfl,Ba w _ _ _⟩
theorem Oa(g:Bool)(n d:ByteArray)(w:World)(h:140<n.size\/140<d.size):
 Calls prog 101 #[.agg #[.bool g,.string n,.string d]] w fun e w'=>e=.returned (.bool true)/\Below w.heap.size w w':=by
 have hk:decide ((140:Int)<(n.size:Int))=true\/(decide ((140:Int)<(n.size:Int))=false/\decide ((140:Int)<(d.size:Int))=true):=by
  simp only[yN,zM];omega
 clear h
 rcases hk with h|⟨h1,h2⟩
 all_goals
  go_enter func101,ntmps101;go_wp2;go_ret;exact⟨rfl,Ba w _ _ _⟩
theorem VQ(g1 g2:Bool)(n1 d1 n2 d2:ByteArray)(w:World)
 (v1:∀W,Calls prog 33 #[.agg #[.bool g1,.string n1,.string d1]] W fun e w'=>e=.returned (.bool false)/\Below W.heap.size W w'):
 Calls prog 56 #[.agg #[.bool g1,.string n1,.string d1],.agg #[.bool g2,.string n2,.string d2]] w fun e w'=>e=.returned (.tuple #[.agg #[.bool false,.string ⟨#[]⟩,.string ⟨#[]⟩],.int .i64 1])/\Below w.heap.size w w':=by
 have q0:=zh (TwoBoxes.new w g1 g2 n1 d1 n2 d2);have a:=zh (AI w g1 g2 n1 d1 n2 d2);replace v1:=zh v1;go_enter func56,ntmps56
 go_wp2_with fail
 refine(v1.o _).q fun w1 hb=>?_;have q1:=q0.o.below hb;have d:=a.t hb;clear hb;obtain⟨a1,a2,a3,a4,a5,a6⟩:=q1.1.facts;obtain⟨b1,b2,b3,b4,b5,b6⟩:=q1.2.1.facts;obtain⟨c1,c2,c3,c4,c5,c6⟩:=q1.2.2.facts;have c7:=q1.2.2.lt;replace q1:=zh q1;go_wp2;refine zX (v:=.tuple #[.agg #[.bool false,.string ⟨#[]⟩,.string ⟨#[]⟩],.int .i64 1]) (by simp[results,results56,go_sem,c1,c2,c3]) rfl ⟨rfl,?_⟩
 repeat refine ze ?_ (by simp only[];omega) _
 exact d.o
theorem LX(g1 g2:Bool)(n1 d1 n2 d2:ByteArray)(w:World)
 (v1:∀W,Calls prog 33 #[.agg #[.bool g1,.string n1,.string d1]] W fun e w'=>e=.returned (.bool true)/\Below W.heap.size W w')
 (v2:∀W,Calls prog 33 #[.agg #[.bool g2,.string n2,.string d2]] W fun e w'=>e=.returned (.bool true)/\Below W.heap.size W w')
 (l1:∀W,Calls prog 101 #[.agg #[.bool g1,.string n1,.string d1]] W fun e w'=>e=.returned (.bool true)/\Below W.heap.size W w'):
 Calls prog 56 #[.agg #[.bool g1,.string n1,.string d1],.agg #[.bool g2,.string n2,.string d2]] w fun e w'=>e=.returned (.tuple #[.agg #[.bool false,.string ⟨#[]⟩,.string ⟨#[]⟩],.int .i64 2])/\Below w.heap.size w w':=by
 have q0:=zh (TwoBoxes.new w g1 g2 n1 d1 n2 d2);have a:=zh (AI w g1 g2 n1 d1 n2 d2);replace v1:=zh v1;replace v2:=zh v2;replace l1:=zh l1;go_enter func56,ntmps56
 go_wp2_with fail
 refine(v1.o _).q fun w1 hb=>?_;have q1:=q0.o.below hb;have d:=a.t hb;clear hb;obtain⟨a1,a2,a3,a4,a5,a6⟩:=q1.1.facts;obtain⟨b1,b2,b3,b4,b5,b6⟩:=q1.2.1.facts;obtain⟨c1,c2,c3,c4,c5,c6⟩:=q1.2.2.facts;have c7:=q1.2.2.lt;replace q1:=zh q1
 go_wp2_with fail
 refine(v2.o _).q fun w2 hb=>?_;have q2:=q1.o.below hb;have h:=d.t hb;clear a1 a2 a3 a4 a5 a6 b1 b2 b3 b4 b5 b6 c1 c2 c3 c4 c5 c6 c7;clear hb;obtain⟨a1,a2,a3,a4,a5,a6⟩:=q2.1.facts;obtain⟨b1,b2,b3,b4,b5,b6⟩:=q2.2.1.facts;obtain⟨c1,c2,c3,c4,c5,c6⟩:=q2.2.2.facts;have c7:=q2.2.2.lt;replace q2:=zh q2
 go_wp2_with fail
 refine(l1.o _).q fun w3 hb=>?_;have q3:=q2.o.below hb;have s:=h.t hb;clear a1 a2 a3 a4 a5 a6 b1 b2 b3 b4 b5 b6 c1 c2 c3 c4 c5 c6 c7;clear hb;obtain⟨a1,a2,a3,a4,a5,a6⟩:=q3.1.facts;obtain⟨b1,b2,b3,b4,b5,b6⟩:=q3.2.1.facts;obtain⟨c1,c2,c3,c4,c5,c6⟩:=q3.2.2.facts;have c7:=q3.2.2.lt;replace q3:=zh q3;go_wp2;refine zX (v:=.tuple #[.agg #[.bool false,.string ⟨#[]⟩,.string ⟨#[]⟩],.int .i64 2]) (by simp[results,results56,go_sem,c1,c2,c3]) rfl ⟨rfl,?_⟩
 repeat refine ze ?_ (by simp only[];omega) _
 exact s.o
theorem LY(g1 g2:Bool)(n1 d1 n2 d2:ByteArray)(w:World)
 (v1:∀W,Calls prog 33 #[.agg #[.bool g1,.string n1,.string d1]] W fun e w'=>e=.returned (.bool true)/\Below W.heap.size W w')
 (v2:∀W,Calls prog 33 #[.agg #[.bool g2,.string n2,.string d2]] W fun e w'=>e=.returned (.bool true)/\Below W.heap.size W w')
 (l1:∀W,Calls prog 101 #[.agg #[.bool g1,.string n1,.string d1]] W fun e w'=>e=.returned (.bool false)/\Below W.heap.size W w')
 (l2:∀W,Calls prog 101 #[.agg #[.bool g2,.string n2,.string d2]] W fun e w'=>e=.returned (.bool true)/\Below W.heap.size W w'):
 Calls prog 56 #[.agg #[.bool g1,.string n1,.string d1],.agg #[.bool g2,.string n2,.string d2]] w fun e w'=>e=.returned (.tuple #[.agg #[.bool false,.string ⟨#[]⟩,.string ⟨#[]⟩],.int .i64 2])/\Below w.heap.size w w':=by
 have q0:=zh (TwoBoxes.new w g1 g2 n1 d1 n2 d2);have a:=zh (AI w g1 g2 n1 d1 n2 d2);replace v1:=zh v1;replace v2:=zh v2;replace l1:=zh l1;replace l2:=zh l2;go_enter func56,ntmps56
 go_wp2_with fail
 refine(v1.o _).q fun w1 hb=>?_;have q1:=q0.o.below hb;have d:=a.t hb;clear hb;obtain⟨a1,a2,a3,a4,a5,a6⟩:=q1.1.facts;obtain⟨b1,b2,b3,b4,b5,b6⟩:=q1.2.1.facts;obtain⟨c1,c2,c3,c4,c5,c6⟩:=q1.2.2.facts;have c7:=q1.2.2.lt;replace q1:=zh q1
 go_wp2_with fail
 refine(v2.o _).q fun w2 hb=>?_;have q2:=q1.o.below hb;have h:=d.t hb;clear a1 a2 a3 a4 a5 a6 b1 b2 b3 b4 b5 b6 c1 c2 c3 c4 c5 c6 c7;clear hb;obtain⟨a1,a2,a3,a4,a5,a6⟩:=q2.1.facts;obtain⟨b1,b2,b3,b4,b5,b6⟩:=q2.2.1.facts;obtain⟨c1,c2,c3,c4,c5,c6⟩:=q2.2.2.facts;have c7:=q2.2.2.lt;replace q2:=zh q2
 go_wp2_with fail
 refine(l1.o _).q fun w3 hb=>?_;have q3:=q2.o.below hb;have s:=h.t hb;clear a1 a2 a3 a4 a5 a6 b1 b2 b3 b4 b5 b6 c1 c2 c3 c4 c5 c6 c7;clear hb;obtain⟨a1,a2,a3,a4,a5,a6⟩:=q3.1.facts;obtain⟨b1,b2,b3,b4,b5,b6⟩:=q3.2.1.facts;obtain⟨c1,c2,c3,c4,c5,c6⟩:=q3.2.2.facts;have c7:=q3.2.2.lt;replace q3:=zh q3
 go_wp2_with fail
 refine(l2.o _).q fun w4 hb=>?_;have q4:=q3.o.below hb;have aa:=s.t hb;clear a1 a2 a3 a4 a5 a6 b1 b2 b3 b4 b5 b6 c1 c2 c3 c4 c5 c6 c7;clear hb;obtain⟨a1,a2,a3,a4,a5,a6⟩:=q4.1.facts;obtain⟨b1,b2,b3,b4,b5,b6⟩:=q4.2.1.facts;obtain⟨c1,c2,c3,c4,c5,c6⟩:=q4.2.2.facts;have c7:=q4.2.2.lt;replace q4:=zh q4;go_wp2;refine zX (v:=.tuple #[.agg #[.bool false,.string ⟨#[]⟩,.string ⟨#[]⟩],.int .i64 2]) (by simp[results,results56,go_sem,c1,c2,c3]) rfl ⟨rfl,?_⟩
 repeat refine ze ?_ (by simp only[];omega) _
 exact aa.o
theorem Ob(g1 g2:Bool)(n1 d1 n2 d2:ByteArray)(w:World)
 (v1:∀W,Calls prog 33 #[.agg #[.bool g1,.string n1,.string d1]] W fun e w'=>e=.returned (.bool false)/\Below W.heap.size W w'):
 Calls prog 54 #[.agg #[.bool g1,.string n1,.string d1],.agg #[.bool g2,.string n2,.string d2]] w fun e w'=>e=.returned (.tuple #[.agg #[.bool false,.string ⟨#[]⟩,.string ⟨#[]⟩],.int .i64 1])/\Below w.heap.size w w':=by
 have q0:=zh (TwoBoxes.new w g1 g2 n1 d1 n2 d2);have a:=zh (AI w g1 g2 n1 d1 n2 d2);replace v1:=zh v1;go_enter func54,ntmps54
 go_wp2_with fail
 refine(v1.o _).q fun w1 hb=>?_;have q1:=q0.o.below hb;have d:=a.t hb;clear hb;obtain⟨a1,a2,a3,a4,a5,a6⟩:=q1.1.facts;obtain⟨b1,b2,b3,b4,b5,b6⟩:=q1.2.1.facts;obtain⟨c1,c2,c3,c4,c5,c6⟩:=q1.2.2.facts;have c7:=q1.2.2.lt;replace q1:=zh q1;go_wp2;refine zX (v:=.tuple #[.agg #[.bool false,.string ⟨#[]⟩,.string ⟨#[]⟩],.int .i64 1]) (by simp[results,results54,go_sem,c1,c2,c3]) rfl ⟨rfl,?_⟩
 repeat refine ze ?_ (by simp only[];omega) _
 exact d.o
theorem Oc(g1 g2:Bool)(n1 d1 n2 d2:ByteArray)(w:World)
 (v1:∀W,Calls prog 33 #[.agg #[.bool g1,.string n1,.string d1]] W fun e w'=>e=.returned (.bool true)/\Below W.heap.size W w')
 (v2:∀W,Calls prog 33 #[.agg #[.bool g2,.string n2,.string d2]] W fun e w'=>e=.returned (.bool false)/\Below W.heap.size W w'):
 Calls prog 54 #[.agg #[.bool g1,.string n1,.string d1],.agg #[.bool g2,.string n2,.string d2]] w fun e w'=>e=.returned (.tuple #[.agg #[.bool false,.string ⟨#[]⟩,.string ⟨#[]⟩],.int .i64 1])/\Below w.heap.size w w':=by
 have q0:=zh (TwoBoxes.new w g1 g2 n1 d1 n2 d2);have a:=zh (AI w g1 g2 n1 d1 n2 d2);replace v1:=zh v1;replace v2:=zh v2;go_enter func54,ntmps54
 go_wp2_with fail
 refine(v1.o _).q fun w1 hb=>?_;have q1:=q0.o.below hb;have d:=a.t hb;clear hb;obtain⟨a1,a2,a3,a4,a5,a6⟩:=q1.1.facts;obtain⟨b1,b2,b3,b4,b5,b6⟩:=q1.2.1.facts;obtain⟨c1,c2,c3,c4,c5,c6⟩:=q1.2.2.facts;have c7:=q1.2.2.lt;replace q1:=zh q1
 go_wp2_with fail
 refine(v2.o _).q fun w2 hb=>?_;have q2:=q1.o.below hb;have h:=d.t hb;clear a1 a2 a3 a4 a5 a6 b1 b2 b3 b4 b5 b6 c1 c2 c3 c4 c5 c6 c7;clear hb;obtain⟨a1,a2,a3,a4,a5,a6⟩:=q2.1.facts;obtain⟨b1,b2,b3,b4,b5,b6⟩:=q2.2.1.facts;obtain⟨c1,c2,c3,c4,c5,c6⟩:=q2.2.2.facts;have c7:=q2.2.2.lt;replace q2:=zh q2;go_wp2;refine zX (v:=.tuple #[.agg #[.bool false,.string ⟨#[]⟩,.string ⟨#[]⟩],.int .i64 1]) (by simp[results,results54,go_sem,c1,c2,c3]) rfl ⟨rfl,?_⟩
 repeat refine ze ?_ (by simp only[];omega) _
 exact h.o
theorem LZ(g1 g2:Bool)(n1 d1 n2 d2:ByteArray)(w:World)
 (v1:∀W,Calls prog 33 #[.agg #[.bool g1,.string n1,.string d1]] W fun e w'=>e=.returned (.bool true)/\Below W.heap.size W w')
 (v2:∀W,Calls prog 33 #[.agg #[.bool g2,.string n2,.string d2]] W fun e w'=>e=.returned (.bool true)/\Below W.heap.size W w')
 (l1:∀W,Calls prog 101 #[.agg #[.bool g1,.string n1,.string d1]] W fun e w'=>e=.returned (.bool true)/\Below W.heap.size W w'):
 Calls prog 55 #[.agg #[.bool g1,.string n1,.string d1],.agg #[.bool g2,.string n2,.string d2]] w fun e w'=>e=.returned (.tuple #[.agg #[.bool false,.string ⟨#[]⟩,.string ⟨#[]⟩],.int .i64 2])/\Below w.heap.size w w':=by
 have q0:=zh (TwoBoxes.new w g1 g2 n1 d1 n2 d2);have a:=zh (AI w g1 g2 n1 d1 n2 d2);replace v1:=zh v1;replace v2:=zh v2;replace l1:=zh l1;go_enter func55,ntmps55
 go_wp2_with fail
 refine(v1.o _).q fun w1 hb=>?_;have q1:=q0.o.below hb;have d:=a.t hb;clear hb;obtain⟨a1,a2,a3,a4,a5,a6⟩:=q1.1.facts;obtain⟨b1,b2,b3,b4,b5,b6⟩:=q1.2.1.facts;obtain⟨c1,c2,c3,c4,c5,c6⟩:=q1.2.2.facts;have c7:=q1.2.2.lt;replace q1:=zh q1
 go_wp2_with fail
 refine(v2.o _).q fun w2 hb=>?_;have q2:=q1.o.below hb;have h:=d.t hb;clear a1 a2 a3 a4 a5 a6 b1 b2 b3 b4 b5 b6 c1 c2 c3 c4 c5 c6 c7;clear hb;obtain⟨a1,a2,a3,a4,a5,a6⟩:=q2.1.facts;obtain⟨b1,b2,b3,b4,b5,b6⟩:=q2.2.1.facts;obtain⟨c1,c2,c3,c4,c5,c6⟩:=q2.2.2.facts;have c7:=q2.2.2.lt;replace q2:=zh q2
 go_wp2_with fail
 refine(l1.o _).q fun w3 hb=>?_;have q3:=q2.o.below hb;have s:=h.t hb;clear a1 a2 a3 a4 a5 a6 b1 b2 b3 b4 b5 b6 c1 c2 c3 c4 c5 c6 c7;clear hb;obtain⟨a1,a2,a3,a4,a5,a6⟩:=q3.1.facts;obtain⟨b1,b2,b3,b4,b5,b6⟩:=q3.2.1.facts;obtain⟨c1,c2,c3,c4,c5,c6⟩:=q3.2.2.facts;have c7:=q3.2.2.lt;replace q3:=zh q3;go_wp2;refine zX (v:=.tuple #[.agg #[.bool false,.string ⟨#[]⟩,.string ⟨#[]⟩],.int .i64 2]) (by simp[results,results55,go_sem,c1,c2,c3]) rfl ⟨rfl,?_⟩
 repeat refine ze ?_ (by simp only[];omega) _
 exact s.o
theorem Ma(g1 g2:Bool)(n1 d1 n2 d2:ByteArray)(w:World)
 (v1:∀W,Calls prog 33 #[.agg #[.bool g1,.string n1,.string d1]] W fun e w'=>e=.returned (.bool true)/\Below W.heap.size W w')
 (v2:∀W,Calls prog 33 #[.agg #[.bool g2,.string n2,.string d2]] W fun e w'=>e=.returned (.bool true)/\Below W.heap.size W w')
 (l1:∀W,Calls prog 101 #[.agg #[.bool g1,.string n1,.string d1]] W fun e w'=>e=.returned (.bool false)/\Below W.heap.size W w')
 (l2:∀W,Calls prog 101 #[.agg #[.bool g2,.string n2,.string d2]] W fun e w'=>e=.returned (.bool true)/\Below W.heap.size W w'):
 Calls prog 55 #[.agg #[.bool g1,.string n1,.string d1],.agg #[.bool g2,.string n2,.string d2]] w fun e w'=>e=.returned (.tuple #[.agg #[.bool false,.string ⟨#[]⟩,.string ⟨#[]⟩],.int .i64 2])/\Below w.heap.size w w':=by
 have q0:=zh (TwoBoxes.new w g1 g2 n1 d1 n2 d2);have a:=zh (AI w g1 g2 n1 d1 n2 d2);replace v1:=zh v1;replace v2:=zh v2;replace l1:=zh l1;replace l2:=zh l2;go_enter func55,ntmps55
 go_wp2_with fail
 refine(v1.o _).q fun w1 hb=>?_;have q1:=q0.o.below hb;have d:=a.t hb;clear hb;obtain⟨a1,a2,a3,a4,a5,a6⟩:=q1.1.facts;obtain⟨b1,b2,b3,b4,b5,b6⟩:=q1.2.1.facts;obtain⟨c1,c2,c3,c4,c5,c6⟩:=q1.2.2.facts;have c7:=q1.2.2.lt;replace q1:=zh q1
 go_wp2_with fail
 refine(v2.o _).q fun w2 hb=>?_;have q2:=q1.o.below hb;have h:=d.t hb;clear a1 a2 a3 a4 a5 a6 b1 b2 b3 b4 b5 b6 c1 c2 c3 c4 c5 c6 c7;clear hb;obtain⟨a1,a2,a3,a4,a5,a6⟩:=q2.1.facts;obtain⟨b1,b2,b3,b4,b5,b6⟩:=q2.2.1.facts;obtain⟨c1,c2,c3,c4,c5,c6⟩:=q2.2.2.facts;have c7:=q2.2.2.lt;replace q2:=zh q2
 go_wp2_with fail
 refine(l1.o _).q fun w3 hb=>?_;have q3:=q2.o.below hb;have s:=h.t hb;clear a1 a2 a3 a4 a5 a6 b1 b2 b3 b4 b5 b6 c1 c2 c3 c4 c5 c6 c7;clear hb;obtain⟨a1,a2,a3,a4,a5,a6⟩:=q3.1.facts;obtain⟨b1,b2,b3,b4,b5,b6⟩:=q3.2.1.facts;obtain⟨c1,c2,c3,c4,c5,c6⟩:=q3.2.2.facts;have c7:=q3.2.2.lt;replace q3:=zh q3
 go_wp2_with fail
 refine(l2.o _).q fun w4 hb=>?_;have q4:=q3.o.below hb;have aa:=s.t hb;clear a1 a2 a3 a4 a5 a6 b1 b2 b3 b4 b5 b6 c1 c2 c3 c4 c5 c6 c7;clear hb;obtain⟨a1,a2,a3,a4,a5,a6⟩:=q4.1.facts;obtain⟨b1,b2,b3,b4,b5,b6⟩:=q4.2.1.facts;obtain⟨c1,c2,c3,c4,c5,c6⟩:=q4.2.2.facts;have c7:=q4.2.2.lt;replace q4:=zh q4;go_wp2;refine zX (v:=.tuple #[.agg #[.bool false,.string ⟨#[]⟩,.string ⟨#[]⟩],.int .i64 2]) (by simp[results,results55,go_sem,c1,c2,c3]) rfl ⟨rfl,?_⟩
 repeat refine ze ?_ (by simp only[];omega) _
 exact aa.o
theorem Od(g1:Bool)(n1 d1 n2 d2:ByteArray)(x y z s:ByteArray)(r:Bool)(n d:ByteArray)(E:Int)(w:World)
 (v1:∀W,Calls prog 33 #[.agg #[.bool g1,.string n1,.string d1]] W fun e w'=>e=.returned (.bool true)/\Below W.heap.size W w')
 (v2:∀W,Calls prog 33 #[.agg #[.bool g1,.string n2,.string d2]] W fun e w'=>e=.returned (.bool true)/\Below W.heap.size W w')
 (l1:∀W,Calls prog 101 #[.agg #[.bool g1,.string n1,.string d1]] W fun e w'=>e=.returned (.bool false)/\Below W.heap.size W w')
 (l2:∀W,Calls prog 101 #[.agg #[.bool g1,.string n2,.string d2]] W fun e w'=>e=.returned (.bool false)/\Below W.heap.size W w')
 (mx:∀W,Calls prog 36 #[.string n1,.string d2] W fun e w'=>e=.returned (.tuple #[.string x,.int .i64 0])/\Below W.heap.size W w')
 (my:∀W,Calls prog 36 #[.string n2,.string d1] W fun e w'=>e=.returned (.tuple #[.string y,.int .i64 0])/\Below W.heap.size W w')
 (mz:∀W,Calls prog 36 #[.string d1,.string d2] W fun e w'=>e=.returned (.tuple #[.string z,.int .i64 0])/\Below W.heap.size W w')
 (ks:∀W,Calls prog 103 #[.string x,.string y] W fun e w'=>e=.returned (.tuple #[.string s,.int .i64 0])/\Below W.heap.size W w')
 (kr:∀W,Calls prog 102 #[.bool g1,.string s,.string z] W fun e w'=>e=.returned (.tuple #[.agg #[.bool r,.string n,.string d],.int .i64 E])/\Below W.heap.size W w'):
 Calls prog 56 #[.agg #[.bool g1,.string n1,.string d1],.agg #[.bool g1,.string n2,.string d2]] w fun e w'=>e=.returned (.tuple #[.agg #[.bool r,.string n,.string d],.int .i64 E])/\Below w.heap.size w w':=by
 have q0:=zh (TwoBoxes.new w g1 g1 n1 d1 n2 d2);have a:=zh (AI w g1 g1 n1 d1 n2 d2);replace v1:=zh v1;replace v2:=zh v2;replace l1:=zh l1;replace l2:=zh l2;replace mx:=zh mx;replace my:=zh my;replace mz:=zh mz;replace ks:=zh ks;replace kr:=zh kr;go_enter func56,ntmps56
 go_wp2_with fail
 refine(v1.o _).q fun w1 hb=>?_;have q1:=q0.o.below hb;have h:=a.t hb;clear hb;obtain⟨a1,a2,a3,a4,a5,a6⟩:=q1.1.facts;obtain⟨b1,b2,b3,b4,b5,b6⟩:=q1.2.1.facts;obtain⟨c1,c2,c3,c4,c5,c6⟩:=q1.2.2.facts;have c7:=q1.2.2.lt;replace q1:=zh q1
 go_wp2_with fail
 refine(v2.o _).q fun w2 hb=>?_;have q2:=q1.o.below hb;have aa:=h.t hb;clear a1 a2 a3 a4 a5 a6 b1 b2 b3 b4 b5 b6 c1 c2 c3 c4 c5 c6 c7;clear hb;obtain⟨a1,a2,a3,a4,a5,a6⟩:=q2.1.facts;obtain⟨b1,b2,b3,b4,b5,b6⟩:=q2.2.1.facts;obtain⟨c1,c2,c3,c4,c5,c6⟩:=q2.2.2.facts;have c7:=q2.2.2.lt;replace q2:=zh q2
 go_wp2_with fail
 refine(l1.o _).q fun w3 hb=>?_;have q3:=q2.o.below hb;have ab:=aa.t hb;clear a1 a2 a3 a4 a5 a6 b1 b2 b3 b4 b5 b6 c1 c2 c3 c4 c5 c6 c7;clear hb;obtain⟨a1,a2,a3,a4,a5,a6⟩:=q3.1.facts;obtain⟨b1,b2,b3,b4,b5,b6⟩:=q3.2.1.facts;obtain⟨c1,c2,c3,c4,c5,c6⟩:=q3.2.2.facts;have c7:=q3.2.2.lt;replace q3:=zh q3
 go_wp2_with fail
 refine(l2.o _).q fun w4 hb=>?_;have q4:=q3.o.below hb;have ad:=ab.t hb;clear a1 a2 a3 a4 a5 a6 b1 b2 b3 b4 b5 b6 c1 c2 c3 c4 c5 c6 c7;clear hb;obtain⟨a1,a2,a3,a4,a5,a6⟩:=q4.1.facts;obtain⟨b1,b2,b3,b4,b5,b6⟩:=q4.2.1.facts;obtain⟨c1,c2,c3,c4,c5,c6⟩:=q4.2.2.facts;have c7:=q4.2.2.lt;replace q4:=zh q4
 go_wp2_with fail
 refine(mx.o _).q fun w5 hb=>?_;have q5:=q4.o.below hb;have ae:=ad.t hb;clear a1 a2 a3 a4 a5 a6 b1 b2 b3 b4 b5 b6 c1 c2 c3 c4 c5 c6 c7;clear hb;obtain⟨a1,a2,a3,a4,a5,a6⟩:=q5.1.facts;obtain⟨b1,b2,b3,b4,b5,b6⟩:=q5.2.1.facts;obtain⟨c1,c2,c3,c4,c5,c6⟩:=q5.2.2.facts;have c7:=q5.2.2.lt;replace q5:=zh q5
 go_wp2_with fail
 refine(my.o _).q fun w6 hb=>?_;have q6:=q5.o.below hb;have af:=ae.t hb;clear a1 a2 a3 a4 a5 a6 b1 b2 b3 b4 b5 b6 c1 c2 c3 c4 c5 c6 c7;clear hb;obtain⟨a1,a2,a3,a4,a5,a6⟩:=q6.1.facts;obtain⟨b1,b2,b3,b4,b5,b6⟩:=q6.2.1.facts;obtain⟨c1,c2,c3,c4,c5,c6⟩:=q6.2.2.facts;have c7:=q6.2.2.lt;replace q6:=zh q6
 go_wp2_with fail
 refine(mz.o _).q fun w7 hb=>?_;have q7:=q6.o.below hb;have ag:=af.t hb;clear a1 a2 a3 a4 a5 a6 b1 b2 b3 b4 b5 b6 c1 c2 c3 c4 c5 c6 c7;clear hb;obtain⟨a1,a2,a3,a4,a5,a6⟩:=q7.1.facts;obtain⟨b1,b2,b3,b4,b5,b6⟩:=q7.2.1.facts;obtain⟨c1,c2,c3,c4,c5,c6⟩:=q7.2.2.facts;have c7:=q7.2.2.lt;replace q7:=zh q7
 go_wp2_with fail
 refine(ks.o _).q fun w8 hb=>?_;have q8:=q7.o.below hb;have ah:=ag.t hb;clear a1 a2 a3 a4 a5 a6 b1 b2 b3 b4 b5 b6 c1 c2 c3 c4 c5 c6 c7;clear hb;obtain⟨a1,a2,a3,a4,a5,a6⟩:=q8.1.facts;obtain⟨b1,b2,b3,b4,b5,b6⟩:=q8.2.1.facts;obtain⟨c1,c2,c3,c4,c5,c6⟩:=q8.2.2.facts;have c7:=q8.2.2.lt;replace q8:=zh q8
 go_wp2_with fail
 refine(kr.o _).q fun w9 hb=>?_;have q9:=q8.o.below hb;have ai:=ah.t hb;clear a1 a2 a3 a4 a5 a6 b1 b2 b3 b4 b5 b6 c1 c2 c3 c4 c5 c6 c7;clear hb;obtain⟨a1,a2,a3,a4,a5,a6⟩:=q9.1.facts;obtain⟨b1,b2,b3,b4,b5,b6⟩:=q9.2.1.facts;obtain⟨c1,c2,c3,c4,c5,c6⟩:=q9.2.2.facts;have c7:=q9.2.2.lt;replace q9:=zh q9;go_wp2;refine zX (v:=.tuple #[.agg #[.bool r,.string n,.string d],.int .i64 E]) (by simp[results,results56,go_sem,c1,c2,c3]) rfl ⟨rfl,?_⟩
 repeat refine ze ?_ (by simp only[];omega) _
 exact ai.o
theorem Oe(g1 g2:Bool)(n1 d1 n2 d2:ByteArray)(x y z s:ByteArray)(r:Bool)(n d:ByteArray)(E:Int)(c:Int)(hc:c<0)(hg:(g1==g2)=false)(w:World)
 (v1:∀W,Calls prog 33 #[.agg #[.bool g1,.string n1,.string d1]] W fun e w'=>e=.returned (.bool true)/\Below W.heap.size W w')
 (v2:∀W,Calls prog 33 #[.agg #[.bool g2,.string n2,.string d2]] W fun e w'=>e=.returned (.bool true)/\Below W.heap.size W w')
 (l1:∀W,Calls prog 101 #[.agg #[.bool g1,.string n1,.string d1]] W fun e w'=>e=.returned (.bool false)/\Below W.heap.size W w')
 (l2:∀W,Calls prog 101 #[.agg #[.bool g2,.string n2,.string d2]] W fun e w'=>e=.returned (.bool false)/\Below W.heap.size W w')
 (mx:∀W,Calls prog 36 #[.string n1,.string d2] W fun e w'=>e=.returned (.tuple #[.string x,.int .i64 0])/\Below W.heap.size W w')
 (my:∀W,Calls prog 36 #[.string n2,.string d1] W fun e w'=>e=.returned (.tuple #[.string y,.int .i64 0])/\Below W.heap.size W w')
 (mz:∀W,Calls prog 36 #[.string d1,.string d2] W fun e w'=>e=.returned (.tuple #[.string z,.int .i64 0])/\Below W.heap.size W w')
 (kc:∀W,Calls prog 104 #[.string x,.string y] W fun e w'=>e=.returned (.tuple #[.int .i64 c,.int .i64 0])/\Below W.heap.size W w')
 (ks:∀W,Calls prog 105 #[.string y,.string x] W fun e w'=>e=.returned (.tuple #[.string s,.int .i64 0])/\Below W.heap.size W w')
 (kr:∀W,Calls prog 102 #[.bool g2,.string s,.string z] W fun e w'=>e=.returned (.tuple #[.agg #[.bool r,.string n,.string d],.int .i64 E])/\Below W.heap.size W w'):
 Calls prog 56 #[.agg #[.bool g1,.string n1,.string d1],.agg #[.bool g2,.string n2,.string d2]] w fun e w'=>e=.returned (.tuple #[.agg #[.bool r,.string n,.string d],.int .i64 E])/\Below w.heap.size w w':=by
 have q0:=zh (TwoBoxes.new w g1 g2 n1 d1 n2 d2);have h:=zh (AI w g1 g2 n1 d1 n2 d2);replace v1:=zh v1;replace v2:=zh v2;replace l1:=zh l1;replace l2:=zh l2;replace mx:=zh mx;replace my:=zh my;replace mz:=zh mz;replace kc:=zh kc;replace ks:=zh ks;replace kr:=zh kr;go_enter func56,ntmps56
 go_wp2_with fail
 refine(v1.o _).q fun w1 hb=>?_;have q1:=q0.o.below hb;have aa:=h.t hb;clear hb;obtain⟨a1,a2,a3,a4,a5,a6⟩:=q1.1.facts;obtain⟨b1,b2,b3,b4,b5,b6⟩:=q1.2.1.facts;obtain⟨c1,c2,c3,c4,c5,c6⟩:=q1.2.2.facts;have c7:=q1.2.2.lt;replace q1:=zh q1
 go_wp2_with fail
 refine(v2.o _).q fun w2 hb=>?_;have q2:=q1.o.below hb;have ad:=aa.t hb;clear a1 a2 a3 a4 a5 a6 b1 b2 b3 b4 b5 b6 c1 c2 c3 c4 c5 c6 c7;clear hb;obtain⟨a1,a2,a3,a4,a5,a6⟩:=q2.1.facts;obtain⟨b1,b2,b3,b4,b5,b6⟩:=q2.2.1.facts;obtain⟨c1,c2,c3,c4,c5,c6⟩:=q2.2.2.facts;have c7:=q2.2.2.lt;replace q2:=zh q2
 go_wp2_with fail
 refine(l1.o _).q fun w3 hb=>?_;have q3:=q2.o.below hb;have ae:=ad.t hb;clear a1 a2 a3 a4 a5 a6 b1 b2 b3 b4 b5 b6 c1 c2 c3 c4 c5 c6 c7;clear hb;obtain⟨a1,a2,a3,a4,a5,a6⟩:=q3.1.facts;obtain⟨b1,b2,b3,b4,b5,b6⟩:=q3.2.1.facts;obtain⟨c1,c2,c3,c4,c5,c6⟩:=q3.2.2.facts;have c7:=q3.2.2.lt;replace q3:=zh q3
 go_wp2_with fail
 refine(l2.o _).q fun w4 hb=>?_;have q4:=q3.o.below hb;have af:=ae.t hb;clear a1 a2 a3 a4 a5 a6 b1 b2 b3 b4 b5 b6 c1 c2 c3 c4 c5 c6 c7;clear hb;obtain⟨a1,a2,a3,a4,a5,a6⟩:=q4.1.facts;obtain⟨b1,b2,b3,b4,b5,b6⟩:=q4.2.1.facts;obtain⟨c1,c2,c3,c4,c5,c6⟩:=q4.2.2.facts;have c7:=q4.2.2.lt;replace q4:=zh q4
 go_wp2_with fail
 refine(mx.o _).q fun w5 hb=>?_;have q5:=q4.o.below hb;have ag:=af.t hb;clear a1 a2 a3 a4 a5 a6 b1 b2 b3 b4 b5 b6 c1 c2 c3 c4 c5 c6 c7;clear hb;obtain⟨a1,a2,a3,a4,a5,a6⟩:=q5.1.facts;obtain⟨b1,b2,b3,b4,b5,b6⟩:=q5.2.1.facts;obtain⟨c1,c2,c3,c4,c5,c6⟩:=q5.2.2.facts;have c7:=q5.2.2.lt;replace q5:=zh q5
 go_wp2_with fail
 refine(my.o _).q fun w6 hb=>?_;have q6:=q5.o.below hb;have ah:=ag.t hb;clear a1 a2 a3 a4 a5 a6 b1 b2 b3 b4 b5 b6 c1 c2 c3 c4 c5 c6 c7;clear hb;obtain⟨a1,a2,a3,a4,a5,a6⟩:=q6.1.facts;obtain⟨b1,b2,b3,b4,b5,b6⟩:=q6.2.1.facts;obtain⟨c1,c2,c3,c4,c5,c6⟩:=q6.2.2.facts;have c7:=q6.2.2.lt;replace q6:=zh q6
 go_wp2_with fail
 refine(mz.o _).q fun w7 hb=>?_;have q7:=q6.o.below hb;have ai:=ah.t hb;clear a1 a2 a3 a4 a5 a6 b1 b2 b3 b4 b5 b6 c1 c2 c3 c4 c5 c6 c7;clear hb;obtain⟨a1,a2,a3,a4,a5,a6⟩:=q7.1.facts;obtain⟨b1,b2,b3,b4,b5,b6⟩:=q7.2.1.facts;obtain⟨c1,c2,c3,c4,c5,c6⟩:=q7.2.2.facts;have c7:=q7.2.2.lt;replace q7:=zh q7
 go_wp2_with fail
 refine(kc.o _).q fun w8 hb=>?_;have q8:=q7.o.below hb;have aj:=ai.t hb;clear a1 a2 a3 a4 a5 a6 b1 b2 b3 b4 b5 b6 c1 c2 c3 c4 c5 c6 c7;clear hb;obtain⟨a1,a2,a3,a4,a5,a6⟩:=q8.1.facts;obtain⟨b1,b2,b3,b4,b5,b6⟩:=q8.2.1.facts;obtain⟨c1,c2,c3,c4,c5,c6⟩:=q8.2.2.facts;have c7:=q8.2.2.lt;replace q8:=zh q8
 go_wp2_with fail
 refine(ks.o _).q fun w9 hb=>?_;have q9:=q8.o.below hb;have ak:=aj.t hb;clear a1 a2 a3 a4 a5 a6 b1 b2 b3 b4 b5 b6 c1 c2 c3 c4 c5 c6 c7;clear hb;obtain⟨a1,a2,a3,a4,a5,a6⟩:=q9.1.facts;obtain⟨b1,b2,b3,b4,b5,b6⟩:=q9.2.1.facts;obtain⟨c1,c2,c3,c4,c5,c6⟩:=q9.2.2.facts;have c7:=q9.2.2.lt;replace q9:=zh q9
 go_wp2_with fail
 refine(kr.o _).q fun al hb=>?_;have a:=q9.o.below hb;have ab:=ak.t hb;clear a1 a2 a3 a4 a5 a6 b1 b2 b3 b4 b5 b6 c1 c2 c3 c4 c5 c6 c7;clear hb;obtain⟨a1,a2,a3,a4,a5,a6⟩:=a.1.facts;obtain⟨b1,b2,b3,b4,b5,b6⟩:=a.2.1.facts;obtain⟨c1,c2,c3,c4,c5,c6⟩:=a.2.2.facts;have c7:=a.2.2.lt;replace a:=zh a;go_wp2;refine zX (v:=.tuple #[.agg #[.bool r,.string n,.string d],.int .i64 E]) (by simp[results,results56,go_sem,c1,c2,c3]) rfl ⟨rfl,?_⟩
 repeat refine ze ?_ (by simp only[];omega) _
 exact ab.o
theorem Of(g1 g2:Bool)(n1 d1 n2 d2:ByteArray)(x y z s:ByteArray)(r:Bool)(n d:ByteArray)(E:Int)(c:Int)(hc:0<=c)(hg:(g1==g2)=false)(w:World)
 (v1:∀W,Calls prog 33 #[.agg #[.bool g1,.string n1,.string d1]] W fun e w'=>e=.returned (.bool true)/\Below W.heap.size W w')
 (v2:∀W,Calls prog 33 #[.agg #[.bool g2,.string n2,.string d2]] W fun e w'=>e=.returned (.bool true)/\Below W.heap.size W w')
 (l1:∀W,Calls prog 101 #[.agg #[.bool g1,.string n1,.string d1]] W fun e w'=>e=.returned (.bool false)/\Below W.heap.size W w')
 (l2:∀W,Calls prog 101 #[.agg #[.bool g2,.string n2,.string d2]] W fun e w'=>e=.returned (.bool false)/\Below W.heap.size W w')
 (mx:∀W,Calls prog 36 #[.string n1,.string d2] W fun e w'=>e=.returned (.tuple #[.string x,.int .i64 0])/\Below W.heap.size W w')
 (my:∀W,Calls prog 36 #[.string n2,.string d1] W fun e w'=>e=.returned (.tuple #[.string y,.int .i64 0])/\Below W.heap.size W w')
 (mz:∀W,Calls prog 36 #[.string d1,.string d2] W fun e w'=>e=.returned (.tuple #[.string z,.int .i64 0])/\Below W.heap.size W w')
 (kc:∀W,Calls prog 104 #[.string x,.string y] W fun e w'=>e=.returned (.tuple #[.int .i64 c,.int .i64 0])/\Below W.heap.size W w')
 (ks:∀W,Calls prog 105 #[.string x,.string y] W fun e w'=>e=.returned (.tuple #[.string s,.int .i64 0])/\Below W.heap.size W w')
 (kr:∀W,Calls prog 102 #[.bool g1,.string s,.string z] W fun e w'=>e=.returned (.tuple #[.agg #[.bool r,.string n,.string d],.int .i64 E])/\Below W.heap.size W w'):
 Calls prog 56 #[.agg #[.bool g1,.string n1,.string d1],.agg #[.bool g2,.string n2,.string d2]] w fun e w'=>e=.returned (.tuple #[.agg #[.bool r,.string n,.string d],.int .i64 E])/\Below w.heap.size w w':=by
 have q0:=zh (TwoBoxes.new w g1 g2 n1 d1 n2 d2);have h:=zh (AI w g1 g2 n1 d1 n2 d2);replace v1:=zh v1;replace v2:=zh v2;replace l1:=zh l1;replace l2:=zh l2;replace mx:=zh mx;replace my:=zh my;replace mz:=zh mz;replace kc:=zh kc;replace ks:=zh ks;replace kr:=zh kr;go_enter func56,ntmps56
 go_wp2_with fail
 refine(v1.o _).q fun w1 hb=>?_;have q1:=q0.o.below hb;have aa:=h.t hb;clear hb;obtain⟨a1,a2,a3,a4,a5,a6⟩:=q1.1.facts;obtain⟨b1,b2,b3,b4,b5,b6⟩:=q1.2.1.facts;obtain⟨c1,c2,c3,c4,c5,c6⟩:=q1.2.2.facts;have c7:=q1.2.2.lt;replace q1:=zh q1
 go_wp2_with fail
 refine(v2.o _).q fun w2 hb=>?_;have q2:=q1.o.below hb;have ad:=aa.t hb;clear a1 a2 a3 a4 a5 a6 b1 b2 b3 b4 b5 b6 c1 c2 c3 c4 c5 c6 c7;clear hb;obtain⟨a1,a2,a3,a4,a5,a6⟩:=q2.1.facts;obtain⟨b1,b2,b3,b4,b5,b6⟩:=q2.2.1.facts;obtain⟨c1,c2,c3,c4,c5,c6⟩:=q2.2.2.facts;have c7:=q2.2.2.lt;replace q2:=zh q2
 go_wp2_with fail
 refine(l1.o _).q fun w3 hb=>?_;have q3:=q2.o.below hb;have ae:=ad.t hb;clear a1 a2 a3 a4 a5 a6 b1 b2 b3 b4 b5 b6 c1 c2 c3 c4 c5 c6 c7;clear hb;obtain⟨a1,a2,a3,a4,a5,a6⟩:=q3.1.facts;obtain⟨b1,b2,b3,b4,b5,b6⟩:=q3.2.1.facts;obtain⟨c1,c2,c3,c4,c5,c6⟩:=q3.2.2.facts;have c7:=q3.2.2.lt;replace q3:=zh q3
 go_wp2_with fail
 refine(l2.o _).q fun w4 hb=>?_;have q4:=q3.o.below hb;have af:=ae.t hb;clear a1 a2 a3 a4 a5 a6 b1 b2 b3 b4 b5 b6 c1 c2 c3 c4 c5 c6 c7;clear hb;obtain⟨a1,a2,a3,a4,a5,a6⟩:=q4.1.facts;obtain⟨b1,b2,b3,b4,b5,b6⟩:=q4.2.1.facts;obtain⟨c1,c2,c3,c4,c5,c6⟩:=q4.2.2.facts;have c7:=q4.2.2.lt;replace q4:=zh q4
 go_wp2_with fail
 refine(mx.o _).q fun w5 hb=>?_;have q5:=q4.o.below hb;have ag:=af.t hb;clear a1 a2 a3 a4 a5 a6 b1 b2 b3 b4 b5 b6 c1 c2 c3 c4 c5 c6 c7;clear hb;obtain⟨a1,a2,a3,a4,a5,a6⟩:=q5.1.facts;obtain⟨b1,b2,b3,b4,b5,b6⟩:=q5.2.1.facts;obtain⟨c1,c2,c3,c4,c5,c6⟩:=q5.2.2.facts;have c7:=q5.2.2.lt;replace q5:=zh q5
 go_wp2_with fail
 refine(my.o _).q fun w6 hb=>?_;have q6:=q5.o.below hb;have ah:=ag.t hb;clear a1 a2 a3 a4 a5 a6 b1 b2 b3 b4 b5 b6 c1 c2 c3 c4 c5 c6 c7;clear hb;obtain⟨a1,a2,a3,a4,a5,a6⟩:=q6.1.facts;obtain⟨b1,b2,b3,b4,b5,b6⟩:=q6.2.1.facts;obtain⟨c1,c2,c3,c4,c5,c6⟩:=q6.2.2.facts;have c7:=q6.2.2.lt;replace q6:=zh q6
 go_wp2_with fail
 refine(mz.o _).q fun w7 hb=>?_;have q7:=q6.o.below hb;have ai:=ah.t hb;clear a1 a2 a3 a4 a5 a6 b1 b2 b3 b4 b5 b6 c1 c2 c3 c4 c5 c6 c7;clear hb;obtain⟨a1,a2,a3,a4,a5,a6⟩:=q7.1.facts;obtain⟨b1,b2,b3,b4,b5,b6⟩:=q7.2.1.facts;obtain⟨c1,c2,c3,c4,c5,c6⟩:=q7.2.2.facts;have c7:=q7.2.2.lt;replace q7:=zh q7
 go_wp2_with fail
 refine(kc.o _).q fun w8 hb=>?_;have q8:=q7.o.below hb;have aj:=ai.t hb;clear a1 a2 a3 a4 a5 a6 b1 b2 b3 b4 b5 b6 c1 c2 c3 c4 c5 c6 c7;clear hb;obtain⟨a1,a2,a3,a4,a5,a6⟩:=q8.1.facts;obtain⟨b1,b2,b3,b4,b5,b6⟩:=q8.2.1.facts;obtain⟨c1,c2,c3,c4,c5,c6⟩:=q8.2.2.facts;have c7:=q8.2.2.lt;replace q8:=zh q8
 go_wp2_with fail
 refine(ks.o _).q fun w9 hb=>?_;have q9:=q8.o.below hb;have ak:=aj.t hb;clear a1 a2 a3 a4 a5 a6 b1 b2 b3 b4 b5 b6 c1 c2 c3 c4 c5 c6 c7;clear hb;obtain⟨a1,a2,a3,a4,a5,a6⟩:=q9.1.facts;obtain⟨b1,b2,b3,b4,b5,b6⟩:=q9.2.1.facts;obtain⟨c1,c2,c3,c4,c5,c6⟩:=q9.2.2.facts;have c7:=q9.2.2.lt;replace q9:=zh q9
 go_wp2_with fail
 refine(kr.o _).q fun al hb=>?_;have a:=q9.o.below hb;have ab:=ak.t hb;clear a1 a2 a3 a4 a5 a6 b1 b2 b3 b4 b5 b6 c1 c2 c3 c4 c5 c6 c7;clear hb;obtain⟨a1,a2,a3,a4,a5,a6⟩:=a.1.facts;obtain⟨b1,b2,b3,b4,b5,b6⟩:=a.2.1.facts;obtain⟨c1,c2,c3,c4,c5,c6⟩:=a.2.2.facts;have c7:=a.2.2.lt;replace a:=zh a;go_wp2;refine zX (v:=.tuple #[.agg #[.bool r,.string n,.string d],.int .i64 E]) (by simp[results,results56,go_sem,c1,c2,c3]) rfl ⟨rfl,?_⟩
 repeat refine ze ?_ (by simp only[];omega) _
 exact ab.o
theorem Tq(g1 g2:Bool)(n1 d1 n2 d2:ByteArray)(x z:ByteArray)(r:Bool)(n d:ByteArray)(E:Int)(w:World)
 (v1:∀W,Calls prog 33 #[.agg #[.bool g1,.string n1,.string d1]] W fun e w'=>e=.returned (.bool true)/\Below W.heap.size W w')
 (v2:∀W,Calls prog 33 #[.agg #[.bool g2,.string n2,.string d2]] W fun e w'=>e=.returned (.bool true)/\Below W.heap.size W w')
 (l1:∀W,Calls prog 101 #[.agg #[.bool g1,.string n1,.string d1]] W fun e w'=>e=.returned (.bool false)/\Below W.heap.size W w')
 (l2:∀W,Calls prog 101 #[.agg #[.bool g2,.string n2,.string d2]] W fun e w'=>e=.returned (.bool false)/\Below W.heap.size W w')
 (mx:∀W,Calls prog 36 #[.string n1,.string n2] W fun e w'=>e=.returned (.tuple #[.string x,.int .i64 0])/\Below W.heap.size W w')
 (mz:∀W,Calls prog 36 #[.string d1,.string d2] W fun e w'=>e=.returned (.tuple #[.string z,.int .i64 0])/\Below W.heap.size W w')
 (kr:∀W,Calls prog 102 #[.bool (!(g1==g2)),.string x,.string z] W fun e w'=>e=.returned (.tuple #[.agg #[.bool r,.string n,.string d],.int .i64 E])/\Below W.heap.size W w'):
 Calls prog 55 #[.agg #[.bool g1,.string n1,.string d1],.agg #[.bool g2,.string n2,.string d2]] w fun e w'=>e=.returned (.tuple #[.agg #[.bool r,.string n,.string d],.int .i64 E])/\Below w.heap.size w w':=by
 have q0:=zh (TwoBoxes.new w g1 g2 n1 d1 n2 d2);have a:=zh (AI w g1 g2 n1 d1 n2 d2);replace v1:=zh v1;replace v2:=zh v2;replace l1:=zh l1;replace l2:=zh l2;replace mx:=zh mx;replace mz:=zh mz;replace kr:=zh kr;go_enter func55,ntmps55
 go_wp2_with fail
 refine(v1.o _).q fun w1 hb=>?_;have q1:=q0.o.below hb;have h:=a.t hb;clear hb;obtain⟨a1,a2,a3,a4,a5,a6⟩:=q1.1.facts;obtain⟨b1,b2,b3,b4,b5,b6⟩:=q1.2.1.facts;obtain⟨c1,c2,c3,c4,c5,c6⟩:=q1.2.2.facts;have c7:=q1.2.2.lt;replace q1:=zh q1
 go_wp2_with fail
 refine(v2.o _).q fun w2 hb=>?_;have q2:=q1.o.below hb;have s:=h.t hb;clear a1 a2 a3 a4 a5 a6 b1 b2 b3 b4 b5 b6 c1 c2 c3 c4 c5 c6 c7;clear hb;obtain⟨a1,a2,a3,a4,a5,a6⟩:=q2.1.facts;obtain⟨b1,b2,b3,b4,b5,b6⟩:=q2.2.1.facts;obtain⟨c1,c2,c3,c4,c5,c6⟩:=q2.2.2.facts;have c7:=q2.2.2.lt;replace q2:=zh q2
 go_wp2_with fail
 refine(l1.o _).q fun w3 hb=>?_;have q3:=q2.o.below hb;have aa:=s.t hb;clear a1 a2 a3 a4 a5 a6 b1 b2 b3 b4 b5 b6 c1 c2 c3 c4 c5 c6 c7;clear hb;obtain⟨a1,a2,a3,a4,a5,a6⟩:=q3.1.facts;obtain⟨b1,b2,b3,b4,b5,b6⟩:=q3.2.1.facts;obtain⟨c1,c2,c3,c4,c5,c6⟩:=q3.2.2.facts;have c7:=q3.2.2.lt;replace q3:=zh q3
 go_wp2_with fail
 refine(l2.o _).q fun w4 hb=>?_;have q4:=q3.o.below hb;have ab:=aa.t hb;clear a1 a2 a3 a4 a5 a6 b1 b2 b3 b4 b5 b6 c1 c2 c3 c4 c5 c6 c7;clear hb;obtain⟨a1,a2,a3,a4,a5,a6⟩:=q4.1.facts;obtain⟨b1,b2,b3,b4,b5,b6⟩:=q4.2.1.facts;obtain⟨c1,c2,c3,c4,c5,c6⟩:=q4.2.2.facts;have c7:=q4.2.2.lt;replace q4:=zh q4
 go_wp2_with fail
 refine(mx.o _).q fun w5 hb=>?_;have q5:=q4.o.below hb;have ad:=ab.t hb;clear a1 a2 a3 a4 a5 a6 b1 b2 b3 b4 b5 b6 c1 c2 c3 c4 c5 c6 c7;clear hb;obtain⟨a1,a2,a3,a4,a5,a6⟩:=q5.1.facts;obtain⟨b1,b2,b3,b4,b5,b6⟩:=q5.2.1.facts;obtain⟨c1,c2,c3,c4,c5,c6⟩:=q5.2.2.facts;have c7:=q5.2.2.lt;replace q5:=zh q5
 go_wp2_with fail
 refine(mz.o _).q fun w6 hb=>?_;have q6:=q5.o.below hb;have ae:=ad.t hb;clear a1 a2 a3 a4 a5 a6 b1 b2 b3 b4 b5 b6 c1 c2 c3 c4 c5 c6 c7;clear hb;obtain⟨a1,a2,a3,a4,a5,a6⟩:=q6.1.facts;obtain⟨b1,b2,b3,b4,b5,b6⟩:=q6.2.1.facts;obtain⟨c1,c2,c3,c4,c5,c6⟩:=q6.2.2.facts;have c7:=q6.2.2.lt;replace q6:=zh q6
 go_wp2_with fail
 refine(kr.o _).q fun w7 hb=>?_;have q7:=q6.o.below hb;have af:=ae.t hb;clear a1 a2 a3 a4 a5 a6 b1 b2 b3 b4 b5 b6 c1 c2 c3 c4 c5 c6 c7;clear hb;obtain⟨a1,a2,a3,a4,a5,a6⟩:=q7.1.facts;obtain⟨b1,b2,b3,b4,b5,b6⟩:=q7.2.1.facts;obtain⟨c1,c2,c3,c4,c5,c6⟩:=q7.2.2.facts;have c7:=q7.2.2.lt;replace q7:=zh q7;go_wp2;refine zX (v:=.tuple #[.agg #[.bool r,.string n,.string d],.int .i64 E]) (by simp[results,results55,go_sem,c1,c2,c3]) rfl ⟨rfl,?_⟩
 repeat refine ze ?_ (by simp only[];omega) _
 exact af.o
theorem Mb(g1 g2:Bool)(n1 d1 n2 d2:ByteArray)(r:Bool)(n d:ByteArray)(E:Int)(h0:(n2.toList==[48])=false)(w:World)
 (v1:∀W,Calls prog 33 #[.agg #[.bool g1,.string n1,.string d1]] W fun e w'=>e=.returned (.bool true)/\Below W.heap.size W w')
 (v2:∀W,Calls prog 33 #[.agg #[.bool g2,.string n2,.string d2]] W fun e w'=>e=.returned (.bool true)/\Below W.heap.size W w')
 (km:∀W,Calls prog 55 #[.agg #[.bool g1,.string n1,.string d1],.agg #[.bool g2,.string d2,.string n2]] W fun e w'=>e=.returned (.tuple #[.agg #[.bool r,.string n,.string d],.int .i64 E])/\Below W.heap.size W w'):
 Calls prog 108 #[.agg #[.bool g1,.string n1,.string d1],.agg #[.bool g2,.string n2,.string d2]] w fun e w'=>e=.returned (.tuple #[.agg #[.bool r,.string n,.string d],.int .i64 E])/\Below w.heap.size w w':=by
 have q0:=zh (TwoBoxes.new w g1 g2 n1 d1 n2 d2);have a:=zh (AI w g1 g2 n1 d1 n2 d2);replace v1:=zh v1;replace v2:=zh v2;replace km:=zh km;go_enter func108,ntmps108
 go_wp2_with fail
 refine(v1.o _).q fun w1 hb=>?_;have q1:=q0.o.below hb;have h:=a.t hb;clear hb;obtain⟨a1,a2,a3,a4,a5,a6⟩:=q1.1.facts;obtain⟨b1,b2,b3,b4,b5,b6⟩:=q1.2.1.facts;obtain⟨c1,c2,c3,c4,c5,c6⟩:=q1.2.2.facts;have c7:=q1.2.2.lt;replace q1:=zh q1
 go_wp2_with fail
 refine(v2.o _).q fun w2 hb=>?_;have q2:=q1.o.below hb;have s:=h.t hb;clear a1 a2 a3 a4 a5 a6 b1 b2 b3 b4 b5 b6 c1 c2 c3 c4 c5 c6 c7;clear hb;obtain⟨a1,a2,a3,a4,a5,a6⟩:=q2.1.facts;obtain⟨b1,b2,b3,b4,b5,b6⟩:=q2.2.1.facts;obtain⟨c1,c2,c3,c4,c5,c6⟩:=q2.2.2.facts;have c7:=q2.2.2.lt;replace q2:=zh q2
 go_wp2_with fail
 refine(km.o _).q fun w3 hb=>?_;have q3:=q2.o.below hb;have aa:=s.t hb;clear a1 a2 a3 a4 a5 a6 b1 b2 b3 b4 b5 b6 c1 c2 c3 c4 c5 c6 c7;clear hb;obtain⟨a1,a2,a3,a4,a5,a6⟩:=q3.1.facts;obtain⟨b1,b2,b3,b4,b5,b6⟩:=q3.2.1.facts;obtain⟨c1,c2,c3,c4,c5,c6⟩:=q3.2.2.facts;have c7:=q3.2.2.lt;replace q3:=zh q3;go_wp2;refine zX (v:=.tuple #[.agg #[.bool r,.string n,.string d],.int .i64 E]) (by simp[results,results108,go_sem,c1,c2,c3]) rfl ⟨rfl,?_⟩
 repeat refine ze ?_ (by simp only[];omega) _
 exact aa.o
theorem Mc(g1 g2:Bool)(n1 d1 n2 d2:ByteArray)(g3 r:Bool)(n d:ByteArray)(E:Int)(w:World)
 (v1:∀W,Calls prog 33 #[.agg #[.bool g1,.string n1,.string d1]] W fun e w'=>e=.returned (.bool true)/\Below W.heap.size W w')
 (v2:∀W,Calls prog 33 #[.agg #[.bool g2,.string n2,.string d2]] W fun e w'=>e=.returned (.bool true)/\Below W.heap.size W w')
 (ho:∀W,Calls prog 100 #[.agg #[.bool g2,.string n2,.string d2]] W fun e w'=>e=.returned (.agg #[.bool g3,.string n2,.string d2])/\Below W.heap.size W w')
 (hc:∀W,Calls prog 56 #[.agg #[.bool g1,.string n1,.string d1],.agg #[.bool g3,.string n2,.string d2]] W fun e w'=>e=.returned (.tuple #[.agg #[.bool r,.string n,.string d],.int .i64 E])/\Below W.heap.size W w'):
 Calls prog 54 #[.agg #[.bool g1,.string n1,.string d1],.agg #[.bool g2,.string n2,.string d2]] w fun e w'=>e=.returned (.tuple #[.agg #[.bool r,.string n,.string d],.int .i64 E])/\Below w.heap.size w w':=by
 have q0:=zh (TwoBoxes.new w g1 g2 n1 d1 n2 d2);have aa:=zh (AI w g1 g2 n1 d1 n2 d2);replace v1:=zh v1;replace v2:=zh v2;replace ho:=zh ho;replace hc:=zh hc;go_enter func54,ntmps54
 go_wp2_with fail
 refine(v1.o _).q fun w1 hb=>?_;have q1:=q0.o.below hb;have ab:=aa.t hb;clear hb;obtain⟨a1,a2,a3,a4,a5,a6⟩:=q1.1.facts;obtain⟨b1,b2,b3,b4,b5,b6⟩:=q1.2.1.facts;obtain⟨c1,c2,c3,c4,c5,c6⟩:=q1.2.2.facts;have c7:=q1.2.2.lt;replace q1:=zh q1
 go_wp2_with fail
 refine(v2.o _).q fun w2 hb=>?_;have q2:=q1.o.below hb;have ae:=ab.t hb;clear a1 a2 a3 a4 a5 a6 b1 b2 b3 b4 b5 b6 c1 c2 c3 c4 c5 c6 c7;clear hb;obtain⟨a1,a2,a3,a4,a5,a6⟩:=q2.1.facts;obtain⟨b1,b2,b3,b4,b5,b6⟩:=q2.2.1.facts;obtain⟨c1,c2,c3,c4,c5,c6⟩:=q2.2.2.facts;have c7:=q2.2.2.lt;replace q2:=zh q2;clear a1 a2 a3 a4 a5 a6 b1 b2 b3 b4 b5 b6 c1 c2 c3 c4 c5 c6 c7
 go_wp2_with fail
 have q2d:Hid (TwoBoxes w2.drew w.heap.size g1 g2 n1 d1 n2 d2):=q2.o;have a:Hid (Below w.heap.size w w2.drew):=ae.o.drew;obtain⟨a1,a2,a3,b1,b2,b3⟩:=q2.o.six
 go_region_held3 (fun w'=>w'.cell? ⟨w.heap.size,0,none⟩=some (.bool g1)/\w'.cell? ⟨w.heap.size,1,none⟩=some (.string n1)/\w'.cell? ⟨w.heap.size,2,none⟩=some (.string d1)/\w'.cell? ⟨w.heap.size+1,0,none⟩=some (.bool g2)/\w'.cell? ⟨w.heap.size+1,1,none⟩=some (.string n2)/\w'.cell? ⟨w.heap.size+1,2,none⟩=some (.string d2)) (first|(with_reducible exact q2.o.six)|(with_reducible exact q2d.o.six)|(with_reducible exact q3.o.six)|(with_reducible exact q4.o.six)|(with_reducible exact q4.o.six_set _ _ _)|go_keep)
  (first
    |(go_at_call 100;refine(ho.o _).q fun w3 h=>?_;have q3:=zh (q2d.o.below h);have ad:=a.t h;clear h)
    |(go_at_call 56;refine(hc.o _).q fun w4 s=>?_;have q4:=zh (q3.o.below s);obtain⟨c1,c2,c3,c4,c5,c6⟩:=q4.o.2.2.facts;have af:=ad.t s;clear s))
 go_wp2;refine zX (v:=.tuple #[.agg #[.bool r,.string n,.string d],.int .i64 E]) (by simp[results,results54,go_sem,c1,c2,c3]) rfl ⟨rfl,?_⟩
 repeat refine ze ?_ (by simp only[];omega) _
 exact af.o
theorem Tr{q:Rat}(h:q≠0):qv q⁻¹=.agg #[.bool (decide (q.num<0)),.string (T (some q.den)),.string (T (some q.num.natAbs))]:=by
 have hn:=BR h;unfold qv;rw[Rat.num_inv,Rat.den_inv,zC hn];have hd:0<q.den:=q.den_pos
 have e1:decide (q.num.sign*(q.den:Int)<0)=decide (q.num<0):=by
  refine decide_eq_decide.2 ?_
  rcases Int.lt_or_gt_of_ne hn with h1|h1
  .rw[Int.sign_eq_neg_one_of_neg h1];omega
  rw[Int.sign_eq_one_of_pos h1];omega
 have e2:(q.num.sign*(q.den:Int)).natAbs=q.den:=by
  rw[vZ,Int.natAbs_sign_of_ne_zero hn,Nat.one_mul,vN]
 rw[e1,e2]
theorem Md{q:Rat}(h:q≠0):q⁻¹.num.natAbs=q.den/\q⁻¹.den=q.num.natAbs:=by
 have hn:=BR h;rw[Rat.num_inv,Rat.den_inv,zC hn];exact⟨by rw[vZ,Int.natAbs_sign_of_ne_zero hn,Nat.one_mul,vN],rfl⟩
theorem vqv(q:Rat)(h:OkQ q)(W:World):Calls prog 33 #[.agg #[.bool (decide (q.num<0)),.string (T (some q.num.natAbs)),.string (T (some q.den))]] W fun e w'=>e=.returned (.bool true)/\Below W.heap.size W w':=by
 have hv:=AY h;have hz:=AW hv;have:=Dj (decide (q.num<0)) (T (some q.num.natAbs)) (T (some q.den)) W (by omega) (by omega)
 rwa [hv]at this
theorem lq(q:Rat)(h:ShortQ q)(W:World):Calls prog 101 #[.agg #[.bool (decide (q.num<0)),.string (T (some q.num.natAbs)),.string (T (some q.den))]] W fun e w'=>e=.returned (.bool false)/\Below W.heap.size W w' :=
 QE _ _ _ W (Bw h).1 (Bw h).2
theorem lqn(q:Rat)(h:¬ShortQ q)(W:World):Calls prog 101 #[.agg #[.bool (decide (q.num<0)),.string (T (some q.num.natAbs)),.string (T (some q.den))]] W fun e w'=>e=.returned (.bool true)/\Below W.heap.size W w' :=
 Oa _ _ _ W (by
  rcases xQ 140 (T (some q.num.natAbs)).size with h1|h1
  .exact .inl h1
  rcases xQ 140 (T (some q.den)).size with h2|h2
  .exact .inr h2
  exact absurd (AZ h1 h2) h)
theorem QF(g1 g2:Bool)(n1 d1 n2 d2:ByteArray)(w:World)(s1:n1.size<=140737488355328)(s2:d1.size<=140737488355328)(s3:n2.size<=140737488355328)(s4:d2.size<=140737488355328)(hb:As g1 n1 d1=false\/As g2 n2 d2=false):
 Calls prog 54 #[.agg #[.bool g1,.string n1,.string d1],.agg #[.bool g2,.string n2,.string d2]] w fun e w'=>e=.returned (.tuple #[zv,.int .i64 1])/\Below w.heap.size w w':=by
 have v1:=fun W=>Dj g1 n1 d1 W s1 s2;have v2:=fun W=>Dj g2 n2 d2 W s3 s4
 cases h1:As g1 n1 d1 with
 |false=>
  rw[h1]at v1;exact Ob g1 g2 n1 d1 n2 d2 w v1
 |true=>
  have h2:As g2 n2 d2=false:=by rcases hb with h|h;(· rw[h1]at h;cases h);(· exact h)
  rw[h1]at v1;rw[h2]at v2;exact Oc g1 g2 n1 d1 n2 d2 w v1 v2
theorem Og(p q:Rat)(hp:OkQ p)(hq:OkQ q)(hl:¬(ShortQ p/\ShortQ q))(w:World):
 Calls prog 56 #[qv p,qv q] w fun e w'=>e=.returned (.tuple #[zv,.int .i64 2])/\Below w.heap.size w w':=by
 by_cases h1:ShortQ p
 .exact LY _ _ _ _ _ _ w (vqv p hp) (vqv q hq) (lq p h1) (lqn q fun h=>hl ⟨h1,h⟩)
 exact LX _ _ _ _ _ _ w (vqv p hp) (vqv q hq) (lqn p h1)
theorem IC(p q:Rat)(hp:OkQ p)(hq:OkQ q)(hl:¬(ShortQ p/\ShortQ q))(w:World):
 Calls prog 55 #[qv p,qv q] w fun e w'=>e=.returned (.tuple #[zv,.int .i64 2])/\Below w.heap.size w w':=by
 by_cases h1:ShortQ p
 .exact Ma _ _ _ _ _ _ w (vqv p hp) (vqv q hq) (lq p h1) (lqn q fun h=>hl ⟨h1,h⟩)
 exact LZ _ _ _ _ _ _ w (vqv p hp) (vqv q hq) (lqn p h1)
theorem Hl(p q:Rat)(hp:ShortQ p)(hq:ShortQ q)(w:World):
 Calls prog 56 #[qv p,qv q] w fun e w'=>e=.returned (.tuple #[qv (p+q),.int .i64 0])/\Below w.heap.size w w':=by
 have h1:=Ca hp.1 hq.2;have h2:=Ca hq.1 hp.2;have h3:=Ca hp.2 hq.2;have h4:=GS;have a:p.den*q.den≠0:=xJ p.den_nz q.den_nz;have mx:=fun W=>Tp p.num.natAbs q.den W (AF hp.1) (AF hq.2) (by omega);have my:=fun W=>Tp q.num.natAbs p.den W (AF hq.1) (AF hp.2) (by omega);have mz:=fun W=>Tp p.den q.den W (AF hp.2) (AF hq.2) (by omega)
 by_cases hg:decide (p.num<0)=decide (q.num<0)
 .have ks:=fun W=>WZ (p.num.natAbs*q.den) (q.num.natAbs*p.den) W (by omega) (by omega) (by omega);have kr:=fun W=>Dt (decide (p.num<0)) (p.num.natAbs*q.den+q.num.natAbs*p.den) (p.den*q.den) W (by omega) (by omega) a;rw[KZ rfl hg rfl rfl,FM]at kr;have v2:=vqv q hq.ok;have l2:=lq q hq;have e:qv q=.agg #[.bool (decide (p.num<0)),.string (T (some q.num.natAbs)),.string (T (some q.den))]:=by rw[hg];rfl
  rw[<-hg]at v2 l2;rw[e];exact Od _ _ _ _ _ _ _ _ _ _ _ _ _ w (vqv p hp.ok) v2 (lq p hp) l2 mx my mz ks kr
 have d:(decide (p.num<0)==decide (q.num<0))=false:=by rw[zJ];exact hg
 have kc:=fun W=>Xa (p.num.natAbs*q.den) (q.num.natAbs*p.den) W (by omega) (by omega)
 rcases xQ (p.num.natAbs*q.den) (q.num.natAbs*p.den) with hl|hl
 .have ks:=fun W=>WK (q.num.natAbs*p.den) (p.num.natAbs*q.den) W (by omega) (by omega) (by omega);have kr:=fun W=>Dt (decide (q.num<0)) (q.num.natAbs*p.den-p.num.natAbs*q.den) (p.den*q.den) W (by omega) (by omega) a;rw[La rfl rfl rfl rfl hg hl,FM]at kr;exact Oe _ _ _ _ _ _ _ _ _ _ _ _ _ _ _ (by rw[Cy hl];omega) d w (vqv p hp.ok) (vqv q hq.ok) (lq p hp) (lq q hq) mx my mz kc ks kr
 have ks:=fun W=>WK (p.num.natAbs*q.den) (q.num.natAbs*p.den) W (by omega) (by omega) hl;have kr:=fun W=>Dt (decide (p.num<0)) (p.num.natAbs*q.den-q.num.natAbs*p.den) (p.den*q.den) W (by omega) (by omega) a;rw[Lb rfl rfl rfl rfl hg hl,FM]at kr;obtain⟨c,hc,h,_⟩:=Gx hl;exact Of _ _ _ _ _ _ _ _ _ _ _ _ _ _ _ (by rw[<-hc];exact h) d w (vqv p hp.ok) (vqv q hq.ok) (lq p hp) (lq q hq) mx my mz kc ks kr
theorem DW(p q:Rat)(hp:ShortQ p)(hq:ShortQ q)(w:World):
 Calls prog 55 #[qv p,qv q] w fun e w'=>e=.returned (.tuple #[qv (p*q),.int .i64 0])/\Below w.heap.size w w':=by
 have h1:=Ca hp.1 hq.1;have h3:=Ca hp.2 hq.2;have h4:=GS;have a:p.den*q.den≠0:=xJ p.den_nz q.den_nz;have mx:=fun W=>Tp p.num.natAbs q.num.natAbs W (AF hp.1) (AF hq.1) (by omega);have mz:=fun W=>Tp p.den q.den W (AF hp.2) (AF hq.2) (by omega);have kr:=fun W=>Dt (!(decide (p.num<0)==decide (q.num<0))) (p.num.natAbs*q.num.natAbs) (p.den*q.den) W (by omega) (by omega) a;have e:=RD p q;rw[show (decide (p.num<0) != decide (q.num<0))=!(decide (p.num<0)==decide (q.num<0)) from rfl]at e;rw[e]at kr;exact Tq _ _ _ _ _ _ _ _ _ _ _ _ w (vqv p hp.ok) (vqv q hq.ok) (lq p hp) (lq q hq) mx mz kr
theorem Pj(q:Rat):qv (-q)=.agg #[.bool (decide ((-q).num<0)),.string (T (some q.num.natAbs)),.string (T (some q.den))]:=by
 unfold qv;rw[show (-q).num.natAbs=q.num.natAbs from ws _];rfl
theorem Hm(p q:Rat)(hp:ShortQ p)(hq:ShortQ q)(w:World):
 Calls prog 54 #[qv p,qv q] w fun e w'=>e=.returned (.tuple #[qv (p-q),.int .i64 0])/\Below w.heap.size w w':=by
 have hc:=fun W=>Hl p (-q) hp hq.neg W;rw[<-Rat.sub_eq_add_neg]at hc;have ho:=fun W=>Pi q W;rw[Pj]at hc ho;exact Mc _ _ _ _ _ _ _ _ _ _ _ w (vqv p hp.ok) (vqv q hq.ok) ho hc
theorem OkQ.neg{q:Rat}(h:OkQ q):OkQ (-q):=⟨by show (-q.num).natAbs<Lim;rw[ws];exact h.1,h.2⟩
theorem Oh(p q:Rat)(hp:OkQ p)(hq:OkQ q)(hl:¬(ShortQ p/\ShortQ q))(w:World):
 Calls prog 54 #[qv p,qv q] w fun e w'=>e=.returned (.tuple #[zv,.int .i64 2])/\Below w.heap.size w w':=by
 have hc:=fun W=>Og p (-q) hp hq.neg (fun h=>hl ⟨h.1,by have:=h.2.neg;rwa [Rat.neg_neg]at this⟩) W;have ho:=fun W=>Pi q W;rw[Pj]at hc ho;exact Mc _ _ _ _ _ _ _ _ _ _ _ w (vqv p hp) (vqv q hq) ho hc
theorem Me(p q:Rat)(hp:ShortQ p)(hq:ShortQ q)(h0:q≠0)(w:World):
 Calls prog 108 #[qv p,qv q] w fun e w'=>e=.returned (.tuple #[qv (p/q),.int .i64 0])/\Below w.heap.size w w':=by
 have hi:=Md h0;have hz:=AM q.num.natAbs;rw[zD (by have:=BR h0;omega)]at hz;have km:=fun W=>DW p q⁻¹ hp ⟨by rw[hi.1];exact hq.2,by rw[hi.2];exact hq.1⟩ W;rw[Tr h0,<-xu]at km;exact Mb _ _ _ _ _ _ _ _ _ _ hz w (vqv p hp.ok) (vqv q hq.ok) km
theorem Oi(p q:Rat)(hp:OkQ p)(hq:OkQ q)(h0:q≠0)(hl:¬(ShortQ p/\ShortQ q))(w:World):
 Calls prog 108 #[qv p,qv q] w fun e w'=>e=.returned (.tuple #[zv,.int .i64 2])/\Below w.heap.size w w':=by
 have hi:=Md h0;have hz:=AM q.num.natAbs;rw[zD (by have:=BR h0;omega)]at hz;have km:=fun W=>IC p q⁻¹ hp ⟨by rw[hi.1];exact hq.2,by rw[hi.2];exact hq.1⟩ (fun h=>hl ⟨h.1,by have:=h.2.2;rw[hi.2]at this;exact this,by have:=h.2.1;rw[hi.1]at this;exact this⟩) W;rw[Tr h0]at km;exact Mb _ _ _ _ _ _ _ _ _ _ hz w (vqv p hp) (vqv q hq) km
def NoStroke(s:ByteArray)(k:Nat):Prop:=∀j (h:j<s.size),j<k->s[j].toNat≠47
theorem NoStroke.zero(s:ByteArray):NoStroke s 0:=fun j _ h=>absurd h (by omega)
theorem NoStroke.step{s:ByteArray}{k:Nat}(h:NoStroke s k)(hk:k<s.size)(hb:s[k].toNat≠47):NoStroke s (k+1):=fun j hj h1=>by
 by_cases e:j=k
 .subst e;exact hb
 exact h j hj (by omega)
end Nt
end
end Go.Proofs.YtmfjbpcecpgchaaGreatDoor

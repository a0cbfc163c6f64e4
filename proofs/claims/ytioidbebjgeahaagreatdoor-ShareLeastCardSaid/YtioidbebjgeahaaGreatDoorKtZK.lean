/- Texts that the proof needs: NatBytes. -/
import Derived.Laws.BytesArg
import Derived.Laws.OwnMore
import Derived.Test.YtioidbebjgeahaaGreatDoorKtA
namespace Go.Proofs.YtioidbebjgeahaaGreatDoor
open Go.RowKit Go.Shelf
namespace Nt
def OwnB (B:Nat) (w:World) (v:Value) (l:List UInt8):Prop:=w.ownsRow B 5 1 v l.length (Lib.byteCells l)
theorem infoB:(Tryz.prog.info? 5).map (fun i=>(i.zero,i.size,i.bytes))=some (some (.int .u8 0),1,1):=by kernel_rfl
theorem byteCells_snoc (l:List UInt8) (c:UInt8):Lib.byteCells l++[Value.int .u8 (c.toNat:Int)]=Lib.byteCells (l++[c]):=by simp[Lib.byteCells]
theorem OwnB.below {B:Nat} {w w':World} {v:Value} {l:List UInt8} (h:OwnB B w v l) (hb:Below w.heap.size w w'):OwnB B w' v l:=by
 obtain⟨h1,h2⟩:=h;refine⟨h1,?_⟩
 rcases h2 with h2 | ⟨g,cap,cur,hv,hg,hh,r⟩
 · exact Or.inl h2
 · exact Or.inr ⟨g,cap,cur,hv,hg,by rw[hb.block g (Array.getElem?_eq_some_iff.1 hh).1];exact hh,r⟩
theorem OwnB.form {B:Nat} {w:World} {v:Value} {l:List UInt8} (h:OwnB B w v l):(v=.slice none 0 0∧l=[])∨∃g cap,B≤g∧v=.slice (some ⟨g,0,none⟩) l.length cap∧∀j (hj:j<l.length),w.cell? ⟨g,j,none⟩=some (.int .u8 (l[j].toNat:Int)):=by
 rcases id h.2 with⟨h1,h2⟩ | ⟨g,cap,cur,h1,hg,_⟩
 · exact .inl ⟨h1,List.length_eq_zero_iff.1 h2⟩
 · refine .inr ⟨g,cap,hg,h1,fun j hj=>?_⟩;subst h1;rw[World.ownsRow.cellAt h j (by omega)];simp[Lib.byteCells,hj]
theorem OwnB.text {B:Nat} {w:World} {v:Value} {l:List UInt8} (h:OwnB B w v l) :
 (convert 35 9 v).run Tryz.prog w=.ok (.string ⟨l.toArray⟩) w:=by
 rcases h.form with⟨rfl,rfl⟩ | ⟨g,cap,_,rfl,hc⟩
 · exact run_convert_bytes_nil w _ _ Tryz.underlying35 Tryz.underlying5 0 0 _ Tryz.underlying9
 · have:=run_convert_bytes_arg (P:=Tryz.prog) w 35 5 Tryz.underlying35 Tryz.underlying5 g 0 l.length cap (l.map fun c=>(c.toNat:Int)) (by simp)
    (fun i hi=>by rw[Nat.zero_add,hc i hi];simp[hi]) 9 Tryz.underlying9
   rw[this]
   have e:(l.map ((fun n:Int=>UInt8.ofNat n.toNat) ∘ fun c:UInt8=>(c.toNat:Int)))=l:=by
    conv=>rhs;rw[←List.map_id l]
    exact List.map_congr_left fun c _=>by simp
   simp only[strOfNums,List.map_map,e]
theorem OwnB.lit (B:Nat) (w:World) (c:UInt8) (hb:B≤w.heap.size):OwnB B (w.alloc (.cells #[.int .u8 (c.toNat:Int)] 5)) (.slice (some ⟨w.heap.size,0,none⟩) 1 1) [c] :=
 World.ownsRow_lit w #[.int .u8 (c.toNat:Int)] 1 hb (by unfold maxLen;omega) rfl
end Nt
end Go.Proofs.YtioidbebjgeahaaGreatDoor

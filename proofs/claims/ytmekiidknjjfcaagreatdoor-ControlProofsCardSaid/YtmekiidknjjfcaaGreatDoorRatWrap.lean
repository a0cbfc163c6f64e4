/- From a row's laid variables and the world's shape to REnv; numbers as parameters. -/
import Derived.Test.YtmekiidknjjfcaaGreatDoorNatWrap
import Derived.Test.YtmekiidknjjfcaaGreatDoorRatText
import Derived.Shelf.Vars
import Derived.SizedLaws
import Derived.Lib.SmallJoins
import Derived.DataShut
namespace Go.Proofs.YtmekiidknjjfcaaGreatDoor
open Go.ChangeShapes Go.WideShapes Go.ChangeAt Go.RowKit Go.Shelf Go.Joins
namespace Nt

theorem wf_inQ {k : IntKind} {n : Int} (h : (Lit.int k n).wf = true) : k.min ≤ n ∧ n ≤ k.max := by simpa [Lit.wf] using h

set_option maxRecDepth 100000 in
theorem renv_of {W : World} (h : laidMetH Tryz.prog laidL W) (hsh : W.ShapedOpen Tryz.prog) : REnv W :=
  ⟨env_of h, cell_of_shapedOpen_int (P := Tryz.prog) (g := 7) (t := 3) (zero := #[.int .i64 0]) hsh (of_decide_eq_true (by kernel_rfl)) (by kernel_rfl) rfl (by kernel_rfl) (by kernel_rfl) Tryz.underlying3⟩

section
variable {H : Type} {enc : TypeId × Value → H} {w : World} {base : Nat} {spare : Nat → Bool} {held : Bool}
set_option maxRecDepth 100000 in
theorem cells_q : Tryz.prog.cellsOf 49 = 3 := by kernel_rfl
set_option maxRecDepth 100000 in
theorem open_q {r : Reach} {b0 : Nat} {v : Value} {d : DataW H} {p : List MemPlace} (hv : Value.okWide Tryz.prog w r b0 49 v) (h : DataW.Trod enc Tryz.prog w base spare held 49 v d p) :
    ∃ (g : Bool) (n e : ByteArray), v = .agg #[.bool g, .string n, .string e] ∧ d = .agg [.lit (.bool g), .lit (.string n.data.toList), .lit (.string e.data.toList)] ∧ p = [] ∧ n.size ≤ maxLen ∧ e.size ≤ maxLen := by
  obtain ⟨c0, c1, c2, y0, y1, y2, m, rfl, rfl, rfl, hy0, hy1, hy2⟩ := open_agg3 Tryz.underlying49 (by kernel_rfl) cells_q hv h
  obtain ⟨g, e0, rfl⟩ := DataW.trod_bool Tryz.underlying4 hy0
  obtain ⟨n, e1, rfl, wn⟩ := DataW.trod_string Tryz.underlying9 hy1
  obtain ⟨d, e2, rfl, wd⟩ := DataW.trod_string Tryz.underlying9 hy2
  simp at e0 e1 e2
  subst e0 e1 e2
  exact ⟨g, n, d, rfl, rfl, rfl, wn, wd⟩
set_option maxRecDepth 100000 in
theorem shut_q (g : Bool) {n e : ByteArray} (hn : n.size ≤ maxLen) (he : e.size ≤ maxLen) :
    DataW.Trod enc Tryz.prog w base spare held 49 (.agg #[.bool g, .string n, .string e]) (.agg [.lit (.bool g), .lit (.string n.data.toList), .lit (.string e.data.toList)]) [] := by
  have h := shut_agg3 (enc := enc) (w := w) (base := base) (spare := spare) (held := held) (t := 49) Tryz.underlying49 (by kernel_rfl) cells_q
    (field_of_Trod (shut_bool Tryz.underlying4 g) rfl) (field_of_Trod (Go.ChangeMaps.shut_string Tryz.underlying9 hn) rfl) (field_of_Trod (Go.ChangeMaps.shut_string Tryz.underlying9 he) rfl)
  simpa using h
end
set_option maxRecDepth 100000 in
theorem size_q {H : Type} {ts : List TypeId} {ds : List (DataW H)} {j : Nat} {g : Bool} {n e : ByteArray} (hsz : (DataW.weightsEach Tryz.prog ts ds).all (· ≤ reachBytes) = true) (ht : ts[j]? = some 49)
    (hd : ds[j]? = some (.agg [.lit (.bool g), .lit (.string n.data.toList), .lit (.string e.data.toList)])) : n.size ≤ 140737488355328 ∧ e.size ≤ 140737488355328 := by
  have hm := DataW.weights_mem_each (P := Tryz.prog) ht hd
  have h1 : n.data.toList.length ≤ 140737488351232 := of_decide_eq_true (List.all_eq_true.1 hsz _ (hm _ (by simp [DataW.weights, DataW.weightsEach, Tryz.underlying49])))
  have h2 : e.data.toList.length ≤ 140737488351232 := of_decide_eq_true (List.all_eq_true.1 hsz _ (hm _ (by simp [DataW.weights, DataW.weightsEach, Tryz.underlying49])))
  have z1 : n.size = n.data.toList.length := Lib.size_eq _
  have z2 : e.size = e.data.toList.length := Lib.size_eq _
  omega

end Nt
end Go.Proofs.YtmekiidknjjfcaaGreatDoor

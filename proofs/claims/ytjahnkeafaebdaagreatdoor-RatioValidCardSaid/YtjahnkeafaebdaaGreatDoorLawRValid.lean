/- RatioValid: the walks joined. -/
import Derived.Test.YtjahnkeafaebdaaGreatDoorLawRValid0
import Derived.Test.YtjahnkeafaebdaaGreatDoorLawRValid1
import Derived.Test.YtjahnkeafaebdaaGreatDoorLawRValid2
import Derived.Test.YtjahnkeafaebdaaGreatDoorLawRValid3
namespace Go.Proofs.YtjahnkeafaebdaaGreatDoor
open Go.RowKit Go.Shelf
namespace Nt

theorem rvalid_any (g1 g2 : Bool) (n1 d1 n2 d2 : ByteArray) (raw : Int) (hr0 : 0 ≤ raw) (hr1 : raw ≤ 255) (w : World) (hE : REnv w) :
    Calls Tryz.prog 7 #[.agg #[.bool g1, .string n1, .string d1], .agg #[.bool g2, .string n2, .string d2], .int .u8 raw] w fun e w' => e = .returned (.bool true) ∧ Below w.heap.size w w' := by
  cases hs : shortB 160 [(n1, d1), (n2, d2)] with
  | false => exact rvalid_bad0 g1 g2 n1 d1 n2 d2 raw hs w hE
  | true =>
    have h := hs
    simp only [shortB, List.all_cons, List.all_nil, Bool.and_true, Bool.and_eq_true, decide_eq_true_eq] at h
    obtain ⟨⟨h1, h2⟩, h3, h4⟩ := h
    have z1 : n1.size ≤ 140737488355328 := by omega
    have z2 : d1.size ≤ 140737488355328 := by omega
    have z3 : n2.size ≤ 140737488355328 := by omega
    have z4 : d2.size ≤ 140737488355328 := by omega
    have hk : raw % 4 = 0 ∨ raw % 4 = 1 ∨ raw % 4 = 2 ∨ raw % 4 = 3 := by omega
    cases va : validB g1 n1 d1 with
    | false =>
      rcases hk with hk | hk | hk | hk
      · exact rvalid_add_a g1 g2 n1 d1 n2 d2 raw hr0 hr1 hk hs h1 h2 h3 h4 va w hE fun W hW => Add_bad g1 g2 n1 d1 n2 d2 W hW z1 z2 z3 z4 (.inl va)
      · exact rvalid_sub_a g1 g2 n1 d1 n2 d2 raw hr0 hr1 hk hs h1 h2 h3 h4 va w hE fun W hW => Sub_bad g1 g2 n1 d1 n2 d2 W hW z1 z2 z3 z4 (.inl va)
      · exact rvalid_mul_a g1 g2 n1 d1 n2 d2 raw hr0 hr1 hk hs h1 h2 h3 h4 va w hE fun W hW => Mul_bad g1 g2 n1 d1 n2 d2 W hW z1 z2 z3 z4 (.inl va)
      · exact rvalid_div_a g1 g2 n1 d1 n2 d2 raw hr0 hr1 hk hs h1 h2 h3 h4 va w hE fun W hW => Div_bad g1 g2 n1 d1 n2 d2 W hW z1 z2 z3 z4 (.inl va)
    | true =>
      cases vb : validB g2 n2 d2 with
      | false =>
        rcases hk with hk | hk | hk | hk
        · exact rvalid_add_b g1 g2 n1 d1 n2 d2 raw hr0 hr1 hk hs h1 h2 h3 h4 va vb w hE fun W hW => Add_bad g1 g2 n1 d1 n2 d2 W hW z1 z2 z3 z4 (.inr vb)
        · exact rvalid_sub_b g1 g2 n1 d1 n2 d2 raw hr0 hr1 hk hs h1 h2 h3 h4 va vb w hE fun W hW => Sub_bad g1 g2 n1 d1 n2 d2 W hW z1 z2 z3 z4 (.inr vb)
        · exact rvalid_mul_b g1 g2 n1 d1 n2 d2 raw hr0 hr1 hk hs h1 h2 h3 h4 va vb w hE fun W hW => Mul_bad g1 g2 n1 d1 n2 d2 W hW z1 z2 z3 z4 (.inr vb)
        · exact rvalid_div_b g1 g2 n1 d1 n2 d2 raw hr0 hr1 hk hs h1 h2 h3 h4 va vb w hE fun W hW => Div_bad g1 g2 n1 d1 n2 d2 W hW z1 z2 z3 z4 (.inr vb)
      | true =>
        obtain ⟨a, Oa, rfl, rfl, rfl⟩ := of_valid va
        obtain ⟨b, Ob, rfl, rfl, rfl⟩ := of_valid vb
        by_cases hl : ShortQ a ∧ ShortQ b
        · rcases hk with hk | hk | hk | hk
          · exact rvalid_add_ok _ _ _ _ _ _ raw _ _ _ hr0 hr1 hk hs h1 h2 h3 h4 va vb (valid_qv (ok_of_sum hl.1 hl.2)) w hE fun W hW => Add_short a b hl.1 hl.2 W hW
          · exact rvalid_sub_ok _ _ _ _ _ _ raw _ _ _ hr0 hr1 hk hs h1 h2 h3 h4 va vb (valid_qv (ok_of_sub hl.1 hl.2)) w hE fun W hW => Sub_short a b hl.1 hl.2 W hW
          · exact rvalid_mul_ok _ _ _ _ _ _ raw _ _ _ hr0 hr1 hk hs h1 h2 h3 h4 va vb (valid_qv (ok_of_mul hl.1 hl.2)) w hE fun W hW => Mul_short a b hl.1 hl.2 W hW
          · by_cases hb0 : b = 0
            · subst hb0
              exact rvalid_div_ze _ _ _ _ _ _ raw hr0 hr1 hk hs h1 h2 h3 h4 va vb w hE fun W hW => Div_zero a Oa W hW
            · exact rvalid_div_ok _ _ _ _ _ _ raw _ _ _ hr0 hr1 hk hs h1 h2 h3 h4 va vb (valid_qv (ok_of_div hl.1 hl.2 hb0)) w hE fun W hW => Div_short a b hl.1 hl.2 hb0 W hW
        · rcases hk with hk | hk | hk | hk
          · exact rvalid_add_er _ _ _ _ _ _ raw hr0 hr1 hk hs h1 h2 h3 h4 va vb w hE fun W hW => Add_long a b Oa Ob hl W hW
          · exact rvalid_sub_er _ _ _ _ _ _ raw hr0 hr1 hk hs h1 h2 h3 h4 va vb w hE fun W hW => Sub_long a b Oa Ob hl W hW
          · exact rvalid_mul_er _ _ _ _ _ _ raw hr0 hr1 hk hs h1 h2 h3 h4 va vb w hE fun W hW => Mul_long a b Oa Ob hl W hW
          · by_cases hb0 : b = 0
            · subst hb0
              exact rvalid_div_ze _ _ _ _ _ _ raw hr0 hr1 hk hs h1 h2 h3 h4 va vb w hE fun W hW => Div_zero a Oa W hW
            · exact rvalid_div_er _ _ _ _ _ _ raw hr0 hr1 hk hs h1 h2 h3 h4 va vb w hE fun W hW => Div_long a b Oa Ob hb0 hl W hW

end Nt
end Go.Proofs.YtjahnkeafaebdaaGreatDoor

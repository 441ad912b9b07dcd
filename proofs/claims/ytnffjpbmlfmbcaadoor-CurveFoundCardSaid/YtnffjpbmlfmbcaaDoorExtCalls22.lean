/- CurveFound: whatever the number: true. -/
import Derived.Test.YtnffjpbmlfmbcaaDoorExtLaw22
namespace Go.Proofs.YtnffjpbmlfmbcaaDoor.X
open Go Go.RowKit Go.Proofs.YtnffjpbmlfmbcaaDoorW.PrintWords Go.Proofs.YtnffjpbmlfmbcaaDoorW.PrintLast Go.Proofs.YtnffjpbmlfmbcaaDoorW.PrintMore
theorem awake_true : clavigerlaw22_awake.f 200 = some true := by decide +kernel
theorem curveFound_calls (no : Int) (w : World) (hGL : GL w) :
    Calls Tryd.prog 3 #[.int .i64 no] w fun e w' => e = .returned (.bool true) ∧ Below w.heap.size w w' := by
  by_cases h1 : no = 1
  · subst h1
    exact law_28 1 ((curve_Order.f 200 1).getD ⟨#[]⟩) [1, 3, 132, 0, 33] 200 w hGL (by decide +kernel) (by decide +kernel) (by decide +kernel) (by decide +kernel) (by decide +kernel) (by decide +kernel) (by decide +kernel) (by decide +kernel) (by decide +kernel) (by decide +kernel) (by decide +kernel) awake_true
  by_cases h2 : no = 2
  · subst h2
    exact law_32 2 ((curve_Order.f 200 2).getD ⟨#[]⟩) [1, 2, 840, 10045, 3, 1, 7] 200 w hGL (by decide +kernel) (by decide +kernel) (by decide +kernel) (by decide +kernel) (by decide +kernel) (by decide +kernel) (by decide +kernel) (by decide +kernel) (by decide +kernel) (by decide +kernel) (by decide +kernel) awake_true
  by_cases h3 : no = 3
  · subst h3
    exact law_48 3 ((curve_Order.f 200 3).getD ⟨#[]⟩) [1, 3, 132, 0, 34] 200 w hGL (by decide +kernel) (by decide +kernel) (by decide +kernel) (by decide +kernel) (by decide +kernel) (by decide +kernel) (by decide +kernel) (by decide +kernel) (by decide +kernel) (by decide +kernel) (by decide +kernel) awake_true
  by_cases h4 : no = 4
  · subst h4
    exact law_66 4 ((curve_Order.f 200 4).getD ⟨#[]⟩) [1, 3, 132, 0, 35] 200 w hGL (by decide +kernel) (by decide +kernel) (by decide +kernel) (by decide +kernel) (by decide +kernel) (by decide +kernel) (by decide +kernel) (by decide +kernel) (by decide +kernel) (by decide +kernel) (by decide +kernel) awake_true
  have hl : e_line.f no = e_line.f 0 := by simp [e_line.f, h1, h2, h3, h4]
  exact law_out no 200 w hGL (by unfold curve_Width.f; rw [hl]; decide +kernel) (by unfold curve_Name.f; rw [hl]; decide +kernel) (by unfold curve_Arcs.f; rw [hl]; decide +kernel) (by unfold curve_Order.f; rw [hl]; decide +kernel) awake_true
end Go.Proofs.YtnffjpbmlfmbcaaDoor.X

/- Contracts of the curves' table: curve.table and curve.line, walked by hand. -/
import Derived.Test.YtnffjpbmlfmbcaaDoorExtLib
import Derived.WalkKit
import Derived.Lib.Hide
import Derived.WalkLawsBesides
import Derived.WalkSpells
namespace Go.Proofs.YtnffjpbmlfmbcaaDoor.X
open Go.RowKit Go.Proofs.YtnffjpbmlfmbcaaDoorW.PrintWords Go.Proofs.YtnffjpbmlfmbcaaDoorW.PrintLast Go.Proofs.YtnffjpbmlfmbcaaDoorW.PrintMore
set_option linter.unusedVariables false
set_option linter.unusedSimpArgs false

def cvName1 : ByteArray := ⟨#[80, 45, 50, 50, 52]⟩
def cvArcs1 : ByteArray := ⟨#[49, 46, 51, 46, 49, 51, 50, 46, 48, 46, 51, 51]⟩
def cvOrder1 : ByteArray := ⟨#[70, 70, 70, 70, 70, 70, 70, 70, 70, 70, 70, 70, 70, 70, 70, 70, 70, 70, 70, 70, 70, 70, 70, 70, 70, 70, 70, 70, 49, 54, 65, 50, 69, 48, 66, 56, 70, 48, 51, 69, 49, 51, 68, 68, 50, 57, 52, 53, 53, 67, 53, 67, 50, 65, 51, 68]⟩
def cvName2 : ByteArray := ⟨#[80, 45, 50, 53, 54]⟩
def cvArcs2 : ByteArray := ⟨#[49, 46, 50, 46, 56, 52, 48, 46, 49, 48, 48, 52, 53, 46, 51, 46, 49, 46, 55]⟩
def cvOrder2 : ByteArray := ⟨#[70, 70, 70, 70, 70, 70, 70, 70, 48, 48, 48, 48, 48, 48, 48, 48, 70, 70, 70, 70, 70, 70, 70, 70, 70, 70, 70, 70, 70, 70, 70, 70, 66, 67, 69, 54, 70, 65, 65, 68, 65, 55, 49, 55, 57, 69, 56, 52, 70, 51, 66, 57, 67, 65, 67, 50, 70, 67, 54, 51, 50, 53, 53, 49]⟩
def cvName3 : ByteArray := ⟨#[80, 45, 51, 56, 52]⟩
def cvArcs3 : ByteArray := ⟨#[49, 46, 51, 46, 49, 51, 50, 46, 48, 46, 51, 52]⟩
def cvOrder3 : ByteArray := ⟨#[70, 70, 70, 70, 70, 70, 70, 70, 70, 70, 70, 70, 70, 70, 70, 70, 70, 70, 70, 70, 70, 70, 70, 70, 70, 70, 70, 70, 70, 70, 70, 70, 70, 70, 70, 70, 70, 70, 70, 70, 70, 70, 70, 70, 70, 70, 70, 70, 67, 55, 54, 51, 52, 68, 56, 49, 70, 52, 51, 55, 50, 68, 68, 70, 53, 56, 49, 65, 48, 68, 66, 50, 52, 56, 66, 48, 65, 55, 55, 65, 69, 67, 69, 67, 49, 57, 54, 65, 67, 67, 67, 53, 50, 57, 55, 51]⟩
def cvName4 : ByteArray := ⟨#[80, 45, 53, 50, 49]⟩
def cvArcs4 : ByteArray := ⟨#[49, 46, 51, 46, 49, 51, 50, 46, 48, 46, 51, 53]⟩
def cvOrder4 : ByteArray := ⟨#[48, 49, 70, 70, 70, 70, 70, 70, 70, 70, 70, 70, 70, 70, 70, 70, 70, 70, 70, 70, 70, 70, 70, 70, 70, 70, 70, 70, 70, 70, 70, 70, 70, 70, 70, 70, 70, 70, 70, 70, 70, 70, 70, 70, 70, 70, 70, 70, 70, 70, 70, 70, 70, 70, 70, 70, 70, 70, 70, 70, 70, 70, 70, 70, 70, 70, 70, 65, 53, 49, 56, 54, 56, 55, 56, 51, 66, 70, 50, 70, 57, 54, 54, 66, 55, 70, 67, 67, 48, 49, 52, 56, 70, 55, 48, 57, 65, 53, 68, 48, 51, 66, 66, 53, 67, 57, 66, 56, 56, 57, 57, 67, 52, 55, 65, 69, 66, 66, 54, 70, 66, 55, 49, 69, 57, 49, 51, 56, 54, 52, 48, 57]⟩
def curveCells : Array Value := #[.string cvName1, .string cvArcs1, .string cvOrder1, .int .i64 28, .string cvName2, .string cvArcs2, .string cvOrder2, .int .i64 32, .string cvName3, .string cvArcs3, .string cvOrder3, .int .i64 48, .string cvName4, .string cvArcs4, .string cvOrder4, .int .i64 66]
set_option maxHeartbeats 4000000 in
set_option maxRecDepth 100000 in
theorem curve_table_calls (w : World) : Calls Tryd.prog 21 #[] w fun e w' => e = .returned (.agg curveCells) ∧ Below w.heap.size w w' := by
  go_enter Tryd.func21, Tryd.ntmps21
  go_wp2
  exact bodyPost_ret (results_cell_row rfl _ _ w.heap.size 45 curveCells (0, 0) _ rfl (heap_alloc_new w (.cells curveCells 45)) Tryd.underlying45 rfl (by kernel_rfl)) rfl ⟨rfl, (Below.refl _ _).alloc (Nat.le_refl _) _⟩

end Go.Proofs.YtnffjpbmlfmbcaaDoor.X

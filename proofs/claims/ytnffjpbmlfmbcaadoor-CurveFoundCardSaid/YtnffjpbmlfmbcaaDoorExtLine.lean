/- The contract of curve.line, walked by hand. -/
import Derived.Test.YtnffjpbmlfmbcaaDoorExtCurve
import Derived.WalkKit
import Derived.Lib.Hide
import Derived.WalkLawsBesides
import Derived.WalkSpells
namespace Go.Proofs.YtnffjpbmlfmbcaaDoor.X
open Go.RowKit Go.Proofs.YtnffjpbmlfmbcaaDoorW.PrintWords Go.Proofs.YtnffjpbmlfmbcaaDoorW.PrintLast Go.Proofs.YtnffjpbmlfmbcaaDoorW.PrintMore
set_option linter.unusedVariables false
set_option linter.unusedSimpArgs false

/-- A line: its name, its arcs, its order, its width. -/
def e_line.f (no : Int) : Option (ByteArray × ByteArray × ByteArray × Int) :=
  some (if no = 1 then (cvName1, cvArcs1, cvOrder1, 28) else if no = 2 then (cvName2, cvArcs2, cvOrder2, 32) else if no = 3 then (cvName3, cvArcs3, cvOrder3, 48) else if no = 4 then (cvName4, cvArcs4, cvOrder4, 66) else (⟨#[]⟩, ⟨#[]⟩, ⟨#[]⟩, 0))
theorem line_out (no : Int) (h : no < 1 ∨ 4 < no) (w : World) :
    Calls Tryd.prog 12 #[.int .i64 no] w fun e w' => e = .returned (.agg #[.string ⟨#[]⟩, .string ⟨#[]⟩, .string ⟨#[]⟩, .int .i64 0]) ∧ Below w.heap.size w w' := by
  rcases h with h | h
  · have hd : decide (no < 1) = true := decide_eq_true h
    clear h
    go_enter Tryd.func12, Tryd.ntmps12
    go_wp2_with (go_at_call 21; refine (curve_table_calls _).mono ?_; rintro e w1 ⟨rfl, hb1⟩; unfold curveCells; obtain ⟨hc, hf⟩ := bcell hb1; have hz : w.heap.size < w1.heap.size := (by have := hb1.size; simp at this; omega))
    have B0 : Below w.heap.size w w1 := ((Below.refl _ w).alloc (Nat.le_refl _) _).trans (hb1.mono (by simp))
    exact bodyPost_ret (v := .agg #[.string ⟨#[]⟩, .string ⟨#[]⟩, .string ⟨#[]⟩, .int .i64 0]) (by simp [results, Tryd.results12, go_sem, hc, hz, Nat.ne_of_lt hz]) rfl ⟨rfl, ((((B0.setCell (Nat.le_refl _) _).setCell (Nat.le_refl _) _).setCell (Nat.le_refl _) _).setCell (Nat.le_refl _) _).alloc (by simp; omega) _⟩
  · have hd : decide (no < 1) = false := decide_eq_false (by omega)
    have hd2 : decide (4 < no) = true := decide_eq_true h
    clear h
    go_enter Tryd.func12, Tryd.ntmps12
    go_wp2_with (go_at_call 21; refine (curve_table_calls _).mono ?_; rintro e w1 ⟨rfl, hb1⟩; unfold curveCells; obtain ⟨hc, hf⟩ := bcell hb1; have hz : w.heap.size < w1.heap.size := (by have := hb1.size; simp at this; omega))
    have B0 : Below w.heap.size w w1 := ((Below.refl _ w).alloc (Nat.le_refl _) _).trans (hb1.mono (by simp))
    exact bodyPost_ret (v := .agg #[.string ⟨#[]⟩, .string ⟨#[]⟩, .string ⟨#[]⟩, .int .i64 0]) (by simp [results, Tryd.results12, go_sem, hc, hz, Nat.ne_of_lt hz]) rfl ⟨rfl, ((((B0.setCell (Nat.le_refl _) _).setCell (Nat.le_refl _) _).setCell (Nat.le_refl _) _).setCell (Nat.le_refl _) _).alloc (by simp; omega) _⟩
theorem line_in (no : Int) (h1 : 1 ≤ no) (h2 : no ≤ 4) (r1 r2 r3 : ByteArray) (r4 : Int) (hr : e_line.f no = some (r1, r2, r3, r4)) (w : World) :
    Calls Tryd.prog 12 #[.int .i64 no] w fun e w' => e = .returned (.agg #[.string r1, .string r2, .string r3, .int .i64 r4]) ∧ Below w.heap.size w w' := by
  obtain rfl | rfl | rfl | rfl : no = 1 ∨ no = 2 ∨ no = 3 ∨ no = 4 := by omega
  all_goals
    simp [e_line.f] at hr
    obtain ⟨rfl, rfl, rfl, rfl⟩ := hr
    clear h1 h2
    go_enter Tryd.func12, Tryd.ntmps12
    go_wp2_with (go_at_call 21; refine (curve_table_calls _).mono ?_; rintro e w1 ⟨rfl, hb1⟩; unfold curveCells; obtain ⟨hc, hf⟩ := bcell hb1; have hz : w.heap.size < w1.heap.size := (by have := hb1.size; simp at this; omega))
    have B0 : Below w.heap.size w w1 := ((Below.refl _ w).alloc (Nat.le_refl _) _).trans (hb1.mono (by simp))
    exact bodyPost_ret (v := .agg #[.string _, .string _, .string _, .int .i64 _]) (by simp [results, Tryd.results12, go_sem, hc, hz, Nat.ne_of_lt hz]) rfl ⟨rfl, ((((B0.setCell (Nat.le_refl _) _).setCell (Nat.le_refl _) _).setCell (Nat.le_refl _) _).setCell (Nat.le_refl _) _).alloc (by simp; omega) _⟩
theorem e_line.calls (a0 : Int) (r1 r2 r3 : ByteArray) (r4 : Int) (w : World) (hGL : GL w) (h : e_line.f a0 = some (r1, r2, r3, r4)) :
    Calls Tryd.prog 12 #[.int .i64 a0] w fun e w' => e = .returned (.agg #[.string r1, .string r2, .string r3, .int .i64 r4]) ∧ Below w.heap.size w w' := by
  by_cases hi : 1 ≤ a0 ∧ a0 ≤ 4
  · exact line_in a0 hi.1 hi.2 r1 r2 r3 r4 h w
  · have h1 : a0 ≠ 1 ∧ a0 ≠ 2 ∧ a0 ≠ 3 ∧ a0 ≠ 4 := by omega
    simp [e_line.f, h1] at h
    obtain ⟨rfl, rfl, rfl, rfl⟩ := h
    exact line_out a0 (by omega) w
end Go.Proofs.YtnffjpbmlfmbcaaDoor.X

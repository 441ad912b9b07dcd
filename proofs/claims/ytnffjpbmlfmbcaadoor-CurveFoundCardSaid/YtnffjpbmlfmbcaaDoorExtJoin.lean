/- strings.Join in the form that the printed texts of this claim ask for: one application of the kit's shelf. -/
import Derived.Test.YtnffjpbmlfmbcaaDoorExtLib
import Derived.Lib.Join
namespace Go.Proofs.YtnffjpbmlfmbcaaDoor.X
open Go.RowKit Go.Proofs.YtnffjpbmlfmbcaaDoorW.PrintWords Go.Proofs.YtnffjpbmlfmbcaaDoorW.PrintLast Go.Proofs.YtnffjpbmlfmbcaaDoorW.PrintMore
set_option linter.unusedVariables false
set_option linter.unusedSimpArgs false

/-- Texts, joined. -/
def joinT (l : List ByteArray) (s : ByteArray) : ByteArray := tb (Lib.join (l.map (·.data.toList)) s.data.toList)
def e_Join.f (l : List ByteArray) (s : ByteArray) : Option ByteArray :=
  if l.length ≤ 140737488355328 ∧ (joinT l s).size ≤ 140737488355328 then some (joinT l s) else none
theorem C_cells {w : World} {A : Option Addr} {l : List ByteArray} (h : Kd.C Kd.string w A l.length l) (hn : 0 < l.length) :
    ∃ bk o, A = some ⟨bk, o, none⟩ ∧ bk < w.heap.size ∧ ∀ (j : Nat) x, l[j]? = some x → w.cell? ⟨bk, o + j, none⟩ = some (.string x) := by
  have hr := Kd.reads_of_C (enc := Value.string) (d := ByteArray.empty) (h1 := fun _ => rfl) h
  obtain ⟨ad, he, hc⟩ := hr.2.2 hn
  obtain ⟨bk, o, sp⟩ := ad
  have h0 := hc 0 hn
  have hl : bk < w.heap.size := World.block_lt_of_cell? w _ h0
  have hsp : sp = none := by
    cases sp with
    | none => rfl
    | some s =>
      simp only [World.cell?, Addr.add] at h0
      split at h0
      · simp at h0
      · simp at h0
  subst hsp
  refine ⟨bk, o, he, hl, fun j x hj => ?_⟩
  obtain ⟨hjl, hjx⟩ := List.getElem?_eq_some_iff.1 hj
  have h2 := hc j hjl
  rw [List.getD_eq_getElem?_getD, hj] at h2
  rcases Nat.eq_zero_or_pos j with rfl | hp
  · simpa [Addr.add] using h2
  · simpa [Addr.add, Nat.ne_of_gt hp] using h2
theorem e_Join.calls (A0 : Option Addr) (c0 : Nat) (l0 : List ByteArray) (a1 : ByteArray) (r : ByteArray) (w : World) (hGL : GL w) (hr0 : Kd.C Kd.string w A0 l0.length l0) (hc0 : l0.length ≤ c0) (h : e_Join.f l0 a1 = some r) :
    Calls Tryd.prog 27 #[.slice A0 l0.length c0, .string a1] w fun e w' => e = .returned (.string r) ∧ Below w.heap.size w w' := by
  unfold e_Join.f at h
  split at h
  · rename_i hc
    obtain rfl := Option.some.inj h
    rcases Nat.eq_zero_or_pos l0.length with h0 | h0
    · obtain rfl := List.eq_nil_of_length_eq_zero h0
      exact (Tryd.strings_Join_none A0 c0 a1 w).mono fun e w' ⟨he, hw⟩ => ⟨he, hw ▸ Below.refl _ _⟩
    · obtain ⟨bk, o, rfl, hb, hcells⟩ := C_cells hr0 h0
      exact (Tryd.strings_Join bk o c0 l0 a1 w hcells hb hc.1 hc0 hc.2).mono fun e w' ⟨he, hw⟩ => ⟨he, hw⟩
  · cases h
end Go.Proofs.YtnffjpbmlfmbcaaDoor.X

/- Contracts of library functions in the form that the printed texts of this claim ask for; each is one application of a contract of the kit's shelf. -/
import Derived.Test.YtnffjpbmlfmbcaaDoorX0
import Derived.Test.YtnffjpbmlfmbcaaDoorShelf
import Derived.Test.YtnffjpbmlfmbcaaDoorGb
import Derived.Lib.AppendIntMem
import Derived.Lib.SplitLaws
namespace Go.Proofs.YtnffjpbmlfmbcaaDoor.X
open Go.RowKit Go.Proofs.YtnffjpbmlfmbcaaDoorW.PrintWords Go.Proofs.YtnffjpbmlfmbcaaDoorW.PrintLast Go.Proofs.YtnffjpbmlfmbcaaDoorW.PrintMore
set_option linter.unusedVariables false
set_option linter.unusedSimpArgs false

/-- A text of bytes. -/
def tb (l : List UInt8) : ByteArray := ⟨l.toArray⟩
theorem tb_data (l : List UInt8) : (tb l).data.toList = l := rfl
theorem tb_of (s : ByteArray) : tb s.data.toList = s := rfl
theorem tb_size (l : List UInt8) : (tb l).size = l.length := rfl
theorem one_byte {s : ByteArray} (h : s.size = 1) : ∃ b : UInt8, s = ⟨#[b]⟩ ∧ bt s 0 = b.toNat := by
  obtain ⟨⟨l⟩⟩ := s
  have h' : l.length = 1 := h
  match l, h' with
  | [b], _ => exact ⟨b, rfl, rfl⟩
theorem drawn_alt {w w' : World} (h : w' = w ∨ w' = w.drew) : Drawn0 w w' := by
  rcases h with rfl | rfl
  · exact Drawn0.refl _
  · exact ⟨⟨1, rfl⟩⟩
theorem drawn_eq {w w' : World} (h : w' = w) : Drawn0 w w' := by subst h; exact Drawn0.refl _

theorem bcell {W w1 : World} (hb : Below W.heap.size W w1) : (∀ b o, b < W.heap.size → w1.cell? ⟨b, o, none⟩ = W.cell? ⟨b, o, none⟩) ∧ (∀ b o, b < W.heap.size → w1.frozen? ⟨b, o, none⟩ = W.frozen? ⟨b, o, none⟩) :=
  ⟨fun b o h => hb.cell (p := ⟨b, o, none⟩) h, fun b o h => hb.frozen (p := ⟨b, o, none⟩) h⟩
theorem mkStr_inj {a b : ByteArray} (h : a = b) : Ending.returned (.string a) = .returned (.string b) := by rw [h]

/-! strings.Trim at one ASCII byte -/
def e_Trim.f (s c : ByteArray) : Option ByteArray :=
  if c.size = 1 ∧ bt c 0 < 128 ∧ s.size ≤ 9223372036854775807 then some (tb (Lib.trimB s.data.toList (bt c 0).toNat.toUInt8)) else none
theorem e_Trim.calls (a0 a1 : ByteArray) (r : ByteArray) (w : World) (hGL : GL w) (h : e_Trim.f a0 a1 = some r) :
    Calls Tryd.prog 19 #[.string a0, .string a1] w fun e w' => e = .returned (.string r) ∧ Drawn0 w w' := by
  unfold e_Trim.f at h
  split at h
  · rename_i hc
    obtain rfl := Option.some.inj h
    obtain ⟨b, hb, hv⟩ := one_byte hc.1
    have hb' : b.toNat < 128 := by have := hc.2.1; rw [hv] at this; omega
    rw [hv, hb]
    simp only [Int.toNat_natCast, Nat.toUInt8, UInt8.ofNat_toNat]
    exact (Tryd.strings_Trim_one a0 b hb' w hc.2.2).mono fun e w' ⟨he, hw⟩ => ⟨he, drawn_alt hw⟩
  · cases h

/-! strings.Compare, strings.IndexByte -/
def e_Compare.f (a b : ByteArray) : Option Int := some (Lib.compareBytes a.data.toList b.data.toList)
theorem e_Compare.calls (a0 a1 : ByteArray) (r : Int) (w : World) (hGL : GL w) (h : e_Compare.f a0 a1 = some r) :
    Calls Tryd.prog 20 #[.string a0, .string a1] w fun e w' => e = .returned (.int .i64 r) ∧ Drawn0 w w' := by
  obtain rfl := Option.some.inj h
  exact (Tryd.strings_Compare a0 a1 w).mono fun e w' ⟨he, hw⟩ => ⟨he, drawn_eq hw⟩
def e_IndexByte.f (s : ByteArray) (c : Int) : Option Int := some (Lib.indexByte s.data.toList c.toNat.toUInt8)
theorem e_IndexByte.calls (a0 : ByteArray) (a1 : Int) (r : Int) (w : World) (hGL : GL w) (h : e_IndexByte.f a0 a1 = some r) :
    Calls Tryd.prog 40 #[.string a0, .int .u8 a1] w fun e w' => e = .returned (.int .i64 r) ∧ Drawn0 w w' := by
  obtain rfl := Option.some.inj h
  exact (Tryd.strings_IndexByte a0 a1 w).mono fun e w' ⟨he, hw⟩ => ⟨he, drawn_eq hw⟩


/-- A row of texts that was just laid. -/
theorem strs_new (w : World) (l : List ByteArray) (hl : l.length ≤ 9223372036854775807) :
    Kd.R Kd.string 9 (w.alloc (.cells (l.map Value.string).toArray 9)) w.heap.size (fun _ => True) (.slice (some ⟨w.heap.size, 0, none⟩) l.length l.length) l :=
  Kd.R_of_own (enc := Value.string) (h1 := fun _ => rfl) (own_lit_of (enc := Value.string) w w.heap.size 9 l (Nat.le_refl _) hl) (fun _ _ => trivial)



/-! strconv.Itoa; digits.Unnum over strconv.Atoi -/
def e_Itoa.f (n : Int) : Option ByteArray := if -9223372036854775808 ≤ n ∧ n ≤ 9223372036854775807 then some (tb (Lib.itoa n)) else none
theorem e_Itoa.calls (a0 : Int) (r : ByteArray) (w : World) (hGL : GL w) (h : e_Itoa.f a0 = some r) :
    Calls Tryd.prog 41 #[.int .i64 a0] w fun e w' => e = .returned (.string r) ∧ Below w.heap.size w w' := by
  unfold e_Itoa.f at h
  split at h
  · rename_i hc
    obtain rfl := Option.some.inj h
    refine (Tryd.strconv_Itoa a0 hc.1 hc.2 w hGL.pow10).mono fun e w' ⟨he, k, os, hw⟩ => ⟨he, ?_⟩
    subst hw
    exact Lib.below_grow _ w (Nat.le_refl _) k os
  · cases h
end Go.Proofs.YtnffjpbmlfmbcaaDoor.X

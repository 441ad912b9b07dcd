/- Contracts of small functions of the program that the printing program does not take, walked by hand: digits.Unnum, curve.line. -/
import Derived.Test.YtnffjpbmlfmbcaaDoorExtLib
import Derived.WalkKit
import Derived.Lib.Hide
import Derived.WalkLawsBesides
import Derived.WalkSpells
namespace Go.Proofs.YtnffjpbmlfmbcaaDoor.X
open Go.RowKit Go.Proofs.YtnffjpbmlfmbcaaDoorW.PrintWords Go.Proofs.YtnffjpbmlfmbcaaDoorW.PrintLast Go.Proofs.YtnffjpbmlfmbcaaDoorW.PrintMore
set_option linter.unusedVariables false
set_option linter.unusedSimpArgs false

def e_digits_Unnum.f (t : ByteArray) : Option (Int × Bool) :=
  if t.size ≤ 281474976710656 then
    match Lib.atoiAll t.data.toList with
    | .ok v => if -9223372036854775808 ≤ v ∧ v ≤ 9223372036854775807 then (if Lib.itoa v = t.data.toList then some (v, true) else some (0, false)) else none
    | _ => some (0, false)
  else none
theorem bytes_toList_inj {a b : ByteArray} (h : a.toList = b.toList) : a.data.toList = b.data.toList := by rw [← Lib.toList_data, ← Lib.toList_data]; exact h
theorem below_bytes {w w' : World} {T : TypeId} (h : w' = w ∨ ∃ t, w' = Lib.bytesWorld w T t) : Below w.heap.size w w' := by
  rcases h with rfl | ⟨t, rfl⟩
  · exact Below.refl _ _
  · exact bytes_below (Below.refl _ _) (Nat.le_refl _) _ _
theorem num_calls (v : Int) (h : -9223372036854775808 ≤ v ∧ v ≤ 9223372036854775807) (w : World) (hGL : GL w) :
    Calls Tryd.prog 26 #[.int .i64 v] w fun e w' => e = .returned (.string (tb (Lib.itoa v))) ∧ Below w.heap.size w w' := by
  go_enter Tryd.func26, Tryd.ntmps26
  go_wp2_with (go_at_call 41; refine (e_Itoa.calls v _ _ hGL (by unfold e_Itoa.f; rw [if_pos h])).mono ?_; rintro e w' ⟨rfl, hb⟩)
  go_ret
  exact ⟨rfl, hb⟩
theorem e_digits_Unnum.calls (a0 : ByteArray) (r1 : Int) (r2 : Bool) (w : World) (hGL : GL w) (h : e_digits_Unnum.f a0 = some (r1, r2)) :
    Calls Tryd.prog 23 #[.string a0] w fun e w' => e = .returned (.tuple #[.int .i64 r1, .bool r2]) ∧ Below w.heap.size w w' := by
  unfold e_digits_Unnum.f at h
  split at h
  · rename_i hs
    split at h
    · rename_i v hv
      split at h
      · rename_i hb
        have c := Tryd.strconv_Atoi_ok a0 (by omega) v hv w
        split at h
        · rename_i he
          have h' := Option.some.inj h
          simp only [Prod.mk.injEq] at h'
          obtain ⟨rfl, rfl⟩ := h'
          have cn := num_calls v hb
          rw [show tb (Lib.itoa v) = a0 from by rw [he]; exact tb_of a0] at cn
          have CN := Lib.hid cn
          clear h he hv cn
          go_enter Tryd.func23, Tryd.ntmps23
          go_wp2_with (first
            | (go_at_call 38; refine c.mono ?_; rintro e w1 ⟨rfl, hw⟩; have hb1 := below_bytes hw; clear hw)
            | (go_at_call 26; refine (CN.out w1 (hGL.below hb1)).mono ?_; rintro e w2 ⟨rfl, hb2⟩))
          go_ret2
          exact ⟨rfl, below_then hb1 hb1.size hb2⟩
        · rename_i he
          have h' := Option.some.inj h
          simp only [Prod.mk.injEq] at h'
          obtain ⟨rfl, rfl⟩ := h'
          have CN := Lib.hid (num_calls v hb)
          have hne : ((tb (Lib.itoa v)).toList == a0.toList) = false := by
            rw [beq_eq_false_iff_ne]
            intro e
            exact he (bytes_toList_inj e)
          clear h he hv
          go_enter Tryd.func23, Tryd.ntmps23
          go_wp2_with (first
            | (go_at_call 38; refine c.mono ?_; rintro e w1 ⟨rfl, hw⟩; have hb1 := below_bytes hw; clear hw)
            | (go_at_call 26; refine (CN.out w1 (hGL.below hb1)).mono ?_; rintro e w2 ⟨rfl, hb2⟩))
          go_ret2
          exact ⟨rfl, below_then hb1 hb1.size hb2⟩
      · cases h
    · rename_i hno
      have h' := Option.some.inj h
      simp only [Prod.mk.injEq] at h'
      obtain ⟨rfl, rfl⟩ := h'
      obtain ⟨N, T, n, c⟩ : ∃ N T : Nat, ∃ n : Int, Calls Tryd.prog 38 #[.string a0] w fun e w' => ∃ N, e = .returned (.tuple #[.int .i64 n, .iface T (.pointer (some ⟨N, 0, none⟩))]) ∧ Below w.heap.size w w' := by
        obtain ⟨tp, p, hv1⟩ := hGL.syn
        obtain ⟨tq, q, hv2⟩ := hGL.rng
        rcases hl : Lib.atoiAll a0.data.toList with v | _ | _
        · exact absurd hl (hno v)
        · exact ⟨0, _, _, (Tryd.strconv_Atoi_syntax_var a0 hs hl tp p w hv1).mono fun e w' ⟨N, he, _, _, hb⟩ => ⟨N, he, hb⟩⟩
        · exact ⟨0, _, _, (Tryd.strconv_Atoi_range_var a0 hs hl tq q w hv2).mono fun e w' ⟨N, he, _, _, hb⟩ => ⟨N, he, hb⟩⟩
      clear h hno
      go_enter Tryd.func23, Tryd.ntmps23
      go_wp2_with (go_at_call 38; refine c.mono ?_; rintro e w1 ⟨M, rfl, hb1⟩)
      go_ret2
      exact ⟨rfl, hb1⟩
  · cases h
end Go.Proofs.YtnffjpbmlfmbcaaDoor.X

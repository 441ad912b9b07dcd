/- The iterator of strings.SplitSeq at one byte: it hands over the parts of a text. -/
import Derived.Test.YtnffjpbmlfmbcaaDoorExtSeq
namespace Go.Proofs.YtnffjpbmlfmbcaaDoor.X
open Go Go.RowKit Go.Shelf Go.Proofs.YtnffjpbmlfmbcaaDoorW.PrintWords Go.Proofs.YtnffjpbmlfmbcaaDoorW.PrintLast Go.Proofs.YtnffjpbmlfmbcaaDoorW.PrintMore
attribute [local go_sem] Oper.semAt_some
set_option linter.unusedVariables false
set_option linter.unusedSimpArgs false

/-- How many bytes the text in block b has. -/
def szOf (b : Nat) (w : World) : Nat := match w.cell? ⟨b, 0, none⟩ with | some (.string s) => s.size | _ => 0
theorem szOf_box {b : Nat} {w : World} {t : TypeId} {s : ByteArray} (h : Boxed w b t (.string s)) : szOf b w = s.size := by
  unfold szOf; rw [h.cell]

set_option maxRecDepth 100000 in
set_option maxHeartbeats 2000000 in
theorem splitSeq1 (n : Nat) (hn : 1 ≤ n) (b : Nat) (c : UInt8) (s : ByteArray) (hs : s.size ≤ 100000000) (w : World) (b0 : Boxed w b 9 (.string s)) (b1 : Boxed w (b + 1) 9 (.string ⟨#[c]⟩)) (b2 : Boxed w (b + 2) 3 (.int .i64 0)) :
    SeqC Fence.wide n Tryd.prog 50 #[.pointer (some ⟨b + 1, 0, none⟩), .pointer (some ⟨b, 0, none⟩), .pointer (some ⟨b + 2, 0, none⟩)] b (partsB c s) w := by
  intro l J Jx W hW hJs hY h0
  have k0 : Boxed W b 9 (.string s) := (hW.block b b0.lt).trans b0
  have k1 : Boxed W (b + 1) 9 (.string ⟨#[c]⟩) := (hW.block (b + 1) b1.lt).trans b1
  have k2 : Boxed W (b + 2) 3 (.int .i64 0) := (hW.block (b + 2) b2.lt).trans b2
  clear b0 b1 b2
  have hc1 := k1.cell
  refine callsIn_of_wp Tryd.func50 rfl trivial ?_ rfl
  simp only [Tryd.ntmps50, List.size_toArray, List.length_cons, List.length_nil, Nat.reduceAdd, Nat.reduceSub, Array.replicate_succ, Array.replicate_zero, List.push_toArray, List.append_toArray, List.nil_append, List.cons_append]
  gi_wp2
  gi_loopw [7, 8] (fun i f wr => ∃ (pre : List ByteArray) (u : ByteArray), J pre wr ∧ partsB c s = pre ++ partsB c u ∧ u.size ≤ s.size ∧ Boxed wr b 9 (.string u) ∧ Boxed wr (b + 1) 9 (.string ⟨#[c]⟩) ∧ Boxed wr (b + 2) 3 (.int .i64 0))
    (fun i f wr => szOf b wr)
  case atStart => exact ⟨[], s, h0, rfl, Nat.le_refl _, k0, k1, k2⟩
  case round =>
    clear k0 k1 k2 hc1 h0
    obtain ⟨pre, u, hJ, hx, hu, k0, k1, k2⟩ := hrel
    have hc0 := k0.cell
    have hc1 := k1.cell
    have hc2 := k2.cell
    rcases Int.lt_or_le (Lib.indexByte u.data.toList c) 0 with hi | hi
    · have hp : partsB c u = [u] := by unfold partsB; rw [partsL_miss c _ hi]; simp [tb_of]
      rw [hp] at hx
      obtain ⟨fn, tmps, assign, body, hy, hR⟩ := hY pre u wr (by rw [hx]; exact List.prefix_refl _) hJ
      have HI := Lib.hid hi
      clear hi
      gi_wp2_with (first | (refine ⟨trivial, ?_⟩; gi_at_call 51; refine (callsIn_wide.2 (Tryd.strings_Index_one u c _)).mono ?_; rintro e w' ⟨rfl, rfl⟩; have hlt := HI.out) | gi_in)
      refine hR.mono ?_
      rintro e W3 (⟨rfl, hJ3, hk3⟩ | ⟨rfl, hJx3⟩)
      · gi_wp2
        go_end0
        exact ⟨⟨_, rfl⟩, .inl (by rw [hx]; exact hJ3)⟩
      · gi_wp2
        go_end0
        exact ⟨⟨_, rfl⟩, .inr ⟨pre ++ [u], by rw [hx]; exact List.prefix_refl _, hJx3⟩⟩
    · obtain ⟨i, hi'⟩ : ∃ i : Nat, Lib.indexByte u.data.toList c = i := ⟨(Lib.indexByte u.data.toList c).toNat, by omega⟩
      obtain ⟨hil, hp⟩ := partsL_hit c _ i hi'
      have hus : u.data.toList.length = u.size := data_length u
      have hp' : partsB c u = u.extract 0 i :: partsB c (u.extract (i + 1) u.size) := by
        unfold partsB
        rw [hp, List.map_cons]
        have e1 : tb (u.data.toList.take i) = u.extract 0 i := by
          apply ByteArray.ext
          apply Array.ext'
          simp [tb, ByteArray.data_extract]
        have e2 : (u.extract (i + 1) u.size).data.toList = u.data.toList.drop (i + 1) := by
          simp only [ByteArray.data_extract, Array.toList_extract, List.extract_eq_take_drop]
          exact List.take_of_length_le (by simp)
        rw [e1, e2]
      have hx' := hx
      rw [hp'] at hx
      obtain ⟨fn, tmps, assign, body, hy, hR⟩ := hY pre (u.extract 0 i) wr (by rw [hx]; exact ⟨_, by rw [List.append_assoc]; rfl⟩) hJ
      have hil' : i < u.size := by omega
      have hbd : u.size ≤ 100000000 := by omega
      have HI := Lib.hid hi'
      have HS := Lib.hid (szOf_box k0)
      clear hi' hi hp hp'
      gi_wp2_with (first | (refine ⟨trivial, ?_⟩; gi_at_call 51; refine (callsIn_wide.2 (Tryd.strings_Index_one u c _)).mono ?_; rintro e w' ⟨rfl, rfl⟩; rw [HI.out]) | gi_in)
      refine hR.mono ?_
      rintro e W3 (⟨rfl, hJ3, hk3⟩ | ⟨rfl, hJx3⟩)
      · have m0 : Boxed W3 b 9 (.string u) := hk3.1.trans k0
        have m1 : Boxed W3 (b + 1) 9 (.string ⟨#[c]⟩) := hk3.2.1.trans k1
        have m2 : Boxed W3 (b + 2) 3 (.int .i64 0) := hk3.2.2.trans k2
        have mc0 := m0.cell
        have mc1 := m1.cell
        have mf0 := m0.frozen
        clear hc0 hc1 hc2 k0 k1 k2
        gi_wp2
        go_roundw
        case rel => exact ⟨pre ++ [u.extract 0 i], u.extract (i + 1) u.size, hJs _ _ _ hJ3, by rw [hx, List.append_assoc]; rfl, by rw [ByteArray.size_extract]; omega, m0.set _, m1.kept (grownBy_setCell' W3 b _) (by simp), m2.kept (grownBy_setCell' W3 b _) (by simp)⟩
        case measure => rw [HS.out, szOf_box (m0.set _), ByteArray.size_extract]; omega
      · gi_wp2
        refine bodyPost_ret (results_none rfl _ _ _) rfl ?_
        exact ⟨⟨_, rfl⟩, .inr ⟨pre ++ [u.extract 0 i], by rw [hx]; exact ⟨_, by rw [List.append_assoc]; rfl⟩, hJx3⟩⟩

set_option maxHeartbeats 1000000 in
/-- strings.SplitSeq. -/
theorem splitSeq_calls (s c : ByteArray) (w : World) :
    Calls Tryd.prog 22 #[.string s, .string c] w fun e w' => e = .returned (.func (.func 50) #[] #[.pointer (some ⟨w.heap.size + 1, 0, none⟩), .pointer (some ⟨w.heap.size, 0, none⟩), .pointer (some ⟨w.heap.size + 2, 0, none⟩)]) ∧ w' = ((w.alloc (.cells #[.string s] 9)).alloc (.cells #[.string c] 9)).alloc (.cells #[.int .i64 0] 3) := by
  go_enter Tryd.func22, Tryd.ntmps22
  go_wp2
  go_ret
  exact ⟨by simp, rfl⟩
end Go.Proofs.YtnffjpbmlfmbcaaDoor.X

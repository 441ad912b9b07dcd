-- text of this claim, written by its own program wip/xprint.py
import Derived.Test.YtnffjpbmlfmbcaaDoorX0
import Derived.Test.YtnffjpbmlfmbcaaDoorXcurveOrder
import Derived.Test.YtnffjpbmlfmbcaaDoorExtLib
import Derived.Test.YtnffjpbmlfmbcaaDoorExtLine
namespace Go.Proofs.YtnffjpbmlfmbcaaDoor.X
open Go.RowKit Go.Proofs.YtnffjpbmlfmbcaaDoorW.PrintWords Go.Proofs.YtnffjpbmlfmbcaaDoorW.PrintLast Go.Proofs.YtnffjpbmlfmbcaaDoorW.PrintMore
attribute [local go_sem] max2_int min2_int max_two min_two max_three min_three max_four min_four   -- for this text's walks alone
set_option linter.unusedVariables false
set_option linter.unusedSimpArgs false

/-! ### curve_Scalar: function 11 -/
def curve_Scalar.j0 : Nat → Int → ByteArray → Bool → Option (Bool)
  | 0, _, _, _ => none
  | k + 1, x0, x1, x16 => if x16 = true then (some false) else ((e_Trim.f x1 (⟨#[0]⟩ : ByteArray)).bind fun t198 => (if t198.toList = ([] : List UInt8) then (some false) else ((curve_Order.f k x0).bind fun t199 => ((e_Compare.f x1 t199).bind fun t200 => (some (decide (t200 < 0)))))))
def curve_Scalar.f (k : Nat) (a0 : Int) (a1 : ByteArray) : Option (Bool) := (e_line.f a0).bind fun bt190 => (if bt190.2.2.2 = 0 then (curve_Scalar.j0 k a0 a1 true) else ((e_line.f a0).bind fun bt194 => (curve_Scalar.j0 k a0 a1 ((a1.size : Int) != bt194.2.2.2))))
theorem curve_Scalar.mono_l : ∀ k, (∀ y0 y1 y2, LeO (curve_Scalar.j0 k y0 y1 y2) (curve_Scalar.j0 (k + 1) y0 y1 y2))
  | 0 => fun _ _ _ r h => by simp [curve_Scalar.j0] at h
  | k + 1 => by
    have ih0 := curve_Scalar.mono_l k
    · intro y0 y1 y2
      unfold curve_Scalar.j0
      repeat' first
      | (with_reducible exact ih0 _ _ _)
      | (with_reducible exact curve_Order.mono _ _)
      | (with_reducible exact LeO.refl _)
      | (with_reducible exact LeO.none _)
      | (with_reducible refine LeO.ite ?_ ?_)
      | (with_reducible refine LeO.bind ?_ (fun _ => ?_))
      | exact ih0 _ _ _
      | exact curve_Order.mono _ _
      | exact LeO.none _
      | refine LeO.ite ?_ ?_
      | refine LeO.bind ?_ (fun _ => ?_)
theorem curve_Scalar.mono : ∀ a0 a1 k, LeO (curve_Scalar.f k a0 a1) (curve_Scalar.f (k + 1) a0 a1) := by
  intro a0 a1 k
  have ih0 := curve_Scalar.mono_l k
  unfold curve_Scalar.f
  repeat' first
      | (with_reducible exact ih0 _ _ _)
      | (with_reducible exact curve_Order.mono _ _)
      | (with_reducible exact LeO.refl _)
      | (with_reducible exact LeO.none _)
      | (with_reducible refine LeO.ite ?_ ?_)
      | (with_reducible refine LeO.bind ?_ (fun _ => ?_))
      | exact ih0 _ _ _
      | exact curve_Order.mono _ _
      | exact LeO.none _
      | refine LeO.ite ?_ ?_
      | refine LeO.bind ?_ (fun _ => ?_)
set_option maxHeartbeats 8000000 in
set_option maxRecDepth 100000 in
theorem curve_Scalar.calls (k : Nat) (a0 : Int) (a1 : ByteArray) (r : Bool) (w : World) (hGL : GL w) (h : curve_Scalar.f k a0 a1 = some r) :
    Calls Tryd.prog 11 #[.int .i64 a0, .string a1] w fun e w' => e = .returned (.bool r) ∧ Below w.heap.size w w' := by
  have hfd34_3 : ∀ (y0 y1 y2 y3 : Value) (W : World), (Instr.field 34 (.agg #[y0, y1, y2, y3]) 3).run Tryd.prog W = .ok (y3) W := fun y0 y1 y2 y3 W => by kernel_rfl
  have HGL := Aside0.mk hGL
  clear hGL
  have HB := Aside0.mk (Below.refl w.heap.size w)
  have H : ((e_line.f a0).bind fun bt190 => (if bt190.2.2.2 = 0 then (curve_Scalar.j0 k a0 a1 true) else ((e_line.f a0).bind fun bt194 => (curve_Scalar.j0 k a0 a1 ((a1.size : Int) != bt194.2.2.2))))) = some r := h
  clear h
  have HC3 := Aside0.mk H
  clear H
  go_enter Tryd.func11, Tryd.ntmps11
  go_upto_region 1 with (fail)
  go_cut [16] (fun v16 wc => ∃ (kq : Nat) (x16_2 : Bool), v16 = .bool x16_2 ∧ Aside0 (curve_Scalar.j0 kq a0 a1 x16_2 = some r) ∧ Aside0 (kq ≤ k) ∧ Aside0 (Below w.heap.size w wc))
  case first =>
    have H := HC3.out
    clear HC3
    replace H := Option.bind_eq_some_iff.mp H
    obtain ⟨⟨t190, t191, t192, t193⟩, A40, H⟩ := H
    replace H : (if t193 = 0 then (curve_Scalar.j0 k a0 a1 true) else ((e_line.f a0).bind fun bt194 => (curve_Scalar.j0 k a0 a1 ((a1.size : Int) != bt194.2.2.2)))) = some r := H
    have A4 := Aside0.mk A40
    clear A40
    by_cases c5 : t193 = 0
    · rw [if_pos c5] at H
      have c5b0 : (t193 == 0) = true := beq_iff_eq.mpr c5
      have c5b1 : (t193 != 0) = false := bne_eq_false_iff_eq.mpr c5
      clear c5
      (first | rw [c5b0] | (simp only [i64_w, i32_w]; rw [c5b0]) | skip)
      have H' := Aside0.mk H
      clear H
      go_wp2_with (first | ((with_reducible refine gate_callee (f := 12) rfl ?_); refine goesL_ (some 6) rfl rfl Tryd.func12 (by kernel_rfl) rfl #[.int .i64 a0] rfl (by (try simp only [List.map_toArray, List.map_cons, List.map_nil]); first | done | rfl | (simp only [List.length_drop, List.length_take]; rfl)) ?_; (with_reducible refine (e_line.calls a0 t190 t191 t192 t193 _ ?side1 A4.out).mono ?_); (case side1 => first | exact HGL.out | exact GL.drewN HGL.out _ | exact GL.below HGL.out (by repeat (first | (with_reducible first | exact HB.out | apply below_alloc | apply pw_below_drewN | apply below_drew1) | exact HB.out))); rintro e w6 ⟨rfl, hb⟩; refine ⟨_, rfl, ?_⟩; have n0_ := Aside0.mk (below_step (by repeat (first | (with_reducible first | exact HB.out | apply below_alloc | apply pw_below_drewN | apply below_drew1) | exact HB.out)) hb); clear HB; have HB := n0_; clear n0_; (try clear hb); (try clear hb2); (try clear hk); (try clear hi)))
      go_meet
      case rel => exact ⟨_, (true), (by first | rfl | (simp; done) | (simp [*]; done)), H', ⟨by first | omega | exact Nat.le_refl _⟩, ⟨by repeat (first | (with_reducible first | exact HB.out | apply below_alloc | apply pw_below_drewN | apply below_drew1) | exact HB.out)⟩⟩
    · rw [if_neg c5] at H
      have c5b0 : (t193 == 0) = false := beq_eq_false_iff_ne.mpr c5
      have c5b1 : (t193 != 0) = true := bne_iff_ne.mpr c5
      (first | rw [c5b0] | (simp only [i64_w, i32_w]; rw [c5b0]) | skip)
      replace H := Option.bind_eq_some_iff.mp H
      obtain ⟨⟨t194, t195, t196, t197⟩, A70, H⟩ := H
      replace H : (curve_Scalar.j0 k a0 a1 ((a1.size : Int) != t197)) = some r := H
      have A7 := Aside0.mk A70
      clear A70
      have H' := Aside0.mk H
      clear H
      go_wp2_with (first | ((with_reducible refine gate_callee (f := 12) rfl ?_); refine goesL_ (some 6) rfl rfl Tryd.func12 (by kernel_rfl) rfl #[.int .i64 a0] rfl (by (try simp only [List.map_toArray, List.map_cons, List.map_nil]); first | done | rfl | (simp only [List.length_drop, List.length_take]; rfl)) ?_; (with_reducible refine (e_line.calls a0 t190 t191 t192 t193 _ ?side1 A4.out).mono ?_); (case side1 => first | exact HGL.out | exact GL.drewN HGL.out _ | exact GL.below HGL.out (by repeat (first | (with_reducible first | exact HB.out | apply below_alloc | apply pw_below_drewN | apply below_drew1) | exact HB.out))); rintro e w8 ⟨rfl, hb⟩; refine ⟨_, rfl, ?_⟩; have n0_ := Aside0.mk (below_step (by repeat (first | (with_reducible first | exact HB.out | apply below_alloc | apply pw_below_drewN | apply below_drew1) | exact HB.out)) hb); clear HB; have HB := n0_; clear n0_; (try clear hb); (try clear hb2); (try clear hk); (try clear hi)) | (go_at_call 12; (with_reducible refine (e_line.calls a0 t194 t195 t196 t197 _ ?side1 A7.out).mono ?_); (case side1 => first | exact HGL.out | exact GL.drewN HGL.out _ | exact GL.below HGL.out (by repeat (first | (with_reducible first | exact HB.out | apply below_alloc | apply pw_below_drewN | apply below_drew1) | exact HB.out))); rintro e w9 ⟨rfl, hb⟩; have n0_ := Aside0.mk (below_step (by repeat (first | (with_reducible first | exact HB.out | apply below_alloc | apply pw_below_drewN | apply below_drew1) | exact HB.out)) hb); clear HB; have HB := n0_; clear n0_; (try clear hb); (try clear hb2); (try clear hk); (try clear hi)))
      go_meet
      case rel => exact ⟨_, (((a1.size : Int) != t197)), (by first | rfl | (simp; done) | (simp [*]; done)), H', ⟨by first | omega | exact Nat.le_refl _⟩, ⟨by repeat (first | (with_reducible first | exact HB.out | apply below_alloc | apply pw_below_drewN | apply below_drew1) | exact HB.out)⟩⟩
  case rest =>
    clear HC3
    try clear c1
    try clear p2
    try clear c5
    try clear c5b0
    try clear c5b1
    obtain ⟨kq, x16_2, rfl, HA, HJ2, HB⟩ := hcut
    cases kq with
    | zero => exact absurd HA.out (by simp [curve_Scalar.j0])
    | succ kj2 =>
      have H := HA.out
      clear HA
      simp only [curve_Scalar.j0] at H
      by_cases c10 : x16_2 = true
      · subst c10
        have H1 : (some false) = some r := by rw [if_pos rfl] at H; exact H
        clear H
        have H := H1
        clear H1
        obtain rfl := Option.some.inj H
        go_wp2
        go_ret
        exact ⟨by first | rfl | (simp [errW_none, errW_some] <;> rfl) | (simp [*, errW_none, errW_some] <;> rfl), by repeat (first | (with_reducible first | exact HB.out | apply below_alloc | apply pw_below_drewN | apply below_drew1) | exact HB.out)⟩
      · replace c10 := Bool.eq_false_iff.mpr c10
        subst c10
        have H1 : ((e_Trim.f a1 (⟨#[0]⟩ : ByteArray)).bind fun t198 => (if t198.toList = ([] : List UInt8) then (some false) else ((curve_Order.f kj2 a0).bind fun t199 => ((e_Compare.f a1 t199).bind fun t200 => (some (decide (t200 < 0))))))) = some r := by rw [if_neg (show ¬ (false = true) by decide)] at H; exact H
        clear H
        have H := H1
        clear H1
        replace H := Option.bind_eq_some_iff.mp H
        obtain ⟨t198, A110, H⟩ := H
        replace H : (if t198.toList = ([] : List UInt8) then (some false) else ((curve_Order.f kj2 a0).bind fun t199 => ((e_Compare.f a1 t199).bind fun t200 => (some (decide (t200 < 0)))))) = some r := H
        have A11 := Aside0.mk A110
        clear A110
        by_cases c12 : t198.toList = ([] : List UInt8)
        · rw [if_pos c12] at H
          have c12b0 : (t198.toList == ([] : List UInt8)) = true := beq_iff_eq.mpr c12
          have c12b1 : (t198.toList != ([] : List UInt8)) = false := bne_eq_false_iff_eq.mpr c12
          clear c12
          obtain rfl := Option.some.inj H
          go_wp2_with (first | ((with_reducible refine gate_callee (f := 19) rfl ?_); refine goesL_ (some 18) rfl rfl Tryd.func19 (by kernel_rfl) rfl #[.string a1, .string (⟨#[0]⟩ : ByteArray)] rfl (by (try simp only [List.map_toArray, List.map_cons, List.map_nil]); first | done | rfl | (simp only [List.length_drop, List.length_take]; rfl)) ?_; (with_reducible refine (e_Trim.calls a1 (⟨#[0]⟩ : ByteArray) t198 _ ?side1 A11.out).mono ?_); (case side1 => first | exact HGL.out | exact GL.drewN HGL.out _ | exact GL.below HGL.out (by repeat (first | (with_reducible first | exact HB.out | apply below_alloc | apply pw_below_drewN | apply below_drew1) | exact HB.out))); rintro e w' ⟨rfl, ⟨nd, rfl⟩⟩; refine ⟨_, rfl, ?_⟩))
          go_ret
          exact ⟨by first | rfl | (simp [errW_none, errW_some] <;> rfl) | (simp [*, errW_none, errW_some] <;> rfl), by repeat (first | (with_reducible first | exact HB.out | apply below_alloc | apply pw_below_drewN | apply below_drew1) | exact HB.out)⟩
        · rw [if_neg c12] at H
          have c12b0 : (t198.toList == ([] : List UInt8)) = false := beq_eq_false_iff_ne.mpr c12
          have c12b1 : (t198.toList != ([] : List UInt8)) = true := bne_iff_ne.mpr c12
          replace H := Option.bind_eq_some_iff.mp H
          obtain ⟨t199, A130, H⟩ := H
          replace H : ((e_Compare.f a1 t199).bind fun t200 => (some (decide (t200 < 0)))) = some r := H
          have A13 := Aside0.mk A130
          clear A130
          replace H := Option.bind_eq_some_iff.mp H
          obtain ⟨t200, A140, H⟩ := H
          replace H : (some (decide (t200 < 0))) = some r := H
          have A14 := Aside0.mk A140
          clear A140
          obtain rfl := Option.some.inj H
          go_wp2_with (first | ((with_reducible refine gate_callee (f := 19) rfl ?_); refine goesL_ (some 18) rfl rfl Tryd.func19 (by kernel_rfl) rfl #[.string a1, .string (⟨#[0]⟩ : ByteArray)] rfl (by (try simp only [List.map_toArray, List.map_cons, List.map_nil]); first | done | rfl | (simp only [List.length_drop, List.length_take]; rfl)) ?_; (with_reducible refine (e_Trim.calls a1 (⟨#[0]⟩ : ByteArray) t198 _ ?side1 A11.out).mono ?_); (case side1 => first | exact HGL.out | exact GL.drewN HGL.out _ | exact GL.below HGL.out (by repeat (first | (with_reducible first | exact HB.out | apply below_alloc | apply pw_below_drewN | apply below_drew1) | exact HB.out))); rintro e w' ⟨rfl, ⟨nd, rfl⟩⟩; refine ⟨_, rfl, ?_⟩) | (go_at_call 7; (with_reducible refine (curve_Order.calls kj2 a0 t199 _ ?side1 A13.out).mono ?_); (case side1 => first | exact HGL.out | exact GL.drewN HGL.out _ | exact GL.below HGL.out (by repeat (first | (with_reducible first | exact HB.out | apply below_alloc | apply pw_below_drewN | apply below_drew1) | exact HB.out))); rintro e w15 ⟨rfl, hb⟩; have n0_ := Aside0.mk (below_step (by repeat (first | (with_reducible first | exact HB.out | apply below_alloc | apply pw_below_drewN | apply below_drew1) | exact HB.out)) hb); clear HB; have HB := n0_; clear n0_; (try clear hb); (try clear hb2); (try clear hk); (try clear hi)) | (go_at_call 20; (with_reducible refine (e_Compare.calls a1 t199 t200 _ ?side1 A14.out).mono ?_); (case side1 => first | exact HGL.out | exact GL.drewN HGL.out _ | exact GL.below HGL.out (by repeat (first | (with_reducible first | exact HB.out | apply below_alloc | apply pw_below_drewN | apply below_drew1) | exact HB.out))); rintro e w' ⟨rfl, ⟨nd, rfl⟩⟩))
          go_ret
          exact ⟨by first | rfl | (simp [errW_none, errW_some] <;> rfl) | (simp [*, errW_none, errW_some] <;> rfl), by repeat (first | (with_reducible first | exact HB.out | apply below_alloc | apply pw_below_drewN | apply below_drew1) | exact HB.out)⟩

end Go.Proofs.YtnffjpbmlfmbcaaDoor.X

/- CurveFound, its walks: a number that is no curve's; and a curve's. -/
import Derived.Test.YtnffjpbmlfmbcaaDoorExtFound
import Derived.Test.YtnffjpbmlfmbcaaDoorXclavigerlaw22awake
import Derived.Test.YtnffjpbmlfmbcaaDoorXcurveScalar
import Derived.Test.YtnffjpbmlfmbcaaDoorXcurveArcs
import Derived.Test.YtnffjpbmlfmbcaaDoorXcurveOrder
import Derived.Test.YtnffjpbmlfmbcaaDoorXcurveWidth
import Derived.Test.YtnffjpbmlfmbcaaDoorXcurveName
namespace Go.Proofs.YtnffjpbmlfmbcaaDoor.X
open Go Go.RowKit Go.Proofs.YtnffjpbmlfmbcaaDoorW.PrintWords Go.Proofs.YtnffjpbmlfmbcaaDoorW.PrintLast Go.Proofs.YtnffjpbmlfmbcaaDoorW.PrintMore
set_option linter.unusedVariables false
set_option linter.unusedSimpArgs false

set_option maxHeartbeats 4000000 in
set_option maxRecDepth 100000 in
theorem law_out (no : Int) (k : Nat) (w : World) (hGL : GL w) (hW : curve_Width.f no = some 0) (hN : curve_Name.f no = some ⟨#[]⟩) (hA : curve_Arcs.f no = some []) (hO : curve_Order.f k no = some ⟨#[]⟩) (haw : clavigerlaw22_awake.f k = some true) :
    Calls Tryd.prog 3 #[.int .i64 no] w fun e w' => e = .returned (.bool true) ∧ Below w.heap.size w w' := by
  have HGL := Aside0.mk hGL
  have cW := Lib.hid fun W (h : GL W) => curve_Width.calls no 0 W h hW
  have cN := Lib.hid fun W (h : GL W) => curve_Name.calls no _ W h hN
  have cA := Lib.hid fun W (h : GL W) => curve_Arcs.calls no _ W h hA
  have cO := Lib.hid fun W (h : GL W) => curve_Order.calls k no _ W h hO
  have cX := Lib.hid fun W (h : GL W) => clavigerlaw22_awake.calls k _ W h haw
  clear hGL hW hN hA hO haw
  go_enter Tryd.func3, Tryd.ntmps3
  go_wp2_with (first
    | (go_at_call 4; refine (cW.out _ HGL.out).mono ?_; rintro e w1 ⟨rfl, B1⟩)
    | (go_at_call 5; refine (cN.out _ (HGL.out.below B1)).mono ?_; rintro e w2 ⟨rfl, hb2⟩; have B2 := below_step B1 hb2)
    | (go_at_call 6; refine (cA.out _ (HGL.out.below B2)).mono ?_; rintro e w3 ⟨v3, rfl, hR3, hb3⟩; obtain ⟨A3, c3, rfl, hl3, hC3⟩ := Kd.R_reads hR3; have B3 := below_step B2 hb3)
    | (go_at_call 7; refine (cO.out _ (HGL.out.below B3)).mono ?_; rintro e w4 ⟨rfl, hb4⟩; have B4 := below_step B3 hb4)
    | (go_at_call 8; refine (cX.out _ (HGL.out.below B4)).mono ?_; rintro e w5 ⟨rfl, hb5⟩; have B5 := below_step B4 hb5))
  go_ret
  exact ⟨rfl, B5⟩

/-- A block of bytes made of a text is not frozen where its bytes lie. -/
theorem bytes_free (W : World) (e : TypeId) (s : ByteArray) (j : Nat) (hj : j < s.size) : (Lib.bytesWorld W e s).frozen? ⟨W.heap.size, j, none⟩ = false := by
  simp [World.frozen?, Lib.bytesWorld_at_new, Lib.bytesCells]
  omega
theorem reads_set {w : World} {k : IntKind} {b n : Nat} {xs : List Int} (h : ReadsInt w k (some ⟨b, 0, none⟩) n xs) (i : Nat) (hi : i < n) (x : Int) :
    ReadsInt (w.setCell ⟨b, i, none⟩ (.int k x)) k (some ⟨b, 0, none⟩) n (xs.set i x) := by
  refine ⟨by rw [List.length_set]; exact h.1, h.2.1, fun hn => ⟨_, rfl, fun j hj => ?_⟩⟩
  obtain ⟨ad, he, hc⟩ := h.2.2 hn
  cases he
  have hl := h.1
  rw [add_plain]
  by_cases e : j = i
  · subst e
    have h1 := hc j hj
    rw [add_plain] at h1
    rw [World.cell?_setCell_same' _ _ _ (by rw [h1]; rfl)]
    simp [List.getD_eq_getElem?_getD, hl, hj]
  · rw [show (w.setCell ⟨b, i, none⟩ (.int k x)).cell? ⟨b, j, none⟩ = w.cell? ⟨b, j, none⟩ from World.cell?_setCell_other _ _ _ _ (by intro e'; cases e'; exact e rfl)]
    have h1 := hc j hj
    rw [add_plain] at h1
    rw [h1]
    simp [List.getD_eq_getElem?_getD, List.getElem?_set, Ne.symm e]

set_option maxHeartbeats 8000000 in
set_option maxRecDepth 100000 in
theorem law_28 (no : Int) (s : ByteArray) (arcs : List Int) (k : Nat) (w : World) (hGL : GL w) (hs : s.size = 28) (hlast : (s.data.toList.getD 27 0).toNat = 61) (hW : curve_Width.f no = some 28) (hA : curve_Arcs.f no = some arcs) (hBy : e_By.f arcs = some (no, true)) (hOf : e_Of.f 28 = some (no, true)) (hO : curve_Order.f k no = some s)
    (hz : curve_Scalar.f k no (strOfNums (List.replicate 28 0)) = some false) (h1 : curve_Scalar.f k no (strOfNums ((List.replicate 28 0).set 27 1)) = some true) (hb : curve_Scalar.f k no (strOfNums ((bytesOf s).set 27 60)) = some true) (hn : curve_Scalar.f k no s = some false) (haw : clavigerlaw22_awake.f k = some true) :
    Calls Tryd.prog 3 #[.int .i64 no] w fun e w' => e = .returned (.bool true) ∧ Below w.heap.size w w' := by
  have HGL := Aside0.mk hGL
  have HS := Lib.hid hs
  have HL := Lib.hid hlast
  have cW := Lib.hid fun W (h : GL W) => curve_Width.calls no _ W h hW
  have cA := Lib.hid fun W (h : GL W) => curve_Arcs.calls no _ W h hA
  have cB := Lib.hid fun A c W (h : GL W) (hr : Kd.C (Kd.int .i64) W A arcs.length arcs) (hc : arcs.length ≤ c) => e_By.calls A c arcs no true W h hr hc hBy
  have cF := Lib.hid fun W (h : GL W) => e_Of.calls 28 no true W h hOf
  have cO := Lib.hid fun W (h : GL W) => curve_Order.calls k no _ W h hO
  have cX := Lib.hid fun W (h : GL W) => clavigerlaw22_awake.calls k _ W h haw
  generalize hxz : strOfNums (List.replicate 28 0) = xz at hz
  generalize hx1 : strOfNums ((List.replicate 28 0).set 27 1) = x1 at h1
  generalize hxb : strOfNums ((bytesOf s).set 27 60) = xb at hb
  have XZ := Lib.hid hxz
  have X1 := Lib.hid hx1
  have XB := Lib.hid hxb
  have cZ := Lib.hid fun W (h : GL W) => curve_Scalar.calls k no xz false W h hz
  have c1 := Lib.hid fun W (h : GL W) => curve_Scalar.calls k no x1 true W h h1
  have cb := Lib.hid fun W (h : GL W) => curve_Scalar.calls k no xb true W h hb
  have cn := Lib.hid fun W (h : GL W) => curve_Scalar.calls k no s false W h hn
  have kb := fun W => print_bytes (P := Tryd.prog) 9 30 5 Tryd.underlying9 Tryd.underlying30 Tryd.underlying5 s W
  clear hGL hW hA hBy hOf hO haw hz h1 hb hn hxz hx1 hxb hlast
  go_enter Tryd.func3, Tryd.ntmps3
  go_wp2_with (first
    | (go_at_call 4; refine (cW.out _ HGL.out).mono ?_; rintro e w1 ⟨rfl, B1⟩)
    | (go_at_call 6; refine (cA.out _ (HGL.out.below B1)).mono ?_; rintro e w3 ⟨v3, rfl, hR3, hb3⟩; obtain ⟨A3, c3, rfl, hl3, hC3⟩ := Kd.R_reads hR3; have B3 := below_step B1 hb3)
    | (go_at_call 9; refine (cB.out _ _ _ (HGL.out.below B3) hC3 hl3).mono ?_; rintro e w4 ⟨rfl, hb4⟩; have B4 := below_step B3 hb4)
    | (go_at_call 10; refine (cF.out _ (HGL.out.below B4)).mono ?_; rintro e w5 ⟨rfl, hb5⟩; have B5 := below_step B4 hb5)
    | (go_at_call 7; refine (cO.out _ (HGL.out.below B5)).mono ?_; rintro e w6 ⟨rfl, hb6⟩; have B6 := below_step B5 hb6))
  clear B1 B3 B4 B5 hb3 hb4 hb5 hb6 hR3 hC3 hl3
  go_loopw [9, 10, 11] (fun x y z wr => ∃ i : Nat, i ≤ 28 ∧ z = .int .i64 i ∧ wr.ownsRow w.heap.size 5 1 x (List.replicate i (0 : Int)).length (nums .u8 (List.replicate i 0)) ∧ wr.ownsRow w.heap.size 5 1 y (List.replicate i (0 : Int)).length (nums .u8 (List.replicate i 0)) ∧ Aside0 (NeRow x y) ∧ Below w.heap.size w wr)
    (fun _ _ z _ => 28 - (intOf z).toNat)
  case atStart => exact ⟨0, by omega, rfl, own_nil _ _ _ _, own_nil _ _ _ _, ⟨ne_nil _⟩, B6⟩
  case round =>
    obtain ⟨i, hi, rfl, hx, hy, hne, hB⟩ := hrel
    by_cases hlt : i < 28
    · go_wp2_with (first
        | (at_builtin; refine print_append_num (w0 := w) w.heap.size rfl (.tmp 74) (.tmp 75) 30 5 .u8 1 rfl Tryd.underlying30 info5 (by decide) _ (List.replicate i 0) 0 rfl rfl hx hB hB.size (by simp; omega) ?_; intro v1 W1 ho1 hb1 hg1 hat1; have hy1 := own_other hy hg1 (ne_other hne.out); have hne1 := Aside0.mk (ne_append hne.out hat1 hy); clear hx hB hne; clear hg1 hat1)
        | (at_builtin; refine print_append_num (w0 := w) w.heap.size rfl (.tmp 77) (.tmp 78) 30 5 .u8 1 rfl Tryd.underlying30 info5 (by decide) _ (List.replicate i 0) 0 rfl rfl hy1 hb1 hb1.size (by simp; omega) ?_; intro v2 W2 ho2 hb2 hg2 hat2; have hx2 := own_other ho1 hg2 (ne_other (ne_symm hne1.out)); have hne2 := Aside0.mk (ne_append' hne1.out hat2 ho1); clear hg2 hat2))
      go_roundw
      case rel =>
        have he : List.replicate (i + 1) (0 : Int) = List.replicate i 0 ++ [0] := List.replicate_succ'
        exact ⟨i + 1, by omega, by go_num, by rw [he]; exact hx2, by rw [he]; exact ho2, hne2, hb2⟩
      case measure => simp [intOf]; omega
    · obtain rfl : i = 28 := by omega
      rw [List.length_replicate] at hx hy
      obtain ⟨gx, cx, rfl, _, hgx⟩ := hx.form (by omega)
      obtain ⟨gy, cy, rfl, _, hgy⟩ := hy.form (by omega)
      obtain ⟨hcy, hfy⟩ := own_at hy 27 (by decide) (by decide)
      obtain ⟨hsy, hgr⟩ := own_store hy 27 1
      have hnn : gx ≠ gy := fun e => hne.out gx rfl (by rw [e]; rfl)
      have hsx := own_setCell hx (p := ⟨gy, (27 : Int).toNat, none⟩) (by simpa [Value.ownBlock] using hnn.symm) (.int .u8 1)
      have eMM : (27 : Int).toNat = 27 := rfl
      rw [eMM] at hcy hfy hsy hgr hsx
      clear eMM
      obtain ⟨W3, hW3⟩ : ∃ W3, wr.setCell ⟨gy, 27, none⟩ (.int .u8 1) = W3 := ⟨_, rfl⟩
      have hz3 : W3.heap.size = wr.heap.size := by rw [← hW3]; simp
      have B7 : Below w.heap.size w W3 := by rw [← hW3]; exact hB.setCell (p := ⟨gy, 27, none⟩) (own_base hy gy rfl) _
      rw [hW3] at hsy hsx
      have hcb : (Lib.bytesWorld (wr.setCell ⟨gy, 27, none⟩ (.int .u8 1)) 5 s).cell? ⟨wr.heap.size, 27, none⟩ = some (.int .u8 61) := by
        rw [hW3, ← hz3, Lib.bytesWorld_cell W3 5 s 27 (by rw [HS.out]; omega), HL.out]; rfl
      have hfb : (Lib.bytesWorld (wr.setCell ⟨gy, 27, none⟩ (.int .u8 1)) 5 s).frozen? ⟨wr.heap.size, 27, none⟩ = false := by
        rw [hW3, ← hz3]; exact bytes_free W3 5 s 27 (by rw [HS.out]; omega)
      have lx : gx < W3.heap.size := own_lt hsx gx rfl
      have ly : gy < W3.heap.size := own_lt hsy gy rfl
      obtain ⟨W4, hW4⟩ : ∃ W4, (Lib.bytesWorld W3 5 s).setCell ⟨wr.heap.size, 27, none⟩ (.int .u8 60) = W4 := ⟨_, rfl⟩
      have hbw : Below W3.heap.size W3 (Lib.bytesWorld W3 5 s) := bytes_below (Below.refl _ _) (Nat.le_refl _) _ _
      have B8 : Below w.heap.size w W4 := by rw [← hW4]; exact (below_step B7 hbw).setCell (p := ⟨wr.heap.size, 27, none⟩) hB.size _
      have rx : ReadsInt W4 .u8 (some ⟨gx, 0, none⟩) 28 (List.replicate 28 0) := by
        rw [← hW4]; exact own_reads' (own_setCell (pw_own_below hsx hbw) (p := ⟨wr.heap.size, 27, none⟩) (by simp [Value.ownBlock]; omega) _)
      have ry : ReadsInt W4 .u8 (some ⟨gy, 0, none⟩) 28 ((List.replicate 28 0).set 27 1) := by
        rw [← hW4]; exact own_reads' (own_setCell (pw_own_below hsy hbw) (p := ⟨wr.heap.size, 27, none⟩) (by simp [Value.ownBlock]; omega) _)
      have rb : ReadsInt W4 .u8 (some ⟨wr.heap.size, 0, none⟩) 28 ((bytesOf s).set 27 60) := by
        have h0 := bytes_reads W3 5 s (by rw [HS.out]; decide)
        rw [HS.out, hz3] at h0
        rw [← hW4]
        exact reads_set h0 27 (by decide) 60
      have k1 : ∀ (c : Nat), (convert 30 9 (.slice (some ⟨gx, 0, none⟩) 28 c)).run Tryd.prog W4 = .ok (.string xz) W4 := fun c => by
        rw [← XZ.out]; exact string_of_reads Tryd.underlying30 Tryd.underlying5 Tryd.underlying9 rx
      have k2 : ∀ (W : World), Below W4.heap.size W4 W → ∀ (c : Nat), (convert 30 9 (.slice (some ⟨gy, 0, none⟩) 28 c)).run Tryd.prog W = .ok (.string x1) W := fun W hb c => by
        rw [← X1.out]; exact string_of_reads Tryd.underlying30 Tryd.underlying5 Tryd.underlying9 (ry.below hb)
      have k3 : ∀ (W : World), Below W4.heap.size W4 W → ∀ (c : Nat), (convert 30 9 (.slice (some ⟨wr.heap.size, 0, none⟩) 28 c)).run Tryd.prog W = .ok (.string xb) W := fun W hb c => by
        rw [← XB.out]; exact string_of_reads Tryd.underlying30 Tryd.underlying5 Tryd.underlying9 (rb.below hb)
      have K2 := Lib.hid k2
      have K3 := Lib.hid k3
      have BB := Lib.hid B8
      rw [← hW3] at hW4
      subst hW4
      clear hx hy hgr hW3 hz3 hsx hsy hnn hne rx ry rb k2 k3 B7 hbw lx ly B8 hB
      go_wp2_with (first
        | (go_at_call 11; (with_reducible refine (cZ.out _ (HGL.out.below BB.out)).mono ?_); rintro e w1 ⟨rfl, e1⟩; have kk2 := K2.out _ e1; clear k1)
        | (go_at_call 11; (with_reducible refine (c1.out _ (HGL.out.below (below_step BB.out e1))).mono ?_); rintro e w2 ⟨rfl, e2⟩; have e3 := below_step e1 e2; have kk3 := K3.out _ e3; clear kk2)
        | (go_at_call 11; (with_reducible refine (cb.out _ (HGL.out.below (below_step BB.out e3))).mono ?_); rintro e w3 ⟨rfl, e4⟩; have e5 := below_step e3 e4; clear kk3)
        | (go_at_call 11; (with_reducible refine (cn.out _ (HGL.out.below (below_step BB.out e5))).mono ?_); rintro e w4 ⟨rfl, e6⟩; have e7 := below_step e5 e6)
        | (go_at_call 8; (with_reducible refine (cX.out _ (HGL.out.below (below_step BB.out e7))).mono ?_); rintro e w5 ⟨rfl, e8⟩; have e9 := below_step e7 e8))
      go_ret
      exact ⟨rfl, below_step BB.out e9⟩

set_option maxHeartbeats 8000000 in
set_option maxRecDepth 100000 in
theorem law_32 (no : Int) (s : ByteArray) (arcs : List Int) (k : Nat) (w : World) (hGL : GL w) (hs : s.size = 32) (hlast : (s.data.toList.getD 31 0).toNat = 81) (hW : curve_Width.f no = some 32) (hA : curve_Arcs.f no = some arcs) (hBy : e_By.f arcs = some (no, true)) (hOf : e_Of.f 32 = some (no, true)) (hO : curve_Order.f k no = some s)
    (hz : curve_Scalar.f k no (strOfNums (List.replicate 32 0)) = some false) (h1 : curve_Scalar.f k no (strOfNums ((List.replicate 32 0).set 31 1)) = some true) (hb : curve_Scalar.f k no (strOfNums ((bytesOf s).set 31 80)) = some true) (hn : curve_Scalar.f k no s = some false) (haw : clavigerlaw22_awake.f k = some true) :
    Calls Tryd.prog 3 #[.int .i64 no] w fun e w' => e = .returned (.bool true) ∧ Below w.heap.size w w' := by
  have HGL := Aside0.mk hGL
  have HS := Lib.hid hs
  have HL := Lib.hid hlast
  have cW := Lib.hid fun W (h : GL W) => curve_Width.calls no _ W h hW
  have cA := Lib.hid fun W (h : GL W) => curve_Arcs.calls no _ W h hA
  have cB := Lib.hid fun A c W (h : GL W) (hr : Kd.C (Kd.int .i64) W A arcs.length arcs) (hc : arcs.length ≤ c) => e_By.calls A c arcs no true W h hr hc hBy
  have cF := Lib.hid fun W (h : GL W) => e_Of.calls 32 no true W h hOf
  have cO := Lib.hid fun W (h : GL W) => curve_Order.calls k no _ W h hO
  have cX := Lib.hid fun W (h : GL W) => clavigerlaw22_awake.calls k _ W h haw
  generalize hxz : strOfNums (List.replicate 32 0) = xz at hz
  generalize hx1 : strOfNums ((List.replicate 32 0).set 31 1) = x1 at h1
  generalize hxb : strOfNums ((bytesOf s).set 31 80) = xb at hb
  have XZ := Lib.hid hxz
  have X1 := Lib.hid hx1
  have XB := Lib.hid hxb
  have cZ := Lib.hid fun W (h : GL W) => curve_Scalar.calls k no xz false W h hz
  have c1 := Lib.hid fun W (h : GL W) => curve_Scalar.calls k no x1 true W h h1
  have cb := Lib.hid fun W (h : GL W) => curve_Scalar.calls k no xb true W h hb
  have cn := Lib.hid fun W (h : GL W) => curve_Scalar.calls k no s false W h hn
  have kb := fun W => print_bytes (P := Tryd.prog) 9 30 5 Tryd.underlying9 Tryd.underlying30 Tryd.underlying5 s W
  clear hGL hW hA hBy hOf hO haw hz h1 hb hn hxz hx1 hxb hlast
  go_enter Tryd.func3, Tryd.ntmps3
  go_wp2_with (first
    | (go_at_call 4; refine (cW.out _ HGL.out).mono ?_; rintro e w1 ⟨rfl, B1⟩)
    | (go_at_call 6; refine (cA.out _ (HGL.out.below B1)).mono ?_; rintro e w3 ⟨v3, rfl, hR3, hb3⟩; obtain ⟨A3, c3, rfl, hl3, hC3⟩ := Kd.R_reads hR3; have B3 := below_step B1 hb3)
    | (go_at_call 9; refine (cB.out _ _ _ (HGL.out.below B3) hC3 hl3).mono ?_; rintro e w4 ⟨rfl, hb4⟩; have B4 := below_step B3 hb4)
    | (go_at_call 10; refine (cF.out _ (HGL.out.below B4)).mono ?_; rintro e w5 ⟨rfl, hb5⟩; have B5 := below_step B4 hb5)
    | (go_at_call 7; refine (cO.out _ (HGL.out.below B5)).mono ?_; rintro e w6 ⟨rfl, hb6⟩; have B6 := below_step B5 hb6))
  clear B1 B3 B4 B5 hb3 hb4 hb5 hb6 hR3 hC3 hl3
  go_loopw [9, 10, 11] (fun x y z wr => ∃ i : Nat, i ≤ 32 ∧ z = .int .i64 i ∧ wr.ownsRow w.heap.size 5 1 x (List.replicate i (0 : Int)).length (nums .u8 (List.replicate i 0)) ∧ wr.ownsRow w.heap.size 5 1 y (List.replicate i (0 : Int)).length (nums .u8 (List.replicate i 0)) ∧ Aside0 (NeRow x y) ∧ Below w.heap.size w wr)
    (fun _ _ z _ => 32 - (intOf z).toNat)
  case atStart => exact ⟨0, by omega, rfl, own_nil _ _ _ _, own_nil _ _ _ _, ⟨ne_nil _⟩, B6⟩
  case round =>
    obtain ⟨i, hi, rfl, hx, hy, hne, hB⟩ := hrel
    by_cases hlt : i < 32
    · go_wp2_with (first
        | (at_builtin; refine print_append_num (w0 := w) w.heap.size rfl (.tmp 74) (.tmp 75) 30 5 .u8 1 rfl Tryd.underlying30 info5 (by decide) _ (List.replicate i 0) 0 rfl rfl hx hB hB.size (by simp; omega) ?_; intro v1 W1 ho1 hb1 hg1 hat1; have hy1 := own_other hy hg1 (ne_other hne.out); have hne1 := Aside0.mk (ne_append hne.out hat1 hy); clear hx hB hne; clear hg1 hat1)
        | (at_builtin; refine print_append_num (w0 := w) w.heap.size rfl (.tmp 77) (.tmp 78) 30 5 .u8 1 rfl Tryd.underlying30 info5 (by decide) _ (List.replicate i 0) 0 rfl rfl hy1 hb1 hb1.size (by simp; omega) ?_; intro v2 W2 ho2 hb2 hg2 hat2; have hx2 := own_other ho1 hg2 (ne_other (ne_symm hne1.out)); have hne2 := Aside0.mk (ne_append' hne1.out hat2 ho1); clear hg2 hat2))
      go_roundw
      case rel =>
        have he : List.replicate (i + 1) (0 : Int) = List.replicate i 0 ++ [0] := List.replicate_succ'
        exact ⟨i + 1, by omega, by go_num, by rw [he]; exact hx2, by rw [he]; exact ho2, hne2, hb2⟩
      case measure => simp [intOf]; omega
    · obtain rfl : i = 32 := by omega
      rw [List.length_replicate] at hx hy
      obtain ⟨gx, cx, rfl, _, hgx⟩ := hx.form (by omega)
      obtain ⟨gy, cy, rfl, _, hgy⟩ := hy.form (by omega)
      obtain ⟨hcy, hfy⟩ := own_at hy 31 (by decide) (by decide)
      obtain ⟨hsy, hgr⟩ := own_store hy 31 1
      have hnn : gx ≠ gy := fun e => hne.out gx rfl (by rw [e]; rfl)
      have hsx := own_setCell hx (p := ⟨gy, (31 : Int).toNat, none⟩) (by simpa [Value.ownBlock] using hnn.symm) (.int .u8 1)
      have eMM : (31 : Int).toNat = 31 := rfl
      rw [eMM] at hcy hfy hsy hgr hsx
      clear eMM
      obtain ⟨W3, hW3⟩ : ∃ W3, wr.setCell ⟨gy, 31, none⟩ (.int .u8 1) = W3 := ⟨_, rfl⟩
      have hz3 : W3.heap.size = wr.heap.size := by rw [← hW3]; simp
      have B7 : Below w.heap.size w W3 := by rw [← hW3]; exact hB.setCell (p := ⟨gy, 31, none⟩) (own_base hy gy rfl) _
      rw [hW3] at hsy hsx
      have hcb : (Lib.bytesWorld (wr.setCell ⟨gy, 31, none⟩ (.int .u8 1)) 5 s).cell? ⟨wr.heap.size, 31, none⟩ = some (.int .u8 81) := by
        rw [hW3, ← hz3, Lib.bytesWorld_cell W3 5 s 31 (by rw [HS.out]; omega), HL.out]; rfl
      have hfb : (Lib.bytesWorld (wr.setCell ⟨gy, 31, none⟩ (.int .u8 1)) 5 s).frozen? ⟨wr.heap.size, 31, none⟩ = false := by
        rw [hW3, ← hz3]; exact bytes_free W3 5 s 31 (by rw [HS.out]; omega)
      have lx : gx < W3.heap.size := own_lt hsx gx rfl
      have ly : gy < W3.heap.size := own_lt hsy gy rfl
      obtain ⟨W4, hW4⟩ : ∃ W4, (Lib.bytesWorld W3 5 s).setCell ⟨wr.heap.size, 31, none⟩ (.int .u8 80) = W4 := ⟨_, rfl⟩
      have hbw : Below W3.heap.size W3 (Lib.bytesWorld W3 5 s) := bytes_below (Below.refl _ _) (Nat.le_refl _) _ _
      have B8 : Below w.heap.size w W4 := by rw [← hW4]; exact (below_step B7 hbw).setCell (p := ⟨wr.heap.size, 31, none⟩) hB.size _
      have rx : ReadsInt W4 .u8 (some ⟨gx, 0, none⟩) 32 (List.replicate 32 0) := by
        rw [← hW4]; exact own_reads' (own_setCell (pw_own_below hsx hbw) (p := ⟨wr.heap.size, 31, none⟩) (by simp [Value.ownBlock]; omega) _)
      have ry : ReadsInt W4 .u8 (some ⟨gy, 0, none⟩) 32 ((List.replicate 32 0).set 31 1) := by
        rw [← hW4]; exact own_reads' (own_setCell (pw_own_below hsy hbw) (p := ⟨wr.heap.size, 31, none⟩) (by simp [Value.ownBlock]; omega) _)
      have rb : ReadsInt W4 .u8 (some ⟨wr.heap.size, 0, none⟩) 32 ((bytesOf s).set 31 80) := by
        have h0 := bytes_reads W3 5 s (by rw [HS.out]; decide)
        rw [HS.out, hz3] at h0
        rw [← hW4]
        exact reads_set h0 31 (by decide) 80
      have k1 : ∀ (c : Nat), (convert 30 9 (.slice (some ⟨gx, 0, none⟩) 32 c)).run Tryd.prog W4 = .ok (.string xz) W4 := fun c => by
        rw [← XZ.out]; exact string_of_reads Tryd.underlying30 Tryd.underlying5 Tryd.underlying9 rx
      have k2 : ∀ (W : World), Below W4.heap.size W4 W → ∀ (c : Nat), (convert 30 9 (.slice (some ⟨gy, 0, none⟩) 32 c)).run Tryd.prog W = .ok (.string x1) W := fun W hb c => by
        rw [← X1.out]; exact string_of_reads Tryd.underlying30 Tryd.underlying5 Tryd.underlying9 (ry.below hb)
      have k3 : ∀ (W : World), Below W4.heap.size W4 W → ∀ (c : Nat), (convert 30 9 (.slice (some ⟨wr.heap.size, 0, none⟩) 32 c)).run Tryd.prog W = .ok (.string xb) W := fun W hb c => by
        rw [← XB.out]; exact string_of_reads Tryd.underlying30 Tryd.underlying5 Tryd.underlying9 (rb.below hb)
      have K2 := Lib.hid k2
      have K3 := Lib.hid k3
      have BB := Lib.hid B8
      rw [← hW3] at hW4
      subst hW4
      clear hx hy hgr hW3 hz3 hsx hsy hnn hne rx ry rb k2 k3 B7 hbw lx ly B8 hB
      go_wp2_with (first
        | (go_at_call 11; (with_reducible refine (cZ.out _ (HGL.out.below BB.out)).mono ?_); rintro e w1 ⟨rfl, e1⟩; have kk2 := K2.out _ e1; clear k1)
        | (go_at_call 11; (with_reducible refine (c1.out _ (HGL.out.below (below_step BB.out e1))).mono ?_); rintro e w2 ⟨rfl, e2⟩; have e3 := below_step e1 e2; have kk3 := K3.out _ e3; clear kk2)
        | (go_at_call 11; (with_reducible refine (cb.out _ (HGL.out.below (below_step BB.out e3))).mono ?_); rintro e w3 ⟨rfl, e4⟩; have e5 := below_step e3 e4; clear kk3)
        | (go_at_call 11; (with_reducible refine (cn.out _ (HGL.out.below (below_step BB.out e5))).mono ?_); rintro e w4 ⟨rfl, e6⟩; have e7 := below_step e5 e6)
        | (go_at_call 8; (with_reducible refine (cX.out _ (HGL.out.below (below_step BB.out e7))).mono ?_); rintro e w5 ⟨rfl, e8⟩; have e9 := below_step e7 e8))
      go_ret
      exact ⟨rfl, below_step BB.out e9⟩

set_option maxHeartbeats 8000000 in
set_option maxRecDepth 100000 in
theorem law_48 (no : Int) (s : ByteArray) (arcs : List Int) (k : Nat) (w : World) (hGL : GL w) (hs : s.size = 48) (hlast : (s.data.toList.getD 47 0).toNat = 115) (hW : curve_Width.f no = some 48) (hA : curve_Arcs.f no = some arcs) (hBy : e_By.f arcs = some (no, true)) (hOf : e_Of.f 48 = some (no, true)) (hO : curve_Order.f k no = some s)
    (hz : curve_Scalar.f k no (strOfNums (List.replicate 48 0)) = some false) (h1 : curve_Scalar.f k no (strOfNums ((List.replicate 48 0).set 47 1)) = some true) (hb : curve_Scalar.f k no (strOfNums ((bytesOf s).set 47 114)) = some true) (hn : curve_Scalar.f k no s = some false) (haw : clavigerlaw22_awake.f k = some true) :
    Calls Tryd.prog 3 #[.int .i64 no] w fun e w' => e = .returned (.bool true) ∧ Below w.heap.size w w' := by
  have HGL := Aside0.mk hGL
  have HS := Lib.hid hs
  have HL := Lib.hid hlast
  have cW := Lib.hid fun W (h : GL W) => curve_Width.calls no _ W h hW
  have cA := Lib.hid fun W (h : GL W) => curve_Arcs.calls no _ W h hA
  have cB := Lib.hid fun A c W (h : GL W) (hr : Kd.C (Kd.int .i64) W A arcs.length arcs) (hc : arcs.length ≤ c) => e_By.calls A c arcs no true W h hr hc hBy
  have cF := Lib.hid fun W (h : GL W) => e_Of.calls 48 no true W h hOf
  have cO := Lib.hid fun W (h : GL W) => curve_Order.calls k no _ W h hO
  have cX := Lib.hid fun W (h : GL W) => clavigerlaw22_awake.calls k _ W h haw
  generalize hxz : strOfNums (List.replicate 48 0) = xz at hz
  generalize hx1 : strOfNums ((List.replicate 48 0).set 47 1) = x1 at h1
  generalize hxb : strOfNums ((bytesOf s).set 47 114) = xb at hb
  have XZ := Lib.hid hxz
  have X1 := Lib.hid hx1
  have XB := Lib.hid hxb
  have cZ := Lib.hid fun W (h : GL W) => curve_Scalar.calls k no xz false W h hz
  have c1 := Lib.hid fun W (h : GL W) => curve_Scalar.calls k no x1 true W h h1
  have cb := Lib.hid fun W (h : GL W) => curve_Scalar.calls k no xb true W h hb
  have cn := Lib.hid fun W (h : GL W) => curve_Scalar.calls k no s false W h hn
  have kb := fun W => print_bytes (P := Tryd.prog) 9 30 5 Tryd.underlying9 Tryd.underlying30 Tryd.underlying5 s W
  clear hGL hW hA hBy hOf hO haw hz h1 hb hn hxz hx1 hxb hlast
  go_enter Tryd.func3, Tryd.ntmps3
  go_wp2_with (first
    | (go_at_call 4; refine (cW.out _ HGL.out).mono ?_; rintro e w1 ⟨rfl, B1⟩)
    | (go_at_call 6; refine (cA.out _ (HGL.out.below B1)).mono ?_; rintro e w3 ⟨v3, rfl, hR3, hb3⟩; obtain ⟨A3, c3, rfl, hl3, hC3⟩ := Kd.R_reads hR3; have B3 := below_step B1 hb3)
    | (go_at_call 9; refine (cB.out _ _ _ (HGL.out.below B3) hC3 hl3).mono ?_; rintro e w4 ⟨rfl, hb4⟩; have B4 := below_step B3 hb4)
    | (go_at_call 10; refine (cF.out _ (HGL.out.below B4)).mono ?_; rintro e w5 ⟨rfl, hb5⟩; have B5 := below_step B4 hb5)
    | (go_at_call 7; refine (cO.out _ (HGL.out.below B5)).mono ?_; rintro e w6 ⟨rfl, hb6⟩; have B6 := below_step B5 hb6))
  clear B1 B3 B4 B5 hb3 hb4 hb5 hb6 hR3 hC3 hl3
  go_loopw [9, 10, 11] (fun x y z wr => ∃ i : Nat, i ≤ 48 ∧ z = .int .i64 i ∧ wr.ownsRow w.heap.size 5 1 x (List.replicate i (0 : Int)).length (nums .u8 (List.replicate i 0)) ∧ wr.ownsRow w.heap.size 5 1 y (List.replicate i (0 : Int)).length (nums .u8 (List.replicate i 0)) ∧ Aside0 (NeRow x y) ∧ Below w.heap.size w wr)
    (fun _ _ z _ => 48 - (intOf z).toNat)
  case atStart => exact ⟨0, by omega, rfl, own_nil _ _ _ _, own_nil _ _ _ _, ⟨ne_nil _⟩, B6⟩
  case round =>
    obtain ⟨i, hi, rfl, hx, hy, hne, hB⟩ := hrel
    by_cases hlt : i < 48
    · go_wp2_with (first
        | (at_builtin; refine print_append_num (w0 := w) w.heap.size rfl (.tmp 74) (.tmp 75) 30 5 .u8 1 rfl Tryd.underlying30 info5 (by decide) _ (List.replicate i 0) 0 rfl rfl hx hB hB.size (by simp; omega) ?_; intro v1 W1 ho1 hb1 hg1 hat1; have hy1 := own_other hy hg1 (ne_other hne.out); have hne1 := Aside0.mk (ne_append hne.out hat1 hy); clear hx hB hne; clear hg1 hat1)
        | (at_builtin; refine print_append_num (w0 := w) w.heap.size rfl (.tmp 77) (.tmp 78) 30 5 .u8 1 rfl Tryd.underlying30 info5 (by decide) _ (List.replicate i 0) 0 rfl rfl hy1 hb1 hb1.size (by simp; omega) ?_; intro v2 W2 ho2 hb2 hg2 hat2; have hx2 := own_other ho1 hg2 (ne_other (ne_symm hne1.out)); have hne2 := Aside0.mk (ne_append' hne1.out hat2 ho1); clear hg2 hat2))
      go_roundw
      case rel =>
        have he : List.replicate (i + 1) (0 : Int) = List.replicate i 0 ++ [0] := List.replicate_succ'
        exact ⟨i + 1, by omega, by go_num, by rw [he]; exact hx2, by rw [he]; exact ho2, hne2, hb2⟩
      case measure => simp [intOf]; omega
    · obtain rfl : i = 48 := by omega
      rw [List.length_replicate] at hx hy
      obtain ⟨gx, cx, rfl, _, hgx⟩ := hx.form (by omega)
      obtain ⟨gy, cy, rfl, _, hgy⟩ := hy.form (by omega)
      obtain ⟨hcy, hfy⟩ := own_at hy 47 (by decide) (by decide)
      obtain ⟨hsy, hgr⟩ := own_store hy 47 1
      have hnn : gx ≠ gy := fun e => hne.out gx rfl (by rw [e]; rfl)
      have hsx := own_setCell hx (p := ⟨gy, (47 : Int).toNat, none⟩) (by simpa [Value.ownBlock] using hnn.symm) (.int .u8 1)
      have eMM : (47 : Int).toNat = 47 := rfl
      rw [eMM] at hcy hfy hsy hgr hsx
      clear eMM
      obtain ⟨W3, hW3⟩ : ∃ W3, wr.setCell ⟨gy, 47, none⟩ (.int .u8 1) = W3 := ⟨_, rfl⟩
      have hz3 : W3.heap.size = wr.heap.size := by rw [← hW3]; simp
      have B7 : Below w.heap.size w W3 := by rw [← hW3]; exact hB.setCell (p := ⟨gy, 47, none⟩) (own_base hy gy rfl) _
      rw [hW3] at hsy hsx
      have hcb : (Lib.bytesWorld (wr.setCell ⟨gy, 47, none⟩ (.int .u8 1)) 5 s).cell? ⟨wr.heap.size, 47, none⟩ = some (.int .u8 115) := by
        rw [hW3, ← hz3, Lib.bytesWorld_cell W3 5 s 47 (by rw [HS.out]; omega), HL.out]; rfl
      have hfb : (Lib.bytesWorld (wr.setCell ⟨gy, 47, none⟩ (.int .u8 1)) 5 s).frozen? ⟨wr.heap.size, 47, none⟩ = false := by
        rw [hW3, ← hz3]; exact bytes_free W3 5 s 47 (by rw [HS.out]; omega)
      have lx : gx < W3.heap.size := own_lt hsx gx rfl
      have ly : gy < W3.heap.size := own_lt hsy gy rfl
      obtain ⟨W4, hW4⟩ : ∃ W4, (Lib.bytesWorld W3 5 s).setCell ⟨wr.heap.size, 47, none⟩ (.int .u8 114) = W4 := ⟨_, rfl⟩
      have hbw : Below W3.heap.size W3 (Lib.bytesWorld W3 5 s) := bytes_below (Below.refl _ _) (Nat.le_refl _) _ _
      have B8 : Below w.heap.size w W4 := by rw [← hW4]; exact (below_step B7 hbw).setCell (p := ⟨wr.heap.size, 47, none⟩) hB.size _
      have rx : ReadsInt W4 .u8 (some ⟨gx, 0, none⟩) 48 (List.replicate 48 0) := by
        rw [← hW4]; exact own_reads' (own_setCell (pw_own_below hsx hbw) (p := ⟨wr.heap.size, 47, none⟩) (by simp [Value.ownBlock]; omega) _)
      have ry : ReadsInt W4 .u8 (some ⟨gy, 0, none⟩) 48 ((List.replicate 48 0).set 47 1) := by
        rw [← hW4]; exact own_reads' (own_setCell (pw_own_below hsy hbw) (p := ⟨wr.heap.size, 47, none⟩) (by simp [Value.ownBlock]; omega) _)
      have rb : ReadsInt W4 .u8 (some ⟨wr.heap.size, 0, none⟩) 48 ((bytesOf s).set 47 114) := by
        have h0 := bytes_reads W3 5 s (by rw [HS.out]; decide)
        rw [HS.out, hz3] at h0
        rw [← hW4]
        exact reads_set h0 47 (by decide) 114
      have k1 : ∀ (c : Nat), (convert 30 9 (.slice (some ⟨gx, 0, none⟩) 48 c)).run Tryd.prog W4 = .ok (.string xz) W4 := fun c => by
        rw [← XZ.out]; exact string_of_reads Tryd.underlying30 Tryd.underlying5 Tryd.underlying9 rx
      have k2 : ∀ (W : World), Below W4.heap.size W4 W → ∀ (c : Nat), (convert 30 9 (.slice (some ⟨gy, 0, none⟩) 48 c)).run Tryd.prog W = .ok (.string x1) W := fun W hb c => by
        rw [← X1.out]; exact string_of_reads Tryd.underlying30 Tryd.underlying5 Tryd.underlying9 (ry.below hb)
      have k3 : ∀ (W : World), Below W4.heap.size W4 W → ∀ (c : Nat), (convert 30 9 (.slice (some ⟨wr.heap.size, 0, none⟩) 48 c)).run Tryd.prog W = .ok (.string xb) W := fun W hb c => by
        rw [← XB.out]; exact string_of_reads Tryd.underlying30 Tryd.underlying5 Tryd.underlying9 (rb.below hb)
      have K2 := Lib.hid k2
      have K3 := Lib.hid k3
      have BB := Lib.hid B8
      rw [← hW3] at hW4
      subst hW4
      clear hx hy hgr hW3 hz3 hsx hsy hnn hne rx ry rb k2 k3 B7 hbw lx ly B8 hB
      go_wp2_with (first
        | (go_at_call 11; (with_reducible refine (cZ.out _ (HGL.out.below BB.out)).mono ?_); rintro e w1 ⟨rfl, e1⟩; have kk2 := K2.out _ e1; clear k1)
        | (go_at_call 11; (with_reducible refine (c1.out _ (HGL.out.below (below_step BB.out e1))).mono ?_); rintro e w2 ⟨rfl, e2⟩; have e3 := below_step e1 e2; have kk3 := K3.out _ e3; clear kk2)
        | (go_at_call 11; (with_reducible refine (cb.out _ (HGL.out.below (below_step BB.out e3))).mono ?_); rintro e w3 ⟨rfl, e4⟩; have e5 := below_step e3 e4; clear kk3)
        | (go_at_call 11; (with_reducible refine (cn.out _ (HGL.out.below (below_step BB.out e5))).mono ?_); rintro e w4 ⟨rfl, e6⟩; have e7 := below_step e5 e6)
        | (go_at_call 8; (with_reducible refine (cX.out _ (HGL.out.below (below_step BB.out e7))).mono ?_); rintro e w5 ⟨rfl, e8⟩; have e9 := below_step e7 e8))
      go_ret
      exact ⟨rfl, below_step BB.out e9⟩

set_option maxHeartbeats 8000000 in
set_option maxRecDepth 100000 in
theorem law_66 (no : Int) (s : ByteArray) (arcs : List Int) (k : Nat) (w : World) (hGL : GL w) (hs : s.size = 66) (hlast : (s.data.toList.getD 65 0).toNat = 9) (hW : curve_Width.f no = some 66) (hA : curve_Arcs.f no = some arcs) (hBy : e_By.f arcs = some (no, true)) (hOf : e_Of.f 66 = some (no, true)) (hO : curve_Order.f k no = some s)
    (hz : curve_Scalar.f k no (strOfNums (List.replicate 66 0)) = some false) (h1 : curve_Scalar.f k no (strOfNums ((List.replicate 66 0).set 65 1)) = some true) (hb : curve_Scalar.f k no (strOfNums ((bytesOf s).set 65 8)) = some true) (hn : curve_Scalar.f k no s = some false) (haw : clavigerlaw22_awake.f k = some true) :
    Calls Tryd.prog 3 #[.int .i64 no] w fun e w' => e = .returned (.bool true) ∧ Below w.heap.size w w' := by
  have HGL := Aside0.mk hGL
  have HS := Lib.hid hs
  have HL := Lib.hid hlast
  have cW := Lib.hid fun W (h : GL W) => curve_Width.calls no _ W h hW
  have cA := Lib.hid fun W (h : GL W) => curve_Arcs.calls no _ W h hA
  have cB := Lib.hid fun A c W (h : GL W) (hr : Kd.C (Kd.int .i64) W A arcs.length arcs) (hc : arcs.length ≤ c) => e_By.calls A c arcs no true W h hr hc hBy
  have cF := Lib.hid fun W (h : GL W) => e_Of.calls 66 no true W h hOf
  have cO := Lib.hid fun W (h : GL W) => curve_Order.calls k no _ W h hO
  have cX := Lib.hid fun W (h : GL W) => clavigerlaw22_awake.calls k _ W h haw
  generalize hxz : strOfNums (List.replicate 66 0) = xz at hz
  generalize hx1 : strOfNums ((List.replicate 66 0).set 65 1) = x1 at h1
  generalize hxb : strOfNums ((bytesOf s).set 65 8) = xb at hb
  have XZ := Lib.hid hxz
  have X1 := Lib.hid hx1
  have XB := Lib.hid hxb
  have cZ := Lib.hid fun W (h : GL W) => curve_Scalar.calls k no xz false W h hz
  have c1 := Lib.hid fun W (h : GL W) => curve_Scalar.calls k no x1 true W h h1
  have cb := Lib.hid fun W (h : GL W) => curve_Scalar.calls k no xb true W h hb
  have cn := Lib.hid fun W (h : GL W) => curve_Scalar.calls k no s false W h hn
  have kb := fun W => print_bytes (P := Tryd.prog) 9 30 5 Tryd.underlying9 Tryd.underlying30 Tryd.underlying5 s W
  clear hGL hW hA hBy hOf hO haw hz h1 hb hn hxz hx1 hxb hlast
  go_enter Tryd.func3, Tryd.ntmps3
  go_wp2_with (first
    | (go_at_call 4; refine (cW.out _ HGL.out).mono ?_; rintro e w1 ⟨rfl, B1⟩)
    | (go_at_call 6; refine (cA.out _ (HGL.out.below B1)).mono ?_; rintro e w3 ⟨v3, rfl, hR3, hb3⟩; obtain ⟨A3, c3, rfl, hl3, hC3⟩ := Kd.R_reads hR3; have B3 := below_step B1 hb3)
    | (go_at_call 9; refine (cB.out _ _ _ (HGL.out.below B3) hC3 hl3).mono ?_; rintro e w4 ⟨rfl, hb4⟩; have B4 := below_step B3 hb4)
    | (go_at_call 10; refine (cF.out _ (HGL.out.below B4)).mono ?_; rintro e w5 ⟨rfl, hb5⟩; have B5 := below_step B4 hb5)
    | (go_at_call 7; refine (cO.out _ (HGL.out.below B5)).mono ?_; rintro e w6 ⟨rfl, hb6⟩; have B6 := below_step B5 hb6))
  clear B1 B3 B4 B5 hb3 hb4 hb5 hb6 hR3 hC3 hl3
  go_loopw [9, 10, 11] (fun x y z wr => ∃ i : Nat, i ≤ 66 ∧ z = .int .i64 i ∧ wr.ownsRow w.heap.size 5 1 x (List.replicate i (0 : Int)).length (nums .u8 (List.replicate i 0)) ∧ wr.ownsRow w.heap.size 5 1 y (List.replicate i (0 : Int)).length (nums .u8 (List.replicate i 0)) ∧ Aside0 (NeRow x y) ∧ Below w.heap.size w wr)
    (fun _ _ z _ => 66 - (intOf z).toNat)
  case atStart => exact ⟨0, by omega, rfl, own_nil _ _ _ _, own_nil _ _ _ _, ⟨ne_nil _⟩, B6⟩
  case round =>
    obtain ⟨i, hi, rfl, hx, hy, hne, hB⟩ := hrel
    by_cases hlt : i < 66
    · go_wp2_with (first
        | (at_builtin; refine print_append_num (w0 := w) w.heap.size rfl (.tmp 74) (.tmp 75) 30 5 .u8 1 rfl Tryd.underlying30 info5 (by decide) _ (List.replicate i 0) 0 rfl rfl hx hB hB.size (by simp; omega) ?_; intro v1 W1 ho1 hb1 hg1 hat1; have hy1 := own_other hy hg1 (ne_other hne.out); have hne1 := Aside0.mk (ne_append hne.out hat1 hy); clear hx hB hne; clear hg1 hat1)
        | (at_builtin; refine print_append_num (w0 := w) w.heap.size rfl (.tmp 77) (.tmp 78) 30 5 .u8 1 rfl Tryd.underlying30 info5 (by decide) _ (List.replicate i 0) 0 rfl rfl hy1 hb1 hb1.size (by simp; omega) ?_; intro v2 W2 ho2 hb2 hg2 hat2; have hx2 := own_other ho1 hg2 (ne_other (ne_symm hne1.out)); have hne2 := Aside0.mk (ne_append' hne1.out hat2 ho1); clear hg2 hat2))
      go_roundw
      case rel =>
        have he : List.replicate (i + 1) (0 : Int) = List.replicate i 0 ++ [0] := List.replicate_succ'
        exact ⟨i + 1, by omega, by go_num, by rw [he]; exact hx2, by rw [he]; exact ho2, hne2, hb2⟩
      case measure => simp [intOf]; omega
    · obtain rfl : i = 66 := by omega
      rw [List.length_replicate] at hx hy
      obtain ⟨gx, cx, rfl, _, hgx⟩ := hx.form (by omega)
      obtain ⟨gy, cy, rfl, _, hgy⟩ := hy.form (by omega)
      obtain ⟨hcy, hfy⟩ := own_at hy 65 (by decide) (by decide)
      obtain ⟨hsy, hgr⟩ := own_store hy 65 1
      have hnn : gx ≠ gy := fun e => hne.out gx rfl (by rw [e]; rfl)
      have hsx := own_setCell hx (p := ⟨gy, (65 : Int).toNat, none⟩) (by simpa [Value.ownBlock] using hnn.symm) (.int .u8 1)
      have eMM : (65 : Int).toNat = 65 := rfl
      rw [eMM] at hcy hfy hsy hgr hsx
      clear eMM
      obtain ⟨W3, hW3⟩ : ∃ W3, wr.setCell ⟨gy, 65, none⟩ (.int .u8 1) = W3 := ⟨_, rfl⟩
      have hz3 : W3.heap.size = wr.heap.size := by rw [← hW3]; simp
      have B7 : Below w.heap.size w W3 := by rw [← hW3]; exact hB.setCell (p := ⟨gy, 65, none⟩) (own_base hy gy rfl) _
      rw [hW3] at hsy hsx
      have hcb : (Lib.bytesWorld (wr.setCell ⟨gy, 65, none⟩ (.int .u8 1)) 5 s).cell? ⟨wr.heap.size, 65, none⟩ = some (.int .u8 9) := by
        rw [hW3, ← hz3, Lib.bytesWorld_cell W3 5 s 65 (by rw [HS.out]; omega), HL.out]; rfl
      have hfb : (Lib.bytesWorld (wr.setCell ⟨gy, 65, none⟩ (.int .u8 1)) 5 s).frozen? ⟨wr.heap.size, 65, none⟩ = false := by
        rw [hW3, ← hz3]; exact bytes_free W3 5 s 65 (by rw [HS.out]; omega)
      have lx : gx < W3.heap.size := own_lt hsx gx rfl
      have ly : gy < W3.heap.size := own_lt hsy gy rfl
      obtain ⟨W4, hW4⟩ : ∃ W4, (Lib.bytesWorld W3 5 s).setCell ⟨wr.heap.size, 65, none⟩ (.int .u8 8) = W4 := ⟨_, rfl⟩
      have hbw : Below W3.heap.size W3 (Lib.bytesWorld W3 5 s) := bytes_below (Below.refl _ _) (Nat.le_refl _) _ _
      have B8 : Below w.heap.size w W4 := by rw [← hW4]; exact (below_step B7 hbw).setCell (p := ⟨wr.heap.size, 65, none⟩) hB.size _
      have rx : ReadsInt W4 .u8 (some ⟨gx, 0, none⟩) 66 (List.replicate 66 0) := by
        rw [← hW4]; exact own_reads' (own_setCell (pw_own_below hsx hbw) (p := ⟨wr.heap.size, 65, none⟩) (by simp [Value.ownBlock]; omega) _)
      have ry : ReadsInt W4 .u8 (some ⟨gy, 0, none⟩) 66 ((List.replicate 66 0).set 65 1) := by
        rw [← hW4]; exact own_reads' (own_setCell (pw_own_below hsy hbw) (p := ⟨wr.heap.size, 65, none⟩) (by simp [Value.ownBlock]; omega) _)
      have rb : ReadsInt W4 .u8 (some ⟨wr.heap.size, 0, none⟩) 66 ((bytesOf s).set 65 8) := by
        have h0 := bytes_reads W3 5 s (by rw [HS.out]; decide)
        rw [HS.out, hz3] at h0
        rw [← hW4]
        exact reads_set h0 65 (by decide) 8
      have k1 : ∀ (c : Nat), (convert 30 9 (.slice (some ⟨gx, 0, none⟩) 66 c)).run Tryd.prog W4 = .ok (.string xz) W4 := fun c => by
        rw [← XZ.out]; exact string_of_reads Tryd.underlying30 Tryd.underlying5 Tryd.underlying9 rx
      have k2 : ∀ (W : World), Below W4.heap.size W4 W → ∀ (c : Nat), (convert 30 9 (.slice (some ⟨gy, 0, none⟩) 66 c)).run Tryd.prog W = .ok (.string x1) W := fun W hb c => by
        rw [← X1.out]; exact string_of_reads Tryd.underlying30 Tryd.underlying5 Tryd.underlying9 (ry.below hb)
      have k3 : ∀ (W : World), Below W4.heap.size W4 W → ∀ (c : Nat), (convert 30 9 (.slice (some ⟨wr.heap.size, 0, none⟩) 66 c)).run Tryd.prog W = .ok (.string xb) W := fun W hb c => by
        rw [← XB.out]; exact string_of_reads Tryd.underlying30 Tryd.underlying5 Tryd.underlying9 (rb.below hb)
      have K2 := Lib.hid k2
      have K3 := Lib.hid k3
      have BB := Lib.hid B8
      rw [← hW3] at hW4
      subst hW4
      clear hx hy hgr hW3 hz3 hsx hsy hnn hne rx ry rb k2 k3 B7 hbw lx ly B8 hB
      go_wp2_with (first
        | (go_at_call 11; (with_reducible refine (cZ.out _ (HGL.out.below BB.out)).mono ?_); rintro e w1 ⟨rfl, e1⟩; have kk2 := K2.out _ e1; clear k1)
        | (go_at_call 11; (with_reducible refine (c1.out _ (HGL.out.below (below_step BB.out e1))).mono ?_); rintro e w2 ⟨rfl, e2⟩; have e3 := below_step e1 e2; have kk3 := K3.out _ e3; clear kk2)
        | (go_at_call 11; (with_reducible refine (cb.out _ (HGL.out.below (below_step BB.out e3))).mono ?_); rintro e w3 ⟨rfl, e4⟩; have e5 := below_step e3 e4; clear kk3)
        | (go_at_call 11; (with_reducible refine (cn.out _ (HGL.out.below (below_step BB.out e5))).mono ?_); rintro e w4 ⟨rfl, e6⟩; have e7 := below_step e5 e6)
        | (go_at_call 8; (with_reducible refine (cX.out _ (HGL.out.below (below_step BB.out e7))).mono ?_); rintro e w5 ⟨rfl, e8⟩; have e9 := below_step e7 e8))
      go_ret
      exact ⟨rfl, below_step BB.out e9⟩

end Go.Proofs.YtnffjpbmlfmbcaaDoor.X

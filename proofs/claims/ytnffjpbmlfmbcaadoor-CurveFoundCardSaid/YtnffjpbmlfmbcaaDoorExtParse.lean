/- oid.Parse: a text's numbers between points. -/
import Derived.Test.YtnffjpbmlfmbcaaDoorExtSplit
import Derived.Test.YtnffjpbmlfmbcaaDoorXoidRight
namespace Go.Proofs.YtnffjpbmlfmbcaaDoor.X
open Go Go.RowKit Go.Shelf Go.Proofs.YtnffjpbmlfmbcaaDoorW.PrintWords Go.Proofs.YtnffjpbmlfmbcaaDoorW.PrintLast Go.Proofs.YtnffjpbmlfmbcaaDoorW.PrintMore
attribute [local go_sem] Oper.semAt_some
set_option linter.unusedVariables false
set_option linter.unusedSimpArgs false

def numsOf : List ByteArray → List Int → Option (Option (List Int))
  | [], acc => some (some acc)
  | p :: ps, acc => (e_digits_Unnum.f p).bind fun r => if r.2 = true then numsOf ps (acc ++ [r.1]) else some none
def e_oid_Parse.f (t : ByteArray) : Option (List Int × Bool) :=
  if t.size ≤ 1000000 then
    (numsOf (partsB 46 t) []).bind fun o => match o with
      | none => some ([], false)
      | some l => (oid_Right.f 100 l).bind fun ok => if ok = true then some (l, true) else some ([], false)
  else none
def accOf (pre : List ByteArray) : List Int := pre.map fun p => ((e_digits_Unnum.f p).getD (0, false)).1
theorem accOf_snoc (pre : List ByteArray) (x : ByteArray) (n : Int) (b : Bool) (h : e_digits_Unnum.f x = some (n, b)) : accOf (pre ++ [x]) = accOf pre ++ [n] := by
  simp [accOf, h]
theorem partsL_length (c : UInt8) : ∀ l : List UInt8, (partsL c l).length ≤ l.length + 1
  | [] => by simp [partsL]
  | b :: r => by
    have ih := partsL_length c r
    rw [partsL_cons]
    split
    · simp; omega
    · split
      · simp
      · rename_i p ps hp
        rw [hp] at ih
        simp at ih ⊢
        omega
theorem partsB_length (c : UInt8) (s : ByteArray) : (partsB c s).length ≤ s.size + 1 := by
  have := partsL_length c s.data.toList
  have h2 : s.data.toList.length = s.size := data_length s
  simp only [partsB, List.length_map]
  omega

/-- What the loop knows between two rounds. -/
def pI (w : World) (xs : List ByteArray) (o : Option (List Int)) (pre : List ByteArray) (W : World) : Prop :=
  (∃ v, Boxed W (w.heap.size + 1 + 1) 24 v ∧ W.ownsRow (w.heap.size + 6) 3 1 v (accOf pre).length (nums .i64 (accOf pre)) ∧ True) ∧
  ((((∃ rest, xs = pre ++ rest ∧ numsOf rest (accOf pre) = some o) ∧ w.heap.size + 6 ≤ W.heap.size) ∧ (∃ u, Boxed W (w.heap.size + 1 + 1 + 1) 9 u) ∧ Boxed W w.heap.size 24 (.slice none 0 0) ∧ Boxed W (w.heap.size + 1) 4 (.bool false)) ∧
  Below w.heap.size w W)
/-- What it knows when it has been left. -/
def pX (w : World) (o : Option (List Int)) (c : Code) (pre : List ByteArray) (W : World) : Prop :=
  (c = .ret ∧ o = none ∧ Boxed W w.heap.size 24 (.slice none 0 0) ∧ Boxed W (w.heap.size + 1) 4 (.bool false)) ∧ Below w.heap.size w W

set_option maxRecDepth 100000 in
set_option maxHeartbeats 4000000 in
theorem e_oid_Parse.calls (a0 : ByteArray) (r1 : List Int) (r2 : Bool) (w : World) (hGL : GL w) (h : e_oid_Parse.f a0 = some (r1, r2)) :
    Calls Tryd.prog 13 #[.string a0] w fun e w' => ∃ v0_ : Value, e = .returned (.tuple #[v0_, .bool r2]) ∧ Kd.R (Kd.int .i64) 3 w' w.heap.size (fun _ => True) v0_ r1 ∧ Below w.heap.size w w' := by
  unfold e_oid_Parse.f at h
  split at h
  · rename_i hs
    obtain ⟨o, ho, h⟩ := Option.bind_eq_some_iff.1 h
    obtain ⟨xs, hxs⟩ : ∃ xs, partsB 46 a0 = xs := ⟨_, rfl⟩
    have hlen : xs.length ≤ 1000001 := by have := partsB_length 46 a0; rw [← hxs]; omega
    rw [hxs] at ho
    have HO := Lib.hid ho
    have HX := Lib.hid hxs
    have HH := Lib.hid h
    clear ho hxs h
    have HGL := Aside0.mk hGL
    clear hGL
    obtain ⟨i0, hi, hz0, hz1, hz2⟩ := info_parts info3
    refine (callsIn_wide (n := 5)).1 ?_
    refine callsIn_of_wp_marks Tryd.func13 rfl trivial ?_ rfl
    simp only [Tryd.ntmps13, List.size_toArray, List.length_cons, List.length_nil, Nat.reduceAdd, Nat.reduceSub, Array.replicate_succ, Array.replicate_zero, List.push_toArray, List.append_toArray, List.nil_append, List.cons_append]
    gi_wp2_with (first | (refine ⟨trivial, ?_⟩; gi_at_call 22; refine (callsIn_wide.2 (splitSeq_calls a0 _ _)).mono ?_; rintro e w' ⟨rfl, rfl⟩))
    have s1 : w.heap.size + 1 + 1 + 1 + 1 + 1 + 1 = w.heap.size + 6 := by omega
    have bA := Boxed.new w 24 (.slice none 0 0)
    have bB := Boxed.new (w.alloc (.cells #[.slice none 0 0] 24)) 4 (.bool false)
    have bC := Boxed.new ((w.alloc (.cells #[.slice none 0 0] 24)).alloc (.cells #[.bool false] 4)) 24 (.slice none 0 0)
    have bD := Boxed.new (((w.alloc (.cells #[.slice none 0 0] 24)).alloc (.cells #[.bool false] 4)).alloc (.cells #[.slice none 0 0] 24)) 9 (.string a0)
    have bE := Boxed.new ((((w.alloc (.cells #[.slice none 0 0] 24)).alloc (.cells #[.bool false] 4)).alloc (.cells #[.slice none 0 0] 24)).alloc (.cells #[.string a0] 9)) 9 (.string ⟨#[46]⟩)
    have bF := Boxed.new (((((w.alloc (.cells #[.slice none 0 0] 24)).alloc (.cells #[.bool false] 4)).alloc (.cells #[.slice none 0 0] 24)).alloc (.cells #[.string a0] 9)).alloc (.cells #[.string ⟨#[46]⟩] 9)) 3 (.int .i64 0)
    simp only [World.size_alloc] at bB bC bD bE bF
    have hB0 : Below w.heap.size w ((((((w.alloc (.cells #[.slice none 0 0] 24)).alloc (.cells #[.bool false] 4)).alloc (.cells #[.slice none 0 0] 24)).alloc (.cells #[.string a0] 9)).alloc (.cells #[.string ⟨#[46]⟩] 9)).alloc (.cells #[.int .i64 0] 3)) :=
      below_alloc (below_alloc (below_alloc (below_alloc (below_alloc (below_alloc (Below.refl _ w) _) _) _) _) _) _
    refine wpIn_rangeFunc_C (b := w.heap.size + 1 + 1 + 1) (xs := xs) (gf := 50) (lb := #[.pointer (some ⟨w.heap.size + 1 + 1 + 1 + 1, 0, none⟩), .pointer (some ⟨w.heap.size + 1 + 1 + 1, 0, none⟩), .pointer (some ⟨w.heap.size + 1 + 1 + 1 + 2, 0, none⟩)]) rfl (by decide) rfl trivial (enters_of Tryd.func50 (by kernel_rfl) rfl) ?hbw ?hseq rfl
      (pI w xs o) (pX w o) ?hI ?hIx ?hIs ?h0
      (fun x => { tmps := #[.string a0, undef, .pointer (some ⟨w.heap.size, 0, none⟩), .pointer (some ⟨w.heap.size + 1, 0, none⟩), .pointer (some ⟨w.heap.size + 1 + 1, 0, none⟩), .string x, undef, undef, .string a0, .func (.func 50) #[] #[.pointer (some ⟨w.heap.size + 1 + 1 + 1 + 1, 0, none⟩), .pointer (some ⟨w.heap.size + 1 + 1 + 1, 0, none⟩), .pointer (some ⟨w.heap.size + 1 + 1 + 1 + 2, 0, none⟩)], .string x, undef, undef, undef, undef, undef, undef, undef, undef, undef, undef, undef, undef, undef, undef, undef], defers := [] })
      ?assign ?body ?done ?stop
    case hbw => simp
    case hseq =>
      rw [← HX.out]
      exact splitSeq1 _ (by decide) _ 46 a0 (by omega) _ ((bD.alloc _).alloc _) (bE.alloc _) bF
    case hI =>
      exact OwnFrom.and (Own.from (holdsRow_own (w.heap.size + 6) (w.heap.size + 1 + 1) 24 3 1 (fun pre => (accOf pre).length) (fun pre => nums .i64 (accOf pre)) (fun _ _ => True)) _)
        (OwnFrom.and (Own.from (fun s A B row hs hg hr => ⟨⟨hs.1.1, Nat.le_trans hs.1.2 hg.size⟩, by obtain ⟨u, hu⟩ := hs.2.1; exact ⟨u, boxed_own (w.heap.size + 1 + 1 + 1) 9 (fun _ : Unit => u) () A B row hu hg hr⟩, boxed_own w.heap.size 24 (fun _ : Unit => .slice none 0 0) () A B row hs.2.2.1 hg hr, boxed_own (w.heap.size + 1) 4 (fun _ : Unit => .bool false) () A B row hs.2.2.2 hg hr⟩) _)
          (ownFrom_below (Nat.le_refl _) (by simp; omega)))
    case hIx =>
      exact fun c => OwnFrom.and (Own.from (fun s A B row hs hg hr => ⟨hs.1, hs.2.1, boxed_own w.heap.size 24 (fun _ : Unit => .slice none 0 0) () A B row hs.2.2.1 hg hr, boxed_own (w.heap.size + 1) 4 (fun _ : Unit => .bool false) () A B row hs.2.2.2 hg hr⟩) _) (ownFrom_below (Nat.le_refl _) (by simp; omega))
    case hIs =>
      rintro pre A v ⟨⟨y, hy, hrow, _⟩, ⟨⟨hp, h6⟩, ⟨u, hu⟩, hr1, hr2⟩, hB⟩
      exact ⟨⟨y, hy.other (by omega) _, own_setCell hrow (hu.not_row (by decide) hrow) _, trivial⟩, ⟨⟨hp, by simpa using h6⟩, ⟨v, hu.set v⟩, hr1.other (by omega) _, hr2.other (by omega) _⟩, hB.setCell (p := ⟨w.heap.size + 1 + 1 + 1, 0, none⟩) (by simp; omega) _⟩
    case h0 =>
      exact ⟨⟨_, ((bC.alloc _).alloc _).alloc _, own_nil _ _ _ _, trivial⟩, ⟨⟨⟨xs, rfl, HO.out⟩, by simp⟩, ⟨_, (bD.alloc _).alloc _⟩, ((((bA.alloc _).alloc _).alloc _).alloc _).alloc _, (((bB.alloc _).alloc _).alloc _).alloc _⟩, hB0⟩
    case assign =>
      intro l x W K hK
      gi_wp2
      exact hK
    case body =>
      rintro l pre x W hpx ⟨⟨v, hv, hrow, _⟩, ⟨⟨⟨rest, hre, hnum⟩, h6⟩, ⟨u, hu⟩, hr1, hr2⟩, hB⟩
      obtain ⟨rest', hre'⟩ := hpx
      obtain rfl : rest = x :: rest' := by
        rw [← hre', List.append_assoc] at hre
        exact (List.append_cancel_left hre).symm
      obtain ⟨⟨m, ok⟩, hf, hnum⟩ := Option.bind_eq_some_iff.1 (show (e_digits_Unnum.f x).bind _ = some o from hnum)
      have hal : (accOf pre).length ≤ 1000000 := by
        have h2 : xs.length = pre.length + (rest'.length + 1) := by rw [hre]; simp
        simp only [accOf, List.length_map]
        omega
      have hgl : GL W := HGL.out.below hB
      have CU := fun W' (hw : GL W') => e_digits_Unnum.calls x m ok W' hw hf
      have HRE := Lib.hid hre
      have HF := Lib.hid hf
      have HN := Lib.hid hnum
      clear hre hre' hf hnum
      have hcell := hv.cell
      have hc1 := hr1.cell
      have hc2 := hr2.cell
      have hf1 := hr1.frozen
      have hf2 := hr2.frozen
      have HU := Lib.hid (CU W hgl)
      clear CU
      cases ok with
      | false =>
        gi_wp2_with (first | (refine ⟨trivial, ?_⟩; gi_at_call 23; refine (CallsIn.inRound l (callsIn_wide.2 HU.out)).mono ?_; rintro e w' ⟨rfl, hb⟩; have q1 : Boxed w' w.heap.size 24 (.slice none 0 0) := blk_below hr1 hb; have q2 : Boxed w' (w.heap.size + 1) 4 (.bool false) := blk_below hr2 hb; clear hc1 hc2 hf1 hf2 hcell; have hc1 := q1.cell; have hc2 := q2.cell; have hf1 := q1.frozen; have hf2 := q2.frozen))
        have hon : o = none := by have := HN.out; simpa using this.symm
        exact ⟨((KeepsOthers.of_grownBy (grown_of_below hb none) (fun j o e => by cases e)).trans (KeepsOthers.setCell _ _ _)).trans (KeepsOthers.setCell _ _ _), ⟨rfl, hon, (q1.set _).other (by omega) _, (q2.other (by omega) _).set _⟩, ((below_then hB hB.size hb).setCell (p := ⟨w.heap.size, 0, none⟩) (Nat.le_refl _) _).setCell (p := ⟨w.heap.size + 1, 0, none⟩) (by simp) _⟩
      | true =>
        gi_wp2_with (first
          | (refine ⟨trivial, ?_⟩; gi_at_call 23; refine (CallsIn.inRound l (callsIn_wide.2 HU.out)).mono ?_; rintro e w' ⟨rfl, hb⟩; have q1 : Boxed w' w.heap.size 24 (.slice none 0 0) := blk_below hr1 hb; have q2 : Boxed w' (w.heap.size + 1) 4 (.bool false) := blk_below hr2 hb; have qv : Boxed w' (w.heap.size + 1 + 1) 24 v := blk_below hv hb; have qrow := pw_own_below hrow hb; clear hc1 hc2 hf1 hf2 hcell; have hcell := qv.cell)
          | (gi_at_builtin; refine wpListIn_append_own _ rfl _ _ 24 rfl (w.heap.size + 6) 3 i0 (.int .i64 0) 1 8 Tryd.underlying24 hi hz0 hz1 hz2 rfl (by decide) _ _ _ rfl (qrow.alloc _) ⟨w'.heap.size, 0, none⟩ 1 1 [.int .i64 m] rfl rfl (cell_one_new _ _ _) (by simp [Value.oneCell']) (by unfold maxLen; omega) (by omega) (by have := hb.size; simp; omega) ?_; intro v' w1 hown' hgrow _; obtain ⟨g', cap', rfl⟩ := ownsRow_succ hown'; have hv1 : Boxed w1 (w.heap.size + 1 + 1) 24 v := (qv.alloc _).kept hgrow (fun e => by have := own_base qrow _ e.symm; omega); have hc1 := hv1.cell; have hf1 := hv1.frozen))
        have hgr : (w'.alloc (.cells #[.int .i64 m] 3)).grownBy w1 v.ownBlock := hgrow
        have hWw := hb.size
        have hBw := below_then hB hB.size hb
        have blk : ∀ k, k < w.heap.size + 6 → w1.heap[k]? = W.heap[k]? := fun k hk =>
          (hgr.block k (by simp; omega) (fun e => by have := own_base qrow k e.symm; omega)).trans ((Below.heap_alloc w' _ k (by omega)).trans (hb.block k (by omega)))
        have gb : w.heap.size + 6 ≤ g' := own_base hown' g' rfl
        have hsz : w'.heap.size + 1 ≤ w1.heap.size := by have := hgr.size; simpa using this
        refine ⟨(KeepsOthers.of_grownBy (grown_of_below hb none) (fun j o e => by cases e)).trans (((KeepsOthers.alloc w' _).trans (KeepsOthers.of_grownBy hgr fun j o ej hj => ?_)).trans (KeepsOthers.setCell _ _ _)), ⟨?_, ?_, ?_⟩, ⟨⟨_, hv1.set _, ?_, trivial⟩, ⟨⟨⟨rest', ?_, ?_⟩, ?_⟩, ⟨u, ?_⟩, ?_, ?_⟩, ?_⟩⟩
        · rcases (qrow.alloc (.cells #[.int .i64 m] 3)).2 with ⟨rfl, _⟩ | ⟨g, cap, cur, rfl, _, hgb, _⟩
          · simp [Value.ownBlock] at ej
          · obtain rfl : g = j := by simpa [Value.ownBlock] using ej
            rw [hgb] at hj; cases hj; rfl
        · exact (heap_set_other _ _ _ _ (by omega)).trans (blk _ (by omega))
        · exact (heap_set_other _ _ _ _ (by omega)).trans (blk _ (by omega))
        · exact (heap_set_other _ _ _ _ (by omega)).trans (blk _ (by omega))
        · rw [accOf_snoc pre x m true HF.out]
          have := own_setCell hown' (p := ⟨w.heap.size + 1 + 1, 0, none⟩) (by simp [Value.ownBlock]; omega) (Value.slice (some { block := g', off := 0 }) ((accOf pre).length + 1) cap')
          simpa [nums] using this
        · rw [HRE.out, List.append_assoc]; rfl
        · rw [accOf_snoc pre x m true HF.out]
          have := HN.out
          simpa using this
        · simp; omega
        · exact (heap_set_other _ _ _ _ (by omega)).trans ((blk _ (by omega)).trans hu)
        · exact (heap_set_other _ _ _ _ (by omega)).trans ((blk _ (by omega)).trans hr1)
        · exact (heap_set_other _ _ _ _ (by omega)).trans ((blk _ (by omega)).trans hr2)
        · exact ((hBw.alloc hBw.size _).grown hgr (by have := hBw.size; simp; omega) (fun k e => by have := own_base qrow k e; omega)).setCell (p := ⟨w.heap.size + 1 + 1, 0, none⟩) (by simp; omega) _
    case done =>
      rintro D W hD ⟨⟨v, hv, hrow, _⟩, ⟨⟨⟨rest, hre, hnum⟩, h6⟩, hu, hr1, hr2⟩, hB⟩ hK
      obtain rfl : rest = [] := by
        have := congrArg List.length hre
        simp at this
        exact this
      obtain rfl : some (accOf xs) = o := Option.some.inj hnum
      obtain ⟨ok, hok, hh⟩ := Option.bind_eq_some_iff.1 HH.out
      have hR : Kd.R (Kd.int .i64) 3 W (w.heap.size + 6) (fun _ => True) v (accOf xs) := Kd.R_of_own hrow (fun _ _ => trivial)
      obtain ⟨A, c, rfl, hle, hC⟩ := Kd.R_reads hR
      have HR := Lib.hid (oid_Right.calls 100 A c (accOf xs) ok W (HGL.out.below hB) hC hle hok)
      have HRR := Lib.hid hR
      have HH2 := Lib.hid hh
      clear hh hok hre hnum hC hR
      have hcell := hv.cell
      have hc1 := hr1.cell
      have hc2 := hr2.cell
      have hf1 := hr1.frozen
      have hf2 := hr2.frozen
      cases ok with
      | false =>
        gi_wp2_with (first
          | (refine ⟨trivial, ?_⟩; gi_at_call 24; refine (callsIn_wide.2 HR.out).mono ?_; rintro e w' ⟨rfl, hd⟩; obtain ⟨⟨kd, rfl⟩⟩ := hd))
        have hD' : w.heap.size + 6 ≤ D := by simpa using hD
        have g1 : Boxed (((W.drewN kd).setCell ⟨w.heap.size, 0, none⟩ (.slice none 0 0)).setCell ⟨w.heap.size + 1, 0, none⟩ (.bool false)) w.heap.size 24 (.slice none 0 0) := (Boxed.set (W := W.drewN kd) _ hr1).other (by omega) _
        have g2 : Boxed (((W.drewN kd).setCell ⟨w.heap.size, 0, none⟩ (.slice none 0 0)).setCell ⟨w.heap.size + 1, 0, none⟩ (.bool false)) (w.heap.size + 1) 4 (.bool false) := (Boxed.other (W := W.drewN kd) hr2 (by omega) _).set _
        have hK2 : (((W.drewN kd).setCell ⟨w.heap.size, 0, none⟩ (.slice none 0 0)).setCell ⟨w.heap.size + 1, 0, none⟩ (.bool false)).heap[D]? = some (.deferred (some [])) := (heap_set_other _ _ _ _ (by omega)).trans ((heap_set_other _ _ _ _ (by omega)).trans hK)
        refine ⟨by simp, .inl ⟨_, _, rfl, run_takeDeferred hK2, ?_⟩⟩
        have hc5 := cell_kept g1.cell (grownBy_putObj' _ D (.deferred none)) (fun r e => by cases e; exact ⟨_, hK2, rfl⟩)
        have hc6 := cell_kept g2.cell (grownBy_putObj' _ D (.deferred none)) (fun r e => by cases e; exact ⟨_, hK2, rfl⟩)
        have hh := HH2.out
        simp at hh
        obtain ⟨rfl, rfl⟩ := hh
        have hB2 := ((pw_below_drewN hB kd).setCell (p := ⟨w.heap.size, 0, none⟩) (Nat.le_refl _) (.slice none 0 0)).setCell (p := ⟨w.heap.size + 1, 0, none⟩) (by simp) (.bool false)
        refine ⟨.tuple #[.slice none 0 0, .bool false], ?_, _, rfl, Kd.R_nil _ _ _ _ _, hB2.trans (belowK_b (w := w) (Nat.le_refl _) _ D _ _ (by omega) hK2 rfl rfl)⟩
        simp [results, Tryd.f13, go_sem, hc5, hc6]
      | true =>
        gi_wp2_with (first
          | (refine ⟨trivial, ?_⟩; gi_at_call 24; refine (callsIn_wide.2 HR.out).mono ?_; rintro e w' ⟨rfl, hd⟩; obtain ⟨⟨kd, rfl⟩⟩ := hd))
        have hD' : w.heap.size + 6 ≤ D := by simpa using hD
        have g1 : Boxed (((W.drewN kd).setCell ⟨w.heap.size, 0, none⟩ (.slice A (accOf xs).length c)).setCell ⟨w.heap.size + 1, 0, none⟩ (.bool true)) w.heap.size 24 (.slice A (accOf xs).length c) := (Boxed.set (W := W.drewN kd) _ hr1).other (by omega) _
        have g2 : Boxed (((W.drewN kd).setCell ⟨w.heap.size, 0, none⟩ (.slice A (accOf xs).length c)).setCell ⟨w.heap.size + 1, 0, none⟩ (.bool true)) (w.heap.size + 1) 4 (.bool true) := (Boxed.other (W := W.drewN kd) hr2 (by omega) _).set _
        have hK2 : (((W.drewN kd).setCell ⟨w.heap.size, 0, none⟩ (.slice A (accOf xs).length c)).setCell ⟨w.heap.size + 1, 0, none⟩ (.bool true)).heap[D]? = some (.deferred (some [])) := (heap_set_other _ _ _ _ (by omega)).trans ((heap_set_other _ _ _ _ (by omega)).trans hK)
        refine ⟨by simp, .inl ⟨_, _, rfl, run_takeDeferred hK2, ?_⟩⟩
        have hc5 := cell_kept g1.cell (grownBy_putObj' _ D (.deferred none)) (fun r e => by cases e; exact ⟨_, hK2, rfl⟩)
        have hc6 := cell_kept g2.cell (grownBy_putObj' _ D (.deferred none)) (fun r e => by cases e; exact ⟨_, hK2, rfl⟩)
        have hh := HH2.out
        simp at hh
        obtain ⟨rfl, rfl⟩ := hh
        have hB2 := ((pw_below_drewN hB kd).setCell (p := ⟨w.heap.size, 0, none⟩) (Nat.le_refl _) (.slice A (accOf xs).length c)).setCell (p := ⟨w.heap.size + 1, 0, none⟩) (by simp) (.bool true)
        have ho := own_setCell (own_setCell (pw_own_below (Kd.own_of_R HRR.out) (pw_below_drewN (Below.refl _ _) kd)) (p := ⟨w.heap.size, 0, none⟩) (fun e => by have := own_base (Kd.own_of_R HRR.out) _ e.symm; simp at this <;> omega) (.slice A (accOf xs).length c)) (p := ⟨w.heap.size + 1, 0, none⟩) (fun e => by have := own_base (Kd.own_of_R HRR.out) _ e.symm; simp at this <;> omega) (.bool true)
        refine ⟨.tuple #[.slice A (accOf xs).length c, .bool true], ?_, _, rfl, Kd.R_of_own (own_weaken (ownsRow_putObj ho _ hK2 rfl) (by omega)) (fun _ _ => trivial), hB2.trans (belowK_b (w := w) (Nat.le_refl _) _ D _ _ (by omega) hK2 rfl rfl)⟩
        simp [results, Tryd.f13, go_sem, hc5, hc6]
    case stop =>
      rintro D c pre W hD hpre ⟨⟨rfl, rfl, hr1, hr2⟩, hB⟩ hK
      have hh := HH.out
      simp only [Option.some.injEq, Prod.mk.injEq] at hh
      obtain ⟨rfl, rfl⟩ := hh
      gi_wp2
      refine ⟨by simp, .inl ⟨_, _, rfl, run_takeDeferred hK, ?_⟩⟩
      have hc5 := cell_kept hr1.cell (grownBy_putObj' _ D (.deferred none)) (fun r e => by cases e; exact ⟨_, hK, rfl⟩)
      have hc6 := cell_kept hr2.cell (grownBy_putObj' _ D (.deferred none)) (fun r e => by cases e; exact ⟨_, hK, rfl⟩)
      refine ⟨.tuple #[.slice none 0 0, .bool false], ?_, _, rfl, Kd.R_nil _ _ _ _ _, hB.trans (belowK_b (w := w) (Nat.le_refl _) W D _ _ (by simp at hD; omega) hK rfl rfl)⟩
      simp [results, Tryd.f13, go_sem, hc5, hc6]
  · cases h
end Go.Proofs.YtnffjpbmlfmbcaaDoor.X

/- curve.found, By, Of: the first line of the table that is so. -/
import Derived.Test.YtnffjpbmlfmbcaaDoorExtLine
import Derived.Test.YtnffjpbmlfmbcaaDoorXoidText
import Derived.Shelf.SlicesQ.Load
import Derived.Shelf.GgClosure.Gives
namespace Go.Proofs.YtnffjpbmlfmbcaaDoor.X
open Go Go.RowKit Go.Lib Go.Proofs.YtnffjpbmlfmbcaaDoorW.PrintWords Go.Proofs.YtnffjpbmlfmbcaaDoorW.PrintLast Go.Proofs.YtnffjpbmlfmbcaaDoorW.PrintMore
set_option linter.unusedVariables false
set_option linter.unusedSimpArgs false

def encC (x : S34) : List Value := [.string x.f0, .string x.f1, .string x.f2, .int .i64 x.f3]
instance : Inhabited (S34) := ⟨z34⟩
def cvs : List (S34) := [⟨cvName1, cvArcs1, cvOrder1, 28⟩, ⟨cvName2, cvArcs2, cvOrder2, 32⟩, ⟨cvName3, cvArcs3, cvOrder3, 48⟩, ⟨cvName4, cvArcs4, cvOrder4, 66⟩]
/-- What is asked of a predicate on lines. -/
def PredC (g : Nat) (lb : Array Value) (p : S34 → Bool) (w : World) : Prop :=
  ∀ (W : World) (x : S34), Below w.heap.size w W → Calls Tryd.prog g (#[.agg (encC x).toArray] ++ lb) W fun e w' => e = .returned (.bool (p x)) ∧ Below w.heap.size w w'

set_option maxHeartbeats 2000000 in
theorem indexC (p : S34 → Bool) (g : Nat) (lb : Array Value) (eg : ∀ args w, (callFunc g args).run Tryd.prog w = .ok (.enter g args) w) (b n c : Nat) (zs : List (S34)) (w : World)
    (hp : PredC g lb p w) (hz : n ≤ zs.length) (hbig : n ≤ 9223372036854775807) (hb : b < w.heap.size)
    (hc : ∀ j, j < zs.length → ∀ i v, (encC zs[j]!)[i]? = some v → w.cell? ⟨b, 0 + j * 4 + i, none⟩ = some v) :
    Calls Tryd.prog 28 #[.slice (some ⟨b, 0, none⟩) n c, .func (.func g) #[] lb] w fun e w' => e = .returned (.int .i64 (Lib.idxBy (fun _ y => p y) (zs.take n) default)) ∧ Below w.heap.size w w' := by
  have hrow : ∀ (W : World), Below w.heap.size w W → ∀ j, j < zs.length → W.cell? ⟨b, j * 4, none⟩ = some (.string zs[j]!.f0) ∧ W.cell? ⟨b, j * 4 + 1, none⟩ = some (.string zs[j]!.f1) ∧ W.cell? ⟨b, j * 4 + 2, none⟩ = some (.string zs[j]!.f2) ∧ W.cell? ⟨b, j * 4 + 3, none⟩ = some (.int .i64 zs[j]!.f3) := fun W hW j hj =>
    ⟨(hW.cell (p := ⟨b, j * 4, none⟩) hb).trans (by have := hc j hj 0 _ rfl; simpa using this), (hW.cell (p := ⟨b, j * 4 + 1, none⟩) hb).trans (by have := hc j hj 1 _ rfl; simpa using this),
      (hW.cell (p := ⟨b, j * 4 + 2, none⟩) hb).trans (by have := hc j hj 2 _ rfl; simpa using this), (hW.cell (p := ⟨b, j * 4 + 3, none⟩) hb).trans (by have := hc j hj 3 _ rfl; simpa using this)⟩
  clear hc
  go_enter Tryd.func28, Tryd.ntmps28
  go_wp2
  go_loopg [5, 8] n (fun gg _ s8 wr => ∃ kk : Nat, kk ≤ n ∧ n - kk ≤ gg ∧ s8 = .int .i64 kk ∧ Aside (Below w.heap.size w wr) ∧ Aside (∀ j, j < kk → p zs[j]! = false))
  case atStart => exact ⟨0, Nat.zero_le _, by omega, rfl, Below.refl _ w, fun j hj => absurd hj (Nat.not_lt_zero _)⟩
  case round =>
    obtain ⟨kk, hkk, hg, rfl, BW, A⟩ := hrel
    by_cases hlt : kk < n
    · have hltz : (kk : Int) < (n : Int) := by omega
      obtain ⟨l0, l1, l2, l3⟩ := hrow wr BW.out kk (by omega)
      have hcall := hp wr zs[kk]! BW.out
      clear hrow hp
      generalize hy : zs[kk]! = y at l0 l1 l2 l3 hcall
      have B : Aside (zs[kk]! = y) := hy
      clear hy
      cases hq : p y with
      | true =>
        rw [hq] at hcall
        simp only [encC, List.push_toArray] at hcall
        go_wp2_with (go_at_fn g; refine hcall.mono ?_; rintro e w' ⟨rfl, hb'⟩)
        go_ret
        refine ⟨?_, hb'⟩
        rw [Lib.idxBy_hit (fun _ y => p y) zs n kk default hlt hz (by show p zs[kk]! = true; rw [B.out]; exact hq) A.out]
        rfl
      | false =>
        rw [hq] at hcall
        simp only [encC, List.push_toArray] at hcall
        go_wp2_with (go_at_fn g; refine hcall.mono ?_; rintro e w' ⟨rfl, hb'⟩)
        go_roundg (n - (kk + 1))
        case measure => omega
        case rel =>
          refine ⟨kk + 1, by omega, by omega, by go_num, hb', (show Aside _ from fun j hj => ?_)⟩
          by_cases e : j = kk
          · subst e
            rw [B.out]; exact hq
          · exact A.out j (by omega)
    · have hltz : ¬ (kk : Int) < (n : Int) := by omega
      have : kk = n := by omega
      subst this
      go_wp2
      go_ret
      refine ⟨?_, BW.out⟩
      rw [Lib.idxBy_miss (fun _ y => p y) zs kk default A.out]
      rfl

def idxC (p : S34 → Bool) : Int := Lib.idxBy (fun _ y => p y) cvs default
theorem idxC_val (p : S34 → Bool) : idxC p = if p ⟨cvName1, cvArcs1, cvOrder1, 28⟩ = true then 0 else if p ⟨cvName2, cvArcs2, cvOrder2, 32⟩ = true then 1 else if p ⟨cvName3, cvArcs3, cvOrder3, 48⟩ = true then 2 else if p ⟨cvName4, cvArcs4, cvOrder4, 66⟩ = true then 3 else -1 := rfl
theorem idxC_bd (p : S34 → Bool) : -1 ≤ idxC p ∧ idxC p ≤ 3 := by
  rw [idxC_val]
  split
  · decide
  · split
    · decide
    · split
      · decide
      · split <;> decide
theorem cvs_cells (w : World) (b : Nat) (t : TypeId) (h : w.heap[b]? = some (.cells curveCells t (0, 0))) : ∀ j, j < cvs.length → ∀ i v, (encC cvs[j]!)[i]? = some v → w.cell? ⟨b, 0 + j * 4 + i, none⟩ = some v := by
  intro j hj i v hi
  rw [blk_cell h]
  have hj' : j < 4 := hj
  have hi' : i < 4 := (List.getElem?_eq_some_iff.1 hi).1
  obtain rfl | rfl | rfl | rfl : j = 0 ∨ j = 1 ∨ j = 2 ∨ j = 3 := by omega
  all_goals
    obtain rfl | rfl | rfl | rfl : i = 0 ∨ i = 1 ∨ i = 2 ∨ i = 3 := by omega
    all_goals exact hi

set_option maxHeartbeats 4000000 in
set_option maxRecDepth 100000 in
theorem found_calls (p : S34 → Bool) (g : Nat) (lb : Array Value) (eg : ∀ args w, (callFunc g args).run Tryd.prog w = .ok (.enter g args) w) (w : World)
    (hp : ∀ W, Below w.heap.size w W → PredC g lb p W) :
    Calls Tryd.prog 16 #[.func (.func g) #[] lb] w fun e w' => e = .returned (.tuple #[.int .i64 (idxC p + 1), .bool (decide (0 ≤ idxC p))]) ∧ Below w.heap.size w w' := by
  go_enter Tryd.func16, Tryd.ntmps16
  go_wp2_with (first | (go_at_call 21; refine (curve_table_calls _).mono ?_; rintro e w1 ⟨rfl, hb1⟩; unfold curveCells))
  have hcon := indexC p g lb eg w1.heap.size 4 4 cvs (w1.alloc (.cells curveCells 45)) (hp _ (below_alloc hb1 _)) (by decide) (by decide) (by simp) (cvs_cells _ _ 45 (heap_alloc_new w1 _))
  refine hcon.mono ?_
  rintro e w2 ⟨rfl, hb2⟩
  have hid : Lib.idxBy (fun _ y => p y) (cvs.take 4) default = idxC p := rfl
  rw [hid]
  obtain ⟨hi1, hi2⟩ := idxC_bd p
  have hB : Below w.heap.size w w2 := below_then (below_alloc hb1 _) (below_alloc hb1 _).size hb2
  generalize hr : idxC p = r at hi1 hi2 ⊢
  have HR := Lib.hid hr
  clear hr hid
  go_wp2
  go_ret2
  exact ⟨by rw [HR.out]; rfl, hB⟩

def foundO (p : S34 → Bool) : Option (Int × Bool) := some (idxC p + 1, decide (0 ≤ idxC p))
def e_By.f (l : List Int) : Option (Int × Bool) := (oid_Text.f 100 l).bind fun t => foundO fun c => c.f1.toList == t.toList
def e_Of.f (n : Int) : Option (Int × Bool) := foundO fun c => c.f3 == n

set_option maxHeartbeats 1000000 in
theorem predBy (t : ByteArray) (B : Nat) (w : World) (hB : B < w.heap.size) (hcell : w.cell? ⟨B, 0, none⟩ = some (.string t)) :
    PredC 17 #[.pointer (some ⟨B, 0, none⟩)] (fun c => c.f1.toList == t.toList) w := fun W x hb => by
  have hc : W.cell? ⟨B, 0, none⟩ = some (.string t) := (hb.cell (p := ⟨B, 0, none⟩) hB).trans hcell
  have hBW : B < W.heap.size := Nat.lt_of_lt_of_le hB hb.size
  have hne : B ≠ W.heap.size := by omega
  show Calls Tryd.prog 17 #[.agg #[.string x.f0, .string x.f1, .string x.f2, .int .i64 x.f3], .pointer (some ⟨B, 0, none⟩)] W _
  go_enter Tryd.func17, Tryd.ntmps17
  go_wp2
  go_ret
  exact ⟨rfl, below_then hb hb.size (below_alloc (Below.refl _ W) _)⟩
set_option maxHeartbeats 1000000 in
theorem predOf (n : Int) (B : Nat) (w : World) (hB : B < w.heap.size) (hcell : w.cell? ⟨B, 0, none⟩ = some (.int .i64 n)) :
    PredC 18 #[.pointer (some ⟨B, 0, none⟩)] (fun c => c.f3 == n) w := fun W x hb => by
  have hc : W.cell? ⟨B, 0, none⟩ = some (.int .i64 n) := (hb.cell (p := ⟨B, 0, none⟩) hB).trans hcell
  have hBW : B < W.heap.size := Nat.lt_of_lt_of_le hB hb.size
  have hne : B ≠ W.heap.size := by omega
  show Calls Tryd.prog 18 #[.agg #[.string x.f0, .string x.f1, .string x.f2, .int .i64 x.f3], .pointer (some ⟨B, 0, none⟩)] W _
  go_enter Tryd.func18, Tryd.ntmps18
  go_wp2
  go_ret
  exact ⟨rfl, below_then hb hb.size (below_alloc (Below.refl _ W) _)⟩

set_option maxHeartbeats 1000000 in
theorem e_Of.calls (a0 : Int) (r1 : Int) (r2 : Bool) (w : World) (hGL : GL w) (h : e_Of.f a0 = some (r1, r2)) :
    Calls Tryd.prog 10 #[.int .i64 a0] w fun e w' => e = .returned (.tuple #[.int .i64 r1, .bool r2]) ∧ Below w.heap.size w w' := by
  have h' := Option.some.inj h
  simp only [Prod.mk.injEq] at h'
  obtain ⟨rfl, rfl⟩ := h'
  have hcon := found_calls (fun c => c.f3 == a0) 18 #[.pointer (some ⟨w.heap.size, 0, none⟩)] (enters_of Tryd.func18 (by kernel_rfl) rfl) (w.alloc (.cells #[.int .i64 a0] 3)) (fun W hW => by
    have hbx := blk_below (blk_new w (.cells #[.int .i64 a0] 3)) hW
    exact predOf a0 w.heap.size W (blk_lt hbx) (by rw [blk_cell hbx]; rfl))
  have HC := Lib.hid hcon
  clear hcon h
  go_enter Tryd.func10, Tryd.ntmps10
  go_wp2_with (go_at_call 16; refine HC.out.mono ?_; rintro e w2 ⟨rfl, hb2⟩)
  go_ret2
  exact ⟨rfl, below_then (below_alloc (Below.refl _ w) _) (by simp) hb2⟩
set_option maxHeartbeats 1000000 in
theorem e_By.calls (A0 : Option Addr) (c0 : Nat) (l0 : List Int) (r1 : Int) (r2 : Bool) (w : World) (hGL : GL w) (hr0 : Kd.C (Kd.int .i64) w A0 l0.length l0) (hc0 : l0.length ≤ c0) (h : e_By.f l0 = some (r1, r2)) :
    Calls Tryd.prog 9 #[.slice A0 l0.length c0] w fun e w' => e = .returned (.tuple #[.int .i64 r1, .bool r2]) ∧ Below w.heap.size w w' := by
  obtain ⟨t, ht, h'⟩ := Option.bind_eq_some_iff.1 h
  have h' := Option.some.inj h'
  simp only [Prod.mk.injEq] at h'
  obtain ⟨rfl, rfl⟩ := h'
  have HT := Lib.hid (oid_Text.calls 100 A0 c0 l0 t w hGL hr0 hc0 ht)
  have HC : Hid (∀ w1 : World, Calls Tryd.prog 16 #[.func (.func 17) #[] #[.pointer (some ⟨w1.heap.size, 0, none⟩)]] (w1.alloc (.cells #[.string t] 9)) fun e w' => e = .returned (.tuple #[.int .i64 (idxC (fun c => c.f1.toList == t.toList) + 1), .bool (decide (0 ≤ idxC (fun c => c.f1.toList == t.toList)))]) ∧ Below (w1.alloc (.cells #[.string t] 9)).heap.size (w1.alloc (.cells #[.string t] 9)) w') :=
    Lib.hid fun w1 => found_calls (fun c => c.f1.toList == t.toList) 17 #[.pointer (some ⟨w1.heap.size, 0, none⟩)] (enters_of Tryd.func17 (by kernel_rfl) rfl) (w1.alloc (.cells #[.string t] 9)) (fun W hW => by
      have hbx := blk_below (blk_new w1 (.cells #[.string t] 9)) hW
      exact predBy t w1.heap.size W (blk_lt hbx) (by rw [blk_cell hbx]; rfl))
  clear h ht hr0
  go_enter Tryd.func9, Tryd.ntmps9
  go_wp2_with (first
    | (go_at_call 15; refine HT.out.mono ?_; rintro e w1 ⟨rfl, hb1⟩)
    | (go_at_call 16; refine (HC.out _).mono ?_; rintro e w2 ⟨rfl, hb2⟩))
  go_ret2
  exact ⟨rfl, below_then (below_alloc hb1 _) (below_alloc hb1 _).size hb2⟩
end Go.Proofs.YtnffjpbmlfmbcaaDoor.X

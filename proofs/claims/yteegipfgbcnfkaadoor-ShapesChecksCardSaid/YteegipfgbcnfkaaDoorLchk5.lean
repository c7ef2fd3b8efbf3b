/-
  The law ShapesChecks: its walk.
-/
import Derived.Test.YteegipfgbcnfkaaDoorAw5
import Derived.Test.YteegipfgbcnfkaaDoorPr5
import Derived.Deep.RegionHeld3
import Derived.Deep.CutRange
import Derived.RegionTactic
namespace Go.Proofs.YteegipfgbcnfkaaDoor
open Go.RowKit
attribute [local go_sem] Oper.semAt_some


theorem cells_any (r l0 l1 n ec : Int) (w : World) (h : (if shp r l0 l1 ≠ 0 then ((0 : Int), shp r l0 l1) else (prodI r l0 l1, (0 : Int))) = (n, ec)) :
    Calls Tryd.prog 11 #[.int .i64 r, .agg #[.int .i64 l0, .int .i64 l1]] w fun e w' => e = .returned (.tuple #[.int .i64 n, .int .i64 ec]) ∧ Below w.heap.size w w' := by
  split at h
  · rename_i hs
    simp only [Prod.mk.injEq] at h
    obtain ⟨rfl, rfl⟩ := h
    exact cells_err r l0 l1 _ w rfl hs
  · rename_i hs
    simp only [Prod.mk.injEq] at h
    obtain ⟨rfl, rfl⟩ := h
    exact cells_ok r l0 l1 w (Decidable.not_not.1 hs)
theorem rcells_any (r l0 l1 n ec : Int) (w : World) (h : (if shp r l0 l1 ≠ 0 then ((0 : Int), shp r l0 l1) else (prodI r l0 l1, (0 : Int))) = (n, ec)) :
    Calls Tryd.prog 12 #[.int .i64 r, .agg #[.int .i64 l0, .int .i64 l1]] w fun e w' => e = .returned (.tuple #[.int .i64 n, .int .i64 ec]) ∧ Below w.heap.size w w' := by
  split at h
  · rename_i hs
    simp only [Prod.mk.injEq] at h
    obtain ⟨rfl, rfl⟩ := h
    exact rcells_err r l0 l1 _ w rfl hs
  · rename_i hs
    simp only [Prod.mk.injEq] at h
    obtain ⟨rfl, rfl⟩ := h
    exact rcells_ok r l0 l1 w (Decidable.not_not.1 hs)
set_option maxHeartbeats 8000000 in
theorem lawChecks (rs s0 s1 : Int) (w : World) (hT : Tab w) :
    Calls Tryd.prog 3 #[.agg #[.int .i64 rs, .int .i64 s0, .int .i64 s1]] w fun e w' => e = .returned (.bool true) ∧ Below w.heap.size w w' := by
  obtain ⟨⟨n, ec⟩, h⟩ : ∃ R, (if shp rs s0 s1 ≠ 0 then ((0 : Int), shp rs s0 s1) else (prodI rs s0 s1, (0 : Int))) = R := ⟨_, rfl⟩
  obtain ⟨⟨tx, ed⟩, h2⟩ : ∃ R, sPrint rs s0 s1 = R := ⟨_, rfl⟩
  obtain ⟨ee, h3⟩ : ∃ R, shp rs s0 s1 = R := ⟨_, rfl⟩
  have HF := Lib.hid h
  have HG := Lib.hid h2
  have HC := Lib.hid h3
  have HT := Lib.hid hT
  clear h h2 h3 hT
  go_enter Tryd.func3, Tryd.ntmps3
  go_wp2_with fail
  refine (cells_any rs s0 s1 n ec _ HF.out).mono ?_
  rintro e w1 ⟨rfl, hst⟩
  obtain ⟨Xs, hst⟩ := after1 hst
  have b : Below w.heap.size w w1 := hst
  clear hst
  have dXs : ∀ i, w1.cell? ⟨w.heap.size, i, none⟩ = _ := Bx.cell Xs
  have eXs : ∀ i, w1.frozen? ⟨w.heap.size, i, none⟩ = false := Bx.frozen Xs
  have qXs := Bx.lt Xs
  go_wp2_with fail
  refine (rcells_any rs s0 s1 n ec _ HF.out).mono ?_
  rintro e w2 ⟨rfl, hst⟩
  clear dXs eXs qXs
  replace Xs := Bx.step Xs hst
  replace b : Below w.heap.size w w2 := bst b hst
  clear hst
  have dXs : ∀ i, w2.cell? ⟨w.heap.size, i, none⟩ = _ := Bx.cell Xs
  have eXs : ∀ i, w2.frozen? ⟨w.heap.size, i, none⟩ = false := Bx.frozen Xs
  have qXs := Bx.lt Xs
  go_wp2_with fail
  refine (print_any rs s0 s1 tx ed _ (HT.out.on b) HG.out).mono ?_
  rintro e w3 ⟨rfl, hst⟩
  clear dXs eXs qXs
  replace Xs := Bx.step Xs hst
  replace b : Below w.heap.size w w3 := bst b hst
  clear hst
  have dXs : ∀ i, w3.cell? ⟨w.heap.size, i, none⟩ = _ := Bx.cell Xs
  have eXs : ∀ i, w3.frozen? ⟨w.heap.size, i, none⟩ = false := Bx.frozen Xs
  have qXs := Bx.lt Xs
  go_wp2_with fail
  refine (rprint_any rs s0 s1 tx ed _ HG.out).mono ?_
  rintro e w4 ⟨rfl, hst⟩
  clear dXs eXs qXs
  replace Xs := Bx.step Xs hst
  replace b : Below w.heap.size w w4 := bst b hst
  clear hst
  have dXs : ∀ i, w4.cell? ⟨w.heap.size, i, none⟩ = _ := Bx.cell Xs
  have eXs : ∀ i, w4.frozen? ⟨w.heap.size, i, none⟩ = false := Bx.frozen Xs
  have qXs := Bx.lt Xs
  go_wp2
  clear dXs eXs qXs
  have hS : ∀ u, Below w4.heap.size w4 u → (∀ i, u.cell? ⟨w.heap.size, i, none⟩ = #[.int .i64 rs, .int .i64 s0, .int .i64 s1][i]?) := fun u h => Bx.cell (Bx.step Xs h)
  have P0 : Below w4.heap.size w4 w4.drew := bdr (Below.refl _ _)
  go_region_held3 (fun w' => ∀ i, w'.cell? ⟨w.heap.size, i, none⟩ = #[.int .i64 rs, .int .i64 s0, .int .i64 s1][i]?)
    (with_reducible first | exact hS _ P0 | exact hS _ Ra | exact hS _ Rr | exact hS _ Rc)
    (first | (go_at_call 15; (with_reducible refine (check_any rs s0 s1 ee _ HC.out).mono ?_); rintro e yc ⟨rfl, hb_⟩; have Rc : Below w4.heap.size w4 yc := (by with_reducible first | exact bst P0 hb_ | exact bst Rr hb_)) | (go_at_call 16; (with_reducible refine (rcheck_any rs s0 s1 ee _ HC.out).mono ?_); rintro e yr ⟨rfl, hb_⟩; have Rr : Below w4.heap.size w4 yr := (by with_reducible first | exact bst P0 hb_ | exact bst Rc hb_)) | (go_at_call 17; (with_reducible refine (awake5 _).mono ?_); rintro e ya ⟨rfl, hb_⟩; have Ra : Below w4.heap.size w4 ya := (by with_reducible first | exact bst Rr hb_ | exact bst Rc hb_)))
  all_goals go_wp2
  all_goals go_ret
  all_goals exact ⟨rfl, bst b Ra⟩
end Go.Proofs.YteegipfgbcnfkaaDoor

/-
  The law ShapesKnown: its walk.
-/
import Derived.Test.YteegipfgbcnfkaaDoorAw5
import Derived.Test.YteegipfgbcnfkaaDoorRwf
import Derived.Deep.RegionHeld3
import Derived.Deep.CutRange
import Derived.RegionTactic
namespace Go.Proofs.YteegipfgbcnfkaaDoor
open Go.RowKit
attribute [local go_sem] Oper.semAt_some


set_option maxHeartbeats 1000000 in
theorem print0 (w : World) : Calls Tryd.prog 13 #[.int .i64 0, .agg #[.int .i64 0, .int .i64 0]] w fun e w' => e = .returned (.tuple #[.string ⟨#[115, 99, 97, 108, 97, 114]⟩, .int .i64 0]) ∧ Below w.heap.size w w' := by
  go_enter Tryd.func13, Tryd.ntmps13
  go_wp2_with fail
  refine (check_any 0 0 0 0 _ rfl).mono ?_
  rintro e w1 ⟨rfl, hb1⟩
  obtain ⟨X0, b1⟩ := after1 hb1
  have q0 := Bx.lt X0
  clear hb1
  have c0 : ∀ i, w1.cell? ⟨w.heap.size, i, none⟩ = _ := Bx.cell X0
  go_wp2
  refine wp_loop_rounds 1 ?_
  rw [rounds_succ]
  go_wp2
  go_ret2
  exact ⟨rfl, b1⟩

set_option maxRecDepth 100000 in
set_option maxHeartbeats 16000000 in
theorem lawKnown (w : World) : Calls Tryd.prog 8 #[] w fun e w' => e = .returned (.bool true) ∧ Below w.heap.size w w' := by
  have hgu := guardLens
  have hqu := eqLens
  have HC0 := Lib.hid (show shp 1 5 1 = 6 from rfl)
  have HC1 := Lib.hid (show shp 2 21 20 = 15 from rfl)
  have HC2 := Lib.hid (show shp 1 400 0 = 0 from rfl)
  have HC3 := Lib.hid (show shp 1 401 0 = 15 from rfl)
  go_enter Tryd.func8, Tryd.ntmps8
  go_wp2
  have X0 : Bx ((w.alloc (.cells #[.int .i64 1, .int .i64 5, .int .i64 1, .int .i64 2, .int .i64 21, .int .i64 20, .int .i64 1, .int .i64 400, .int .i64 0, .int .i64 1, .int .i64 401, .int .i64 0] 41)).alloc (.cells #[.int .i64 6, .int .i64 15, .int .i64 0, .int .i64 15] 42)) w.heap.size #[.int .i64 1, .int .i64 5, .int .i64 1, .int .i64 2, .int .i64 21, .int .i64 20, .int .i64 1, .int .i64 400, .int .i64 0, .int .i64 1, .int .i64 401, .int .i64 0] 41 := (Bx.new _ _ _).alloc _
  have X1 : Bx ((w.alloc (.cells #[.int .i64 1, .int .i64 5, .int .i64 1, .int .i64 2, .int .i64 21, .int .i64 20, .int .i64 1, .int .i64 400, .int .i64 0, .int .i64 1, .int .i64 401, .int .i64 0] 41)).alloc (.cells #[.int .i64 6, .int .i64 15, .int .i64 0, .int .i64 15] 42)) (w.heap.size + 1) #[.int .i64 6, .int .i64 15, .int .i64 0, .int .i64 15] 42 := by have h := Bx.new (w.alloc (.cells #[.int .i64 1, .int .i64 5, .int .i64 1, .int .i64 2, .int .i64 21, .int .i64 20, .int .i64 1, .int .i64 400, .int .i64 0, .int .i64 1, .int .i64 401, .int .i64 0] 41)) #[.int .i64 6, .int .i64 15, .int .i64 0, .int .i64 15] 42; simpa using h
  have b : Below w.heap.size w ((w.alloc (.cells #[.int .i64 1, .int .i64 5, .int .i64 1, .int .i64 2, .int .i64 21, .int .i64 20, .int .i64 1, .int .i64 400, .int .i64 0, .int .i64 1, .int .i64 401, .int .i64 0] 41)).alloc (.cells #[.int .i64 6, .int .i64 15, .int .i64 0, .int .i64 15] 42)) := below2 _ _ _
  generalize hw1 : (w.alloc (.cells #[.int .i64 1, .int .i64 5, .int .i64 1, .int .i64 2, .int .i64 21, .int .i64 20, .int .i64 1, .int .i64 400, .int .i64 0, .int .i64 1, .int .i64 401, .int .i64 0] 41)).alloc (.cells #[.int .i64 6, .int .i64 15, .int .i64 0, .int .i64 15] 42) = w1 at X0 X1 b ⊢
  clear hw1
  refine wp_loop_rounds 5 ?_
  rw [rounds_succ]
  have dX0 : ∀ i, w1.cell? ⟨w.heap.size, i, none⟩ = _ := Bx.cell X0
  have eX0 : ∀ i, w1.frozen? ⟨w.heap.size, i, none⟩ = false := Bx.frozen X0
  have qX0 := Bx.lt X0
  have dX1 : ∀ i, w1.cell? ⟨w.heap.size + 1, i, none⟩ = _ := Bx.cell X1
  have eX1 : ∀ i, w1.frozen? ⟨w.heap.size + 1, i, none⟩ = false := Bx.frozen X1
  have qX1 := Bx.lt X1
  go_upto_region 6 with fail
  clear dX0 eX0 qX0 dX1 eX1 qX1
  go_cut [43] from 27 to 43 (fun t wx => t = .bool false ∧ Below w1.heap.size w1 wx)
  case first =>
    have hS : ∀ u, Below w1.heap.size w1 u → (∀ i, u.cell? ⟨w.heap.size, i, none⟩ = #[.int .i64 1, .int .i64 5, .int .i64 1, .int .i64 2, .int .i64 21, .int .i64 20, .int .i64 1, .int .i64 400, .int .i64 0, .int .i64 1, .int .i64 401, .int .i64 0][i]?) ∧ (∀ i, u.cell? ⟨w.heap.size + 1, i, none⟩ = #[.int .i64 6, .int .i64 15, .int .i64 0, .int .i64 15][i]?) := fun u h => ⟨Bx.cell (Bx.step X0 h), Bx.cell (Bx.step X1 h)⟩
    have P0 : Below w1.heap.size w1 w1.drew := bdr (Below.refl _ _)
    go_region_held3 (fun w' => (∀ i, w'.cell? ⟨w.heap.size, i, none⟩ = #[.int .i64 1, .int .i64 5, .int .i64 1, .int .i64 2, .int .i64 21, .int .i64 20, .int .i64 1, .int .i64 400, .int .i64 0, .int .i64 1, .int .i64 401, .int .i64 0][i]?) ∧ (∀ i, w'.cell? ⟨w.heap.size + 1, i, none⟩ = #[.int .i64 6, .int .i64 15, .int .i64 0, .int .i64 15][i]?))
      (with_reducible first | exact hS _ P0 | exact hS _ R1)
      ((go_at_call 15; (with_reducible refine (check_any 1 5 1 6 _ HC0.out).mono ?_); rintro e y1 ⟨rfl, hb_⟩; have R1 : Below w1.heap.size w1 y1 := bst P0 hb_))
    all_goals go_wp2_with fail
    all_goals go_meet
    all_goals exact ⟨rfl, R1⟩
  case rest =>
  obtain ⟨rfl, hst⟩ := hcut
  obtain ⟨w2, hw_⟩ : ∃ w2, wc = w2 := ⟨_, rfl⟩
  rw [hw_] at hst
  rw [hw_]
  clear hw_
  replace X0 := Bx.step X0 hst
  replace X1 := Bx.step X1 hst
  replace b := bst b hst
  clear hst
  go_wp2
  rw [rounds_succ]
  have dX0 : ∀ i, w2.cell? ⟨w.heap.size, i, none⟩ = _ := Bx.cell X0
  have eX0 : ∀ i, w2.frozen? ⟨w.heap.size, i, none⟩ = false := Bx.frozen X0
  have qX0 := Bx.lt X0
  have dX1 : ∀ i, w2.cell? ⟨w.heap.size + 1, i, none⟩ = _ := Bx.cell X1
  have eX1 : ∀ i, w2.frozen? ⟨w.heap.size + 1, i, none⟩ = false := Bx.frozen X1
  have qX1 := Bx.lt X1
  go_upto_region 6 with fail
  clear dX0 eX0 qX0 dX1 eX1 qX1
  go_cut [43] from 27 to 43 (fun t wx => t = .bool false ∧ Below w2.heap.size w2 wx)
  case first =>
    have hS : ∀ u, Below w2.heap.size w2 u → (∀ i, u.cell? ⟨w.heap.size, i, none⟩ = #[.int .i64 1, .int .i64 5, .int .i64 1, .int .i64 2, .int .i64 21, .int .i64 20, .int .i64 1, .int .i64 400, .int .i64 0, .int .i64 1, .int .i64 401, .int .i64 0][i]?) ∧ (∀ i, u.cell? ⟨w.heap.size + 1, i, none⟩ = #[.int .i64 6, .int .i64 15, .int .i64 0, .int .i64 15][i]?) := fun u h => ⟨Bx.cell (Bx.step X0 h), Bx.cell (Bx.step X1 h)⟩
    have P0 : Below w2.heap.size w2 w2.drew := bdr (Below.refl _ _)
    go_region_held3 (fun w' => (∀ i, w'.cell? ⟨w.heap.size, i, none⟩ = #[.int .i64 1, .int .i64 5, .int .i64 1, .int .i64 2, .int .i64 21, .int .i64 20, .int .i64 1, .int .i64 400, .int .i64 0, .int .i64 1, .int .i64 401, .int .i64 0][i]?) ∧ (∀ i, w'.cell? ⟨w.heap.size + 1, i, none⟩ = #[.int .i64 6, .int .i64 15, .int .i64 0, .int .i64 15][i]?))
      (with_reducible first | exact hS _ P0 | exact hS _ R1)
      ((go_at_call 15; (with_reducible refine (check_any 2 21 20 15 _ HC1.out).mono ?_); rintro e y1 ⟨rfl, hb_⟩; have R1 : Below w2.heap.size w2 y1 := bst P0 hb_))
    all_goals go_wp2_with fail
    all_goals go_meet
    all_goals exact ⟨rfl, R1⟩
  case rest =>
  obtain ⟨rfl, hst⟩ := hcut
  obtain ⟨w3, hw_⟩ : ∃ w3, wc = w3 := ⟨_, rfl⟩
  rw [hw_] at hst
  rw [hw_]
  clear hw_
  replace X0 := Bx.step X0 hst
  replace X1 := Bx.step X1 hst
  replace b := bst b hst
  clear hst
  go_wp2
  rw [rounds_succ]
  have dX0 : ∀ i, w3.cell? ⟨w.heap.size, i, none⟩ = _ := Bx.cell X0
  have eX0 : ∀ i, w3.frozen? ⟨w.heap.size, i, none⟩ = false := Bx.frozen X0
  have qX0 := Bx.lt X0
  have dX1 : ∀ i, w3.cell? ⟨w.heap.size + 1, i, none⟩ = _ := Bx.cell X1
  have eX1 : ∀ i, w3.frozen? ⟨w.heap.size + 1, i, none⟩ = false := Bx.frozen X1
  have qX1 := Bx.lt X1
  go_upto_region 6 with fail
  clear dX0 eX0 qX0 dX1 eX1 qX1
  go_cut [43] from 27 to 43 (fun t wx => t = .bool false ∧ Below w3.heap.size w3 wx)
  case first =>
    have hS : ∀ u, Below w3.heap.size w3 u → (∀ i, u.cell? ⟨w.heap.size, i, none⟩ = #[.int .i64 1, .int .i64 5, .int .i64 1, .int .i64 2, .int .i64 21, .int .i64 20, .int .i64 1, .int .i64 400, .int .i64 0, .int .i64 1, .int .i64 401, .int .i64 0][i]?) ∧ (∀ i, u.cell? ⟨w.heap.size + 1, i, none⟩ = #[.int .i64 6, .int .i64 15, .int .i64 0, .int .i64 15][i]?) := fun u h => ⟨Bx.cell (Bx.step X0 h), Bx.cell (Bx.step X1 h)⟩
    have P0 : Below w3.heap.size w3 w3.drew := bdr (Below.refl _ _)
    go_region_held3 (fun w' => (∀ i, w'.cell? ⟨w.heap.size, i, none⟩ = #[.int .i64 1, .int .i64 5, .int .i64 1, .int .i64 2, .int .i64 21, .int .i64 20, .int .i64 1, .int .i64 400, .int .i64 0, .int .i64 1, .int .i64 401, .int .i64 0][i]?) ∧ (∀ i, w'.cell? ⟨w.heap.size + 1, i, none⟩ = #[.int .i64 6, .int .i64 15, .int .i64 0, .int .i64 15][i]?))
      (with_reducible first | exact hS _ P0 | exact hS _ R1)
      ((go_at_call 15; (with_reducible refine (check_any 1 400 0 0 _ HC2.out).mono ?_); rintro e y1 ⟨rfl, hb_⟩; have R1 : Below w3.heap.size w3 y1 := bst P0 hb_))
    all_goals go_wp2_with fail
    all_goals go_meet
    all_goals exact ⟨rfl, R1⟩
  case rest =>
  obtain ⟨rfl, hst⟩ := hcut
  obtain ⟨w4, hw_⟩ : ∃ w4, wc = w4 := ⟨_, rfl⟩
  rw [hw_] at hst
  rw [hw_]
  clear hw_
  replace X0 := Bx.step X0 hst
  replace X1 := Bx.step X1 hst
  replace b := bst b hst
  clear hst
  go_wp2
  rw [rounds_succ]
  have dX0 : ∀ i, w4.cell? ⟨w.heap.size, i, none⟩ = _ := Bx.cell X0
  have eX0 : ∀ i, w4.frozen? ⟨w.heap.size, i, none⟩ = false := Bx.frozen X0
  have qX0 := Bx.lt X0
  have dX1 : ∀ i, w4.cell? ⟨w.heap.size + 1, i, none⟩ = _ := Bx.cell X1
  have eX1 : ∀ i, w4.frozen? ⟨w.heap.size + 1, i, none⟩ = false := Bx.frozen X1
  have qX1 := Bx.lt X1
  go_upto_region 6 with fail
  clear dX0 eX0 qX0 dX1 eX1 qX1
  go_cut [43] from 27 to 43 (fun t wx => t = .bool false ∧ Below w4.heap.size w4 wx)
  case first =>
    have hS : ∀ u, Below w4.heap.size w4 u → (∀ i, u.cell? ⟨w.heap.size, i, none⟩ = #[.int .i64 1, .int .i64 5, .int .i64 1, .int .i64 2, .int .i64 21, .int .i64 20, .int .i64 1, .int .i64 400, .int .i64 0, .int .i64 1, .int .i64 401, .int .i64 0][i]?) ∧ (∀ i, u.cell? ⟨w.heap.size + 1, i, none⟩ = #[.int .i64 6, .int .i64 15, .int .i64 0, .int .i64 15][i]?) := fun u h => ⟨Bx.cell (Bx.step X0 h), Bx.cell (Bx.step X1 h)⟩
    have P0 : Below w4.heap.size w4 w4.drew := bdr (Below.refl _ _)
    go_region_held3 (fun w' => (∀ i, w'.cell? ⟨w.heap.size, i, none⟩ = #[.int .i64 1, .int .i64 5, .int .i64 1, .int .i64 2, .int .i64 21, .int .i64 20, .int .i64 1, .int .i64 400, .int .i64 0, .int .i64 1, .int .i64 401, .int .i64 0][i]?) ∧ (∀ i, w'.cell? ⟨w.heap.size + 1, i, none⟩ = #[.int .i64 6, .int .i64 15, .int .i64 0, .int .i64 15][i]?))
      (with_reducible first | exact hS _ P0 | exact hS _ R1)
      ((go_at_call 15; (with_reducible refine (check_any 1 401 0 15 _ HC3.out).mono ?_); rintro e y1 ⟨rfl, hb_⟩; have R1 : Below w4.heap.size w4 y1 := bst P0 hb_))
    all_goals go_wp2_with fail
    all_goals go_meet
    all_goals exact ⟨rfl, R1⟩
  case rest =>
  obtain ⟨rfl, hst⟩ := hcut
  obtain ⟨w5, hw_⟩ : ∃ w5, wc = w5 := ⟨_, rfl⟩
  rw [hw_] at hst
  rw [hw_]
  clear hw_
  replace X0 := Bx.step X0 hst
  replace X1 := Bx.step X1 hst
  replace b := bst b hst
  clear hst
  go_wp2
  rw [rounds_succ]
  clear X0 X1 HC0 HC1 HC2 HC3
  go_wp2_with fail
  refine (cells_ok 0 0 0 _ rfl).mono ?_
  rintro e w6 ⟨rfl, hst⟩
  replace b : Below w.heap.size w w6 := bst b hst
  clear hst
  go_wp2_with fail
  refine (cells_ok 2 0 7 _ rfl).mono ?_
  rintro e w7 ⟨rfl, hst⟩
  replace b : Below w.heap.size w w7 := bst b hst
  clear hst
  go_wp2_with fail
  refine (place_any 2 3 4 1 4 0 4 _ rfl).mono ?_
  rintro e w8 ⟨rfl, hst⟩
  replace b : Below w.heap.size w w8 := bst b hst
  clear hst
  go_wp2_with fail
  refine (index_any 2 3 4 12 0 0 4 _ rfl).mono ?_
  rintro e w9 ⟨rfl, hst⟩
  replace b : Below w.heap.size w w9 := bst b hst
  clear hst
  go_wp2_with fail
  refine (index_any 0 0 0 0 0 0 0 _ rfl).mono ?_
  rintro e w10 ⟨rfl, hst⟩
  obtain ⟨Y0, hst⟩ := after1 hst
  replace b : Below w.heap.size w w10 := bst b hst
  clear hst
  have dY0 : ∀ i, w10.cell? ⟨w9.heap.size, i, none⟩ = _ := Bx.cell Y0
  have eY0 : ∀ i, w10.frozen? ⟨w9.heap.size, i, none⟩ = false := Bx.frozen Y0
  have qY0 := Bx.lt Y0
  go_wp2_with fail
  refine (rows_any 2 3 4 3 4 0 _ rfl).mono ?_
  rintro e w11 ⟨rfl, hst⟩
  clear dY0 eY0 qY0
  obtain ⟨Y1, hst⟩ := after1 hst
  replace Y0 := Bx.step Y0 hst
  replace b : Below w.heap.size w w11 := bst b hst
  clear hst
  have dY0 : ∀ i, w11.cell? ⟨w9.heap.size, i, none⟩ = _ := Bx.cell Y0
  have eY0 : ∀ i, w11.frozen? ⟨w9.heap.size, i, none⟩ = false := Bx.frozen Y0
  have qY0 := Bx.lt Y0
  have dY1 : ∀ i, w11.cell? ⟨w10.heap.size, i, none⟩ = _ := Bx.cell Y1
  have eY1 : ∀ i, w11.frozen? ⟨w10.heap.size, i, none⟩ = false := Bx.frozen Y1
  have qY1 := Bx.lt Y1
  go_wp2_with fail
  refine (fits_any 1 5 0 1 6 0 0 0 0 11 _ rfl).mono ?_
  rintro e w12 ⟨rfl, hst⟩
  clear dY0 eY0 qY0 dY1 eY1 qY1
  replace Y0 := Bx.step Y0 hst
  replace Y1 := Bx.step Y1 hst
  replace b : Below w.heap.size w w12 := bst b hst
  clear hst
  have dY0 : ∀ i, w12.cell? ⟨w9.heap.size, i, none⟩ = _ := Bx.cell Y0
  have eY0 : ∀ i, w12.frozen? ⟨w9.heap.size, i, none⟩ = false := Bx.frozen Y0
  have qY0 := Bx.lt Y0
  have dY1 : ∀ i, w12.cell? ⟨w10.heap.size, i, none⟩ = _ := Bx.cell Y1
  have eY1 : ∀ i, w12.frozen? ⟨w10.heap.size, i, none⟩ = false := Bx.frozen Y1
  have qY1 := Bx.lt Y1
  go_wp2_with fail
  refine (fits_any 1 5 0 2 3 4 0 0 0 6 _ rfl).mono ?_
  rintro e w13 ⟨rfl, hst⟩
  clear dY0 eY0 qY0 dY1 eY1 qY1
  replace Y0 := Bx.step Y0 hst
  replace Y1 := Bx.step Y1 hst
  replace b : Below w.heap.size w w13 := bst b hst
  clear hst
  have dY0 : ∀ i, w13.cell? ⟨w9.heap.size, i, none⟩ = _ := Bx.cell Y0
  have eY0 : ∀ i, w13.frozen? ⟨w9.heap.size, i, none⟩ = false := Bx.frozen Y0
  have qY0 := Bx.lt Y0
  have dY1 : ∀ i, w13.cell? ⟨w10.heap.size, i, none⟩ = _ := Bx.cell Y1
  have eY1 : ∀ i, w13.frozen? ⟨w10.heap.size, i, none⟩ = false := Bx.frozen Y1
  have qY1 := Bx.lt Y1
  go_wp2_with fail
  refine (print0 _).mono ?_
  rintro e w14 ⟨rfl, hst⟩
  clear dY0 eY0 qY0 dY1 eY1 qY1
  replace Y0 := Bx.step Y0 hst
  replace Y1 := Bx.step Y1 hst
  replace b : Below w.heap.size w w14 := bst b hst
  clear hst
  have dY0 : ∀ i, w14.cell? ⟨w9.heap.size, i, none⟩ = _ := Bx.cell Y0
  have eY0 : ∀ i, w14.frozen? ⟨w9.heap.size, i, none⟩ = false := Bx.frozen Y0
  have qY0 := Bx.lt Y0
  have dY1 : ∀ i, w14.cell? ⟨w10.heap.size, i, none⟩ = _ := Bx.cell Y1
  have eY1 : ∀ i, w14.frozen? ⟨w10.heap.size, i, none⟩ = false := Bx.frozen Y1
  have qY1 := Bx.lt Y1
  go_wp2_with fail
  refine (awake5 _).mono ?_
  rintro e wz ⟨rfl, hbz⟩
  go_wp2
  go_ret
  exact ⟨rfl, bst b hbz⟩
end Go.Proofs.YteegipfgbcnfkaaDoor

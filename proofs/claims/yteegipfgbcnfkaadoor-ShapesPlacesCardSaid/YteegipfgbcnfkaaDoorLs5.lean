/-
  The laws ShapesFits, ShapesPlaces: their walks.
-/
import Derived.Test.YteegipfgbcnfkaaDoorAw5
import Derived.Test.YteegipfgbcnfkaaDoorRpl
namespace Go.Proofs.YteegipfgbcnfkaaDoor
open Go.RowKit
attribute [local go_sem] Oper.semAt_some


set_option maxHeartbeats 2000000 in
theorem lawFits (rs s0 s1 rt t0 t1 : Int) (w : World) :
    Calls Tryd.prog 5 #[.agg #[.int .i64 rs, .int .i64 s0, .int .i64 s1], .agg #[.int .i64 rt, .int .i64 t0, .int .i64 t1]] w fun e w' => e = .returned (.bool true) ∧ Below w.heap.size w w' := by
  obtain ⟨⟨r, x, y, ec⟩, h⟩ : ∃ R, sFits rs s0 s1 rt t0 t1 = R := ⟨_, rfl⟩
  have HF := Lib.hid h
  clear h
  have hgu := guardLens
  have hqu := eqLens
  have hs1 : (x == x && y == y) = true := by simp
  go_enter Tryd.func5, Tryd.ntmps5
  go_wp2_with fail
  refine (fits_any rs s0 s1 rt t0 t1 r x y ec _ HF.out).mono ?_
  rintro e w1 ⟨rfl, hst⟩
  obtain ⟨Xs, Xt, hst⟩ := after2 hst
  have b : Below w.heap.size w w1 := hst
  clear hst
  have dXs : ∀ i, w1.cell? ⟨w.heap.size, i, none⟩ = _ := Bx.cell Xs
  have eXs : ∀ i, w1.frozen? ⟨w.heap.size, i, none⟩ = false := Bx.frozen Xs
  have qXs := Bx.lt Xs
  have dXt : ∀ i, w1.cell? ⟨w.heap.size + 1, i, none⟩ = _ := Bx.cell Xt
  have eXt : ∀ i, w1.frozen? ⟨w.heap.size + 1, i, none⟩ = false := Bx.frozen Xt
  have qXt := Bx.lt Xt
  go_wp2_with fail
  refine (rfits_any rs s0 s1 rt t0 t1 r x y ec _ HF.out).mono ?_
  rintro e w2 ⟨rfl, hst⟩
  clear dXs eXs qXs dXt eXt qXt
  obtain ⟨X1, hst⟩ := after1 hst
  replace Xs := Bx.step Xs hst
  replace Xt := Bx.step Xt hst
  replace b : Below w.heap.size w w2 := bst b hst
  clear hst
  have dXs : ∀ i, w2.cell? ⟨w.heap.size, i, none⟩ = _ := Bx.cell Xs
  have eXs : ∀ i, w2.frozen? ⟨w.heap.size, i, none⟩ = false := Bx.frozen Xs
  have qXs := Bx.lt Xs
  have dXt : ∀ i, w2.cell? ⟨w.heap.size + 1, i, none⟩ = _ := Bx.cell Xt
  have eXt : ∀ i, w2.frozen? ⟨w.heap.size + 1, i, none⟩ = false := Bx.frozen Xt
  have qXt := Bx.lt Xt
  have dX1 : ∀ i, w2.cell? ⟨w1.heap.size, i, none⟩ = _ := Bx.cell X1
  have eX1 : ∀ i, w2.frozen? ⟨w1.heap.size, i, none⟩ = false := Bx.frozen X1
  have qX1 := Bx.lt X1
  go_wp2_with fail
  refine (awake5 _).mono ?_
  rintro e wz ⟨rfl, hbz⟩
  go_wp2
  go_ret
  exact ⟨rfl, bst (bal b _) hbz⟩
set_option maxHeartbeats 2000000 in
theorem lawPlaces (rs s0 s1 i0 i1 p : Int) (w : World) :
    Calls Tryd.prog 4 #[.agg #[.int .i64 rs, .int .i64 s0, .int .i64 s1], .agg #[.int .i64 i0, .int .i64 i1], .int .i64 p] w fun e w' => e = .returned (.bool true) ∧ Below w.heap.size w w' := by
  obtain ⟨⟨n, ec⟩, h⟩ : ∃ R, sPlace rs s0 s1 i0 i1 = R := ⟨_, rfl⟩
  obtain ⟨⟨x, y, ed⟩, h2⟩ : ∃ R, sIndex rs s0 s1 p = R := ⟨_, rfl⟩
  have HF := Lib.hid h
  have HG := Lib.hid h2
  clear h h2
  have hgu := guardLens
  have hqu := eqLens
  have hs1 : (x == x && y == y) = true := by simp
  go_enter Tryd.func4, Tryd.ntmps4
  go_wp2_with fail
  refine (place_any rs s0 s1 i0 i1 n ec _ HF.out).mono ?_
  rintro e w1 ⟨rfl, hst⟩
  obtain ⟨Xs, Xi, hst⟩ := after2 hst
  have b : Below w.heap.size w w1 := hst
  clear hst
  have dXs : ∀ i, w1.cell? ⟨w.heap.size, i, none⟩ = _ := Bx.cell Xs
  have eXs : ∀ i, w1.frozen? ⟨w.heap.size, i, none⟩ = false := Bx.frozen Xs
  have qXs := Bx.lt Xs
  have dXi : ∀ i, w1.cell? ⟨w.heap.size + 1, i, none⟩ = _ := Bx.cell Xi
  have eXi : ∀ i, w1.frozen? ⟨w.heap.size + 1, i, none⟩ = false := Bx.frozen Xi
  have qXi := Bx.lt Xi
  go_wp2_with fail
  refine (rplace_any rs s0 s1 i0 i1 n ec _ HF.out).mono ?_
  rintro e w2 ⟨rfl, hst⟩
  clear dXs eXs qXs dXi eXi qXi
  replace Xs := Bx.step Xs hst
  replace Xi := Bx.step Xi hst
  replace b : Below w.heap.size w w2 := bst b hst
  clear hst
  have dXs : ∀ i, w2.cell? ⟨w.heap.size, i, none⟩ = _ := Bx.cell Xs
  have eXs : ∀ i, w2.frozen? ⟨w.heap.size, i, none⟩ = false := Bx.frozen Xs
  have qXs := Bx.lt Xs
  have dXi : ∀ i, w2.cell? ⟨w.heap.size + 1, i, none⟩ = _ := Bx.cell Xi
  have eXi : ∀ i, w2.frozen? ⟨w.heap.size + 1, i, none⟩ = false := Bx.frozen Xi
  have qXi := Bx.lt Xi
  go_wp2_with fail
  refine (index_any rs s0 s1 p x y ed _ HG.out).mono ?_
  rintro e w3 ⟨rfl, hst⟩
  clear dXs eXs qXs dXi eXi qXi
  replace Xs := Bx.step Xs hst
  replace Xi := Bx.step Xi hst
  replace b : Below w.heap.size w w3 := bst b hst
  clear hst
  have dXs : ∀ i, w3.cell? ⟨w.heap.size, i, none⟩ = _ := Bx.cell Xs
  have eXs : ∀ i, w3.frozen? ⟨w.heap.size, i, none⟩ = false := Bx.frozen Xs
  have qXs := Bx.lt Xs
  have dXi : ∀ i, w3.cell? ⟨w.heap.size + 1, i, none⟩ = _ := Bx.cell Xi
  have eXi : ∀ i, w3.frozen? ⟨w.heap.size + 1, i, none⟩ = false := Bx.frozen Xi
  have qXi := Bx.lt Xi
  go_wp2_with fail
  refine (rindex_any rs s0 s1 p x y ed _ HG.out).mono ?_
  rintro e w4 ⟨rfl, hst⟩
  clear dXs eXs qXs dXi eXi qXi
  obtain ⟨X1, hst⟩ := after1 hst
  replace Xs := Bx.step Xs hst
  replace Xi := Bx.step Xi hst
  replace b : Below w.heap.size w w4 := bst b hst
  clear hst
  have dXs : ∀ i, w4.cell? ⟨w.heap.size, i, none⟩ = _ := Bx.cell Xs
  have eXs : ∀ i, w4.frozen? ⟨w.heap.size, i, none⟩ = false := Bx.frozen Xs
  have qXs := Bx.lt Xs
  have dXi : ∀ i, w4.cell? ⟨w.heap.size + 1, i, none⟩ = _ := Bx.cell Xi
  have eXi : ∀ i, w4.frozen? ⟨w.heap.size + 1, i, none⟩ = false := Bx.frozen Xi
  have qXi := Bx.lt Xi
  have dX1 : ∀ i, w4.cell? ⟨w3.heap.size, i, none⟩ = _ := Bx.cell X1
  have eX1 : ∀ i, w4.frozen? ⟨w3.heap.size, i, none⟩ = false := Bx.frozen X1
  have qX1 := Bx.lt X1
  go_wp2_with fail
  refine (awake5 _).mono ?_
  rintro e wz ⟨rfl, hbz⟩
  go_wp2
  go_ret
  exact ⟨rfl, bst (bal b _) hbz⟩
end Go.Proofs.YteegipfgbcnfkaaDoor

/-
  The law ShapesAround: its walk.
-/
import Derived.Test.YteegipfgbcnfkaaDoorAw5
import Derived.Test.YteegipfgbcnfkaaDoorPl
import Derived.Test.YteegipfgbcnfkaaDoorIx
namespace Go.Proofs.YteegipfgbcnfkaaDoor
open Go.RowKit
attribute [local go_sem] Oper.semAt_some

theorem Bx.put0 {w : World} {B : Nat} {u0 u1 : Value} {T : TypeId} (h : Bx w B #[u0, u1] T) (v : Value) : Bx (w.setCell ⟨B, 0, none⟩ v) B #[v, u1] T := by
  have := h.set_ 0 v
  simpa using this
theorem Bx.put1 {w : World} {B : Nat} {u0 u1 : Value} {T : TypeId} (h : Bx w B #[u0, u1] T) (v : Value) : Bx (w.setCell ⟨B, 1, none⟩ v) B #[u0, v] T := by
  have := h.set_ 1 v
  simpa using this

set_option maxRecDepth 100000 in
set_option maxHeartbeats 8000000 in
theorem around_bad (rs s0 s1 i0 i1 ec : Int) (w : World) (hP : sPlace rs s0 s1 i0 i1 = (0, ec)) (hC : shp rs s0 s1 = ec) (hne : ec ≠ 0) :
    Calls Tryd.prog 7 #[.agg #[.int .i64 rs, .int .i64 s0, .int .i64 s1], .agg #[.int .i64 i0, .int .i64 i1]] w fun e w' => e = .returned (.bool true) ∧ Below w.heap.size w w' := by
  have hgu := guardLens
  have hqu := eqLens
  have HP := Lib.hid hP
  have HC := Lib.hid hC
  have e1 : (ec != 0) = true := by simpa using hne
  have e2 : (ec == 0) = false := by simpa using hne
  clear hP hC hne
  go_enter Tryd.func7, Tryd.ntmps7
  go_wp2_with fail
  refine (place_any rs s0 s1 i0 i1 0 ec _ HP.out).mono ?_
  rintro e w1 ⟨rfl, hst⟩
  obtain ⟨Xs, Xi, hst⟩ := after2 hst
  have b : Below w.heap.size w w1 := hst
  clear hst
  have dXs : ∀ i, w1.cell? ⟨w.heap.size, i, none⟩ = _ := Bx.cell Xs
  have eXs : ∀ i, w1.frozen? ⟨w.heap.size, i, none⟩ = false := Bx.frozen Xs
  have qXs := Bx.lt Xs
  have dXi : ∀ i, w1.cell? ⟨w.heap.size + 1, i, none⟩ = _ := Bx.cell Xi
  have eXi : ∀ i, w1.frozen? ⟨w.heap.size + 1, i, none⟩ = false := Bx.frozen Xi
  have qXi := Bx.lt Xi
  go_wp2_with fail
  refine (check_any rs s0 s1 ec _ HC.out).mono ?_
  rintro e w2 ⟨rfl, hst⟩
  clear dXs eXs qXs dXi eXi qXi
  replace Xs := Bx.step Xs hst
  replace Xi := Bx.step Xi hst
  replace b : Below w.heap.size w w2 := bst b hst
  clear hst
  have dXs : ∀ i, w2.cell? ⟨w.heap.size, i, none⟩ = _ := Bx.cell Xs
  have eXs : ∀ i, w2.frozen? ⟨w.heap.size, i, none⟩ = false := Bx.frozen Xs
  have qXs := Bx.lt Xs
  have dXi : ∀ i, w2.cell? ⟨w.heap.size + 1, i, none⟩ = _ := Bx.cell Xi
  have eXi : ∀ i, w2.frozen? ⟨w.heap.size + 1, i, none⟩ = false := Bx.frozen Xi
  have qXi := Bx.lt Xi
  go_wp2_with fail
  refine (awake5 _).mono ?_
  rintro e wz ⟨rfl, hbz⟩
  go_wp2
  go_ret
  exact ⟨rfl, bst b hbz⟩
set_option maxRecDepth 100000 in
set_option maxHeartbeats 8000000 in
theorem around_oks0_s1 (rs s0 s1 i0 i1 p : Int) (w : World) (hC : shp rs s0 s1 = 0) (hP : sPlace rs s0 s1 i0 i1 = (p, 0)) (hI : sIndex rs s0 s1 p = (i0, i1, 0)) (hA : sPlace rs s0 s1 (-1) i1 = (0, 4)) (hB : sPlace rs s0 s1 s0 i1 = (0, 4)) (hD : sPlace rs s0 s1 i0 (-1) = (0, 4)) (hE : sPlace rs s0 s1 i0 s1 = (0, 4)) (hm0 : 1 ≤ s0) (hm1 : 1 ≤ s1) :
    Calls Tryd.prog 7 #[.agg #[.int .i64 rs, .int .i64 s0, .int .i64 s1], .agg #[.int .i64 i0, .int .i64 i1]] w fun e w' => e = .returned (.bool true) ∧ Below w.heap.size w w' := by
  have hgu := guardLens
  have hqu := eqLens
  have HC := Lib.hid hC
  clear hC
  have HP := Lib.hid hP
  clear hP
  have HA := Lib.hid hA
  clear hA
  have HB := Lib.hid hB
  clear hB
  have HD := Lib.hid hD
  clear hD
  have HE := Lib.hid hE
  clear hE
  have HI := Lib.hid hI
  clear hI
  have hs1 : (i0 == i0 && i1 == i1) = true := by simp
  go_enter Tryd.func7, Tryd.ntmps7
  go_wp2_with fail
  refine (place_any rs s0 s1 i0 i1 p 0 _ HP.out).mono ?_
  rintro e w1 ⟨rfl, hst⟩
  obtain ⟨Xs, Xi, hst⟩ := after2 hst
  have b : Below w.heap.size w w1 := hst
  clear hst
  have dXs : ∀ i, w1.cell? ⟨w.heap.size, i, none⟩ = _ := Bx.cell Xs
  have eXs : ∀ i, w1.frozen? ⟨w.heap.size, i, none⟩ = false := Bx.frozen Xs
  have qXs := Bx.lt Xs
  have dXi : ∀ i, w1.cell? ⟨w.heap.size + 1, i, none⟩ = _ := Bx.cell Xi
  have eXi : ∀ i, w1.frozen? ⟨w.heap.size + 1, i, none⟩ = false := Bx.frozen Xi
  have qXi := Bx.lt Xi
  go_wp2_with fail
  refine (index_any rs s0 s1 p i0 i1 0 _ HI.out).mono ?_
  rintro e w2 ⟨rfl, hst⟩
  clear dXs eXs qXs dXi eXi qXi
  replace Xs := Bx.step Xs hst
  replace Xi := Bx.step Xi hst
  replace b : Below w.heap.size w w2 := bst b hst
  clear hst
  have dXs : ∀ i, w2.cell? ⟨w.heap.size, i, none⟩ = _ := Bx.cell Xs
  have eXs : ∀ i, w2.frozen? ⟨w.heap.size, i, none⟩ = false := Bx.frozen Xs
  have qXs := Bx.lt Xs
  have dXi : ∀ i, w2.cell? ⟨w.heap.size + 1, i, none⟩ = _ := Bx.cell Xi
  have eXi : ∀ i, w2.frozen? ⟨w.heap.size + 1, i, none⟩ = false := Bx.frozen Xi
  have qXi := Bx.lt Xi
  go_wp2_with fail
  refine (check_any rs s0 s1 0 _ HC.out).mono ?_
  rintro e w3 ⟨rfl, hst⟩
  clear dXs eXs qXs dXi eXi qXi
  obtain ⟨X1, hst⟩ := after1 hst
  replace Xs := Bx.step Xs hst
  replace Xi := Bx.step Xi hst
  replace b : Below w.heap.size w w3 := bst b hst
  clear hst
  have dXs : ∀ i, w3.cell? ⟨w.heap.size, i, none⟩ = _ := Bx.cell Xs
  have eXs : ∀ i, w3.frozen? ⟨w.heap.size, i, none⟩ = false := Bx.frozen Xs
  have qXs := Bx.lt Xs
  have dXi : ∀ i, w3.cell? ⟨w.heap.size + 1, i, none⟩ = _ := Bx.cell Xi
  have eXi : ∀ i, w3.frozen? ⟨w.heap.size + 1, i, none⟩ = false := Bx.frozen Xi
  have qXi := Bx.lt Xi
  have dX1 : ∀ i, w3.cell? ⟨w2.heap.size, i, none⟩ = _ := Bx.cell X1
  have eX1 : ∀ i, w3.frozen? ⟨w2.heap.size, i, none⟩ = false := Bx.frozen X1
  have qX1 := Bx.lt X1
  go_wp2
  refine wp_loop_rounds 3 ?_
  rw [rounds_succ]
  go_wp2_with fail
  refine (place_any rs s0 s1 (-1) i1 0 4 _ HA.out).mono ?_
  rintro e w4 ⟨rfl, hst⟩
  clear dXs eXs qXs dXi eXi qXi dX1 eX1 qX1
  obtain ⟨Y0, hst⟩ := after1 hst
  have nx_Xs_Y0 : w.heap.size ≠ w3.heap.size := by have := Bx.lt Xs; omega
  have nx_Y0_Xs := Ne.symm nx_Xs_Y0
  have nx_Xi_Y0 : w.heap.size + 1 ≠ w3.heap.size := by have := Bx.lt Xi; omega
  have nx_Y0_Xi := Ne.symm nx_Xi_Y0
  have nx_X1_Y0 : w2.heap.size ≠ w3.heap.size := by have := Bx.lt X1; omega
  have nx_Y0_X1 := Ne.symm nx_X1_Y0
  have zY0 : w.heap.size ≤ w3.heap.size := by have := b.size; omega
  replace Xs := Bx.step Xs hst
  replace Xi := Bx.step Xi hst
  replace X1 := Bx.step X1 hst
  replace b : Below w.heap.size w w4 := bst b hst
  clear hst
  have dXs : ∀ i, w4.cell? ⟨w.heap.size, i, none⟩ = _ := Bx.cell Xs
  have eXs : ∀ i, w4.frozen? ⟨w.heap.size, i, none⟩ = false := Bx.frozen Xs
  have qXs := Bx.lt Xs
  have dXi : ∀ i, w4.cell? ⟨w.heap.size + 1, i, none⟩ = _ := Bx.cell Xi
  have eXi : ∀ i, w4.frozen? ⟨w.heap.size + 1, i, none⟩ = false := Bx.frozen Xi
  have qXi := Bx.lt Xi
  have dX1 : ∀ i, w4.cell? ⟨w2.heap.size, i, none⟩ = _ := Bx.cell X1
  have eX1 : ∀ i, w4.frozen? ⟨w2.heap.size, i, none⟩ = false := Bx.frozen X1
  have qX1 := Bx.lt X1
  have dY0 : ∀ i, w4.cell? ⟨w3.heap.size, i, none⟩ = _ := Bx.cell Y0
  have eY0 : ∀ i, w4.frozen? ⟨w3.heap.size, i, none⟩ = false := Bx.frozen Y0
  have qY0 := Bx.lt Y0
  go_wp2_with fail
  refine (place_any rs s0 s1 s0 i1 0 4 _ HB.out).mono ?_
  rintro e w5 ⟨rfl, hst⟩
  clear dXs eXs qXs dXi eXi qXi dX1 eX1 qX1 dY0 eY0 qY0
  have hsz_Y0 := zY0
  replace Xs := Bx.step (Bx.far Xs (p := ⟨w3.heap.size, 0, none⟩) nx_Xs_Y0 _) hst
  replace Xi := Bx.step (Bx.far Xi (p := ⟨w3.heap.size, 0, none⟩) nx_Xi_Y0 _) hst
  replace X1 := Bx.step (Bx.far X1 (p := ⟨w3.heap.size, 0, none⟩) nx_X1_Y0 _) hst
  replace Y0 := Bx.step (Bx.put0 Y0 _) hst
  replace b : Below w.heap.size w w5 := bst (bsc b (p := ⟨w3.heap.size, 0, none⟩) zY0 _) hst
  clear hst
  have dXs : ∀ i, w5.cell? ⟨w.heap.size, i, none⟩ = _ := Bx.cell Xs
  have eXs : ∀ i, w5.frozen? ⟨w.heap.size, i, none⟩ = false := Bx.frozen Xs
  have qXs := Bx.lt Xs
  have dXi : ∀ i, w5.cell? ⟨w.heap.size + 1, i, none⟩ = _ := Bx.cell Xi
  have eXi : ∀ i, w5.frozen? ⟨w.heap.size + 1, i, none⟩ = false := Bx.frozen Xi
  have qXi := Bx.lt Xi
  have dX1 : ∀ i, w5.cell? ⟨w2.heap.size, i, none⟩ = _ := Bx.cell X1
  have eX1 : ∀ i, w5.frozen? ⟨w2.heap.size, i, none⟩ = false := Bx.frozen X1
  have qX1 := Bx.lt X1
  have dY0 : ∀ i, w5.cell? ⟨w3.heap.size, i, none⟩ = _ := Bx.cell Y0
  have eY0 : ∀ i, w5.frozen? ⟨w3.heap.size, i, none⟩ = false := Bx.frozen Y0
  have qY0 := Bx.lt Y0
  go_wp2
  rw [rounds_succ]
  go_wp2_with fail
  refine (place_any rs s0 s1 i0 (-1) 0 4 _ HD.out).mono ?_
  rintro e w6 ⟨rfl, hst⟩
  clear dXs eXs qXs dXi eXi qXi dX1 eX1 qX1 dY0 eY0 qY0
  obtain ⟨Y1, hst⟩ := after1 hst
  have nx_Xs_Y1 : w.heap.size ≠ w5.heap.size := by have := Bx.lt Xs; omega
  have nx_Y1_Xs := Ne.symm nx_Xs_Y1
  have nx_Xi_Y1 : w.heap.size + 1 ≠ w5.heap.size := by have := Bx.lt Xi; omega
  have nx_Y1_Xi := Ne.symm nx_Xi_Y1
  have nx_X1_Y1 : w2.heap.size ≠ w5.heap.size := by have := Bx.lt X1; omega
  have nx_Y1_X1 := Ne.symm nx_X1_Y1
  have nx_Y0_Y1 : w3.heap.size ≠ w5.heap.size := by have := Bx.lt Y0; omega
  have nx_Y1_Y0 := Ne.symm nx_Y0_Y1
  have zY1 : w.heap.size ≤ w5.heap.size := by have := b.size; omega
  replace Xs := Bx.step Xs hst
  replace Xi := Bx.step Xi hst
  replace X1 := Bx.step X1 hst
  replace Y0 := Bx.step Y0 hst
  replace b : Below w.heap.size w w6 := bst b hst
  clear hst
  have dXs : ∀ i, w6.cell? ⟨w.heap.size, i, none⟩ = _ := Bx.cell Xs
  have eXs : ∀ i, w6.frozen? ⟨w.heap.size, i, none⟩ = false := Bx.frozen Xs
  have qXs := Bx.lt Xs
  have dXi : ∀ i, w6.cell? ⟨w.heap.size + 1, i, none⟩ = _ := Bx.cell Xi
  have eXi : ∀ i, w6.frozen? ⟨w.heap.size + 1, i, none⟩ = false := Bx.frozen Xi
  have qXi := Bx.lt Xi
  have dX1 : ∀ i, w6.cell? ⟨w2.heap.size, i, none⟩ = _ := Bx.cell X1
  have eX1 : ∀ i, w6.frozen? ⟨w2.heap.size, i, none⟩ = false := Bx.frozen X1
  have qX1 := Bx.lt X1
  have dY0 : ∀ i, w6.cell? ⟨w3.heap.size, i, none⟩ = _ := Bx.cell Y0
  have eY0 : ∀ i, w6.frozen? ⟨w3.heap.size, i, none⟩ = false := Bx.frozen Y0
  have qY0 := Bx.lt Y0
  have dY1 : ∀ i, w6.cell? ⟨w5.heap.size, i, none⟩ = _ := Bx.cell Y1
  have eY1 : ∀ i, w6.frozen? ⟨w5.heap.size, i, none⟩ = false := Bx.frozen Y1
  have qY1 := Bx.lt Y1
  go_wp2_with fail
  refine (place_any rs s0 s1 i0 s1 0 4 _ HE.out).mono ?_
  rintro e w7 ⟨rfl, hst⟩
  clear dXs eXs qXs dXi eXi qXi dX1 eX1 qX1 dY0 eY0 qY0 dY1 eY1 qY1
  have hsz_Y1 := zY1
  replace Xs := Bx.step (Bx.far Xs (p := ⟨w5.heap.size, 1, none⟩) nx_Xs_Y1 _) hst
  replace Xi := Bx.step (Bx.far Xi (p := ⟨w5.heap.size, 1, none⟩) nx_Xi_Y1 _) hst
  replace X1 := Bx.step (Bx.far X1 (p := ⟨w5.heap.size, 1, none⟩) nx_X1_Y1 _) hst
  replace Y0 := Bx.step (Bx.far Y0 (p := ⟨w5.heap.size, 1, none⟩) nx_Y0_Y1 _) hst
  replace Y1 := Bx.step (Bx.put1 Y1 _) hst
  replace b : Below w.heap.size w w7 := bst (bsc b (p := ⟨w5.heap.size, 1, none⟩) zY1 _) hst
  clear hst
  have dXs : ∀ i, w7.cell? ⟨w.heap.size, i, none⟩ = _ := Bx.cell Xs
  have eXs : ∀ i, w7.frozen? ⟨w.heap.size, i, none⟩ = false := Bx.frozen Xs
  have qXs := Bx.lt Xs
  have dXi : ∀ i, w7.cell? ⟨w.heap.size + 1, i, none⟩ = _ := Bx.cell Xi
  have eXi : ∀ i, w7.frozen? ⟨w.heap.size + 1, i, none⟩ = false := Bx.frozen Xi
  have qXi := Bx.lt Xi
  have dX1 : ∀ i, w7.cell? ⟨w2.heap.size, i, none⟩ = _ := Bx.cell X1
  have eX1 : ∀ i, w7.frozen? ⟨w2.heap.size, i, none⟩ = false := Bx.frozen X1
  have qX1 := Bx.lt X1
  have dY0 : ∀ i, w7.cell? ⟨w3.heap.size, i, none⟩ = _ := Bx.cell Y0
  have eY0 : ∀ i, w7.frozen? ⟨w3.heap.size, i, none⟩ = false := Bx.frozen Y0
  have qY0 := Bx.lt Y0
  have dY1 : ∀ i, w7.cell? ⟨w5.heap.size, i, none⟩ = _ := Bx.cell Y1
  have eY1 : ∀ i, w7.frozen? ⟨w5.heap.size, i, none⟩ = false := Bx.frozen Y1
  have qY1 := Bx.lt Y1
  go_wp2
  rw [rounds_succ]
  go_wp2_with fail
  refine (awake5 _).mono ?_
  rintro e wz ⟨rfl, hbz⟩
  go_wp2
  go_ret
  exact ⟨rfl, bst b hbz⟩
set_option maxRecDepth 100000 in
set_option maxHeartbeats 8000000 in
theorem around_oks0_1 (rs s0 s1 i0 i1 p : Int) (w : World) (hC : shp rs s0 s1 = 0) (hP : sPlace rs s0 s1 i0 i1 = (p, 0)) (hI : sIndex rs s0 s1 p = (i0, i1, 0)) (hA : sPlace rs s0 s1 (-1) i1 = (0, 4)) (hB : sPlace rs s0 s1 s0 i1 = (0, 4)) (hD : sPlace rs s0 s1 i0 (-1) = (0, 4)) (hE : sPlace rs s0 s1 i0 1 = (0, 4)) (hm0 : 1 ≤ s0) (hm1 : s1 < 1) :
    Calls Tryd.prog 7 #[.agg #[.int .i64 rs, .int .i64 s0, .int .i64 s1], .agg #[.int .i64 i0, .int .i64 i1]] w fun e w' => e = .returned (.bool true) ∧ Below w.heap.size w w' := by
  have hgu := guardLens
  have hqu := eqLens
  have HC := Lib.hid hC
  clear hC
  have HP := Lib.hid hP
  clear hP
  have HA := Lib.hid hA
  clear hA
  have HB := Lib.hid hB
  clear hB
  have HD := Lib.hid hD
  clear hD
  have HE := Lib.hid hE
  clear hE
  have HI := Lib.hid hI
  clear hI
  have hs1 : (i0 == i0 && i1 == i1) = true := by simp
  go_enter Tryd.func7, Tryd.ntmps7
  go_wp2_with fail
  refine (place_any rs s0 s1 i0 i1 p 0 _ HP.out).mono ?_
  rintro e w1 ⟨rfl, hst⟩
  obtain ⟨Xs, Xi, hst⟩ := after2 hst
  have b : Below w.heap.size w w1 := hst
  clear hst
  have dXs : ∀ i, w1.cell? ⟨w.heap.size, i, none⟩ = _ := Bx.cell Xs
  have eXs : ∀ i, w1.frozen? ⟨w.heap.size, i, none⟩ = false := Bx.frozen Xs
  have qXs := Bx.lt Xs
  have dXi : ∀ i, w1.cell? ⟨w.heap.size + 1, i, none⟩ = _ := Bx.cell Xi
  have eXi : ∀ i, w1.frozen? ⟨w.heap.size + 1, i, none⟩ = false := Bx.frozen Xi
  have qXi := Bx.lt Xi
  go_wp2_with fail
  refine (index_any rs s0 s1 p i0 i1 0 _ HI.out).mono ?_
  rintro e w2 ⟨rfl, hst⟩
  clear dXs eXs qXs dXi eXi qXi
  replace Xs := Bx.step Xs hst
  replace Xi := Bx.step Xi hst
  replace b : Below w.heap.size w w2 := bst b hst
  clear hst
  have dXs : ∀ i, w2.cell? ⟨w.heap.size, i, none⟩ = _ := Bx.cell Xs
  have eXs : ∀ i, w2.frozen? ⟨w.heap.size, i, none⟩ = false := Bx.frozen Xs
  have qXs := Bx.lt Xs
  have dXi : ∀ i, w2.cell? ⟨w.heap.size + 1, i, none⟩ = _ := Bx.cell Xi
  have eXi : ∀ i, w2.frozen? ⟨w.heap.size + 1, i, none⟩ = false := Bx.frozen Xi
  have qXi := Bx.lt Xi
  go_wp2_with fail
  refine (check_any rs s0 s1 0 _ HC.out).mono ?_
  rintro e w3 ⟨rfl, hst⟩
  clear dXs eXs qXs dXi eXi qXi
  obtain ⟨X1, hst⟩ := after1 hst
  replace Xs := Bx.step Xs hst
  replace Xi := Bx.step Xi hst
  replace b : Below w.heap.size w w3 := bst b hst
  clear hst
  have dXs : ∀ i, w3.cell? ⟨w.heap.size, i, none⟩ = _ := Bx.cell Xs
  have eXs : ∀ i, w3.frozen? ⟨w.heap.size, i, none⟩ = false := Bx.frozen Xs
  have qXs := Bx.lt Xs
  have dXi : ∀ i, w3.cell? ⟨w.heap.size + 1, i, none⟩ = _ := Bx.cell Xi
  have eXi : ∀ i, w3.frozen? ⟨w.heap.size + 1, i, none⟩ = false := Bx.frozen Xi
  have qXi := Bx.lt Xi
  have dX1 : ∀ i, w3.cell? ⟨w2.heap.size, i, none⟩ = _ := Bx.cell X1
  have eX1 : ∀ i, w3.frozen? ⟨w2.heap.size, i, none⟩ = false := Bx.frozen X1
  have qX1 := Bx.lt X1
  go_wp2
  refine wp_loop_rounds 3 ?_
  rw [rounds_succ]
  go_wp2_with fail
  refine (place_any rs s0 s1 (-1) i1 0 4 _ HA.out).mono ?_
  rintro e w4 ⟨rfl, hst⟩
  clear dXs eXs qXs dXi eXi qXi dX1 eX1 qX1
  obtain ⟨Y0, hst⟩ := after1 hst
  have nx_Xs_Y0 : w.heap.size ≠ w3.heap.size := by have := Bx.lt Xs; omega
  have nx_Y0_Xs := Ne.symm nx_Xs_Y0
  have nx_Xi_Y0 : w.heap.size + 1 ≠ w3.heap.size := by have := Bx.lt Xi; omega
  have nx_Y0_Xi := Ne.symm nx_Xi_Y0
  have nx_X1_Y0 : w2.heap.size ≠ w3.heap.size := by have := Bx.lt X1; omega
  have nx_Y0_X1 := Ne.symm nx_X1_Y0
  have zY0 : w.heap.size ≤ w3.heap.size := by have := b.size; omega
  replace Xs := Bx.step Xs hst
  replace Xi := Bx.step Xi hst
  replace X1 := Bx.step X1 hst
  replace b : Below w.heap.size w w4 := bst b hst
  clear hst
  have dXs : ∀ i, w4.cell? ⟨w.heap.size, i, none⟩ = _ := Bx.cell Xs
  have eXs : ∀ i, w4.frozen? ⟨w.heap.size, i, none⟩ = false := Bx.frozen Xs
  have qXs := Bx.lt Xs
  have dXi : ∀ i, w4.cell? ⟨w.heap.size + 1, i, none⟩ = _ := Bx.cell Xi
  have eXi : ∀ i, w4.frozen? ⟨w.heap.size + 1, i, none⟩ = false := Bx.frozen Xi
  have qXi := Bx.lt Xi
  have dX1 : ∀ i, w4.cell? ⟨w2.heap.size, i, none⟩ = _ := Bx.cell X1
  have eX1 : ∀ i, w4.frozen? ⟨w2.heap.size, i, none⟩ = false := Bx.frozen X1
  have qX1 := Bx.lt X1
  have dY0 : ∀ i, w4.cell? ⟨w3.heap.size, i, none⟩ = _ := Bx.cell Y0
  have eY0 : ∀ i, w4.frozen? ⟨w3.heap.size, i, none⟩ = false := Bx.frozen Y0
  have qY0 := Bx.lt Y0
  go_wp2_with fail
  refine (place_any rs s0 s1 s0 i1 0 4 _ HB.out).mono ?_
  rintro e w5 ⟨rfl, hst⟩
  clear dXs eXs qXs dXi eXi qXi dX1 eX1 qX1 dY0 eY0 qY0
  have hsz_Y0 := zY0
  replace Xs := Bx.step (Bx.far Xs (p := ⟨w3.heap.size, 0, none⟩) nx_Xs_Y0 _) hst
  replace Xi := Bx.step (Bx.far Xi (p := ⟨w3.heap.size, 0, none⟩) nx_Xi_Y0 _) hst
  replace X1 := Bx.step (Bx.far X1 (p := ⟨w3.heap.size, 0, none⟩) nx_X1_Y0 _) hst
  replace Y0 := Bx.step (Bx.put0 Y0 _) hst
  replace b : Below w.heap.size w w5 := bst (bsc b (p := ⟨w3.heap.size, 0, none⟩) zY0 _) hst
  clear hst
  have dXs : ∀ i, w5.cell? ⟨w.heap.size, i, none⟩ = _ := Bx.cell Xs
  have eXs : ∀ i, w5.frozen? ⟨w.heap.size, i, none⟩ = false := Bx.frozen Xs
  have qXs := Bx.lt Xs
  have dXi : ∀ i, w5.cell? ⟨w.heap.size + 1, i, none⟩ = _ := Bx.cell Xi
  have eXi : ∀ i, w5.frozen? ⟨w.heap.size + 1, i, none⟩ = false := Bx.frozen Xi
  have qXi := Bx.lt Xi
  have dX1 : ∀ i, w5.cell? ⟨w2.heap.size, i, none⟩ = _ := Bx.cell X1
  have eX1 : ∀ i, w5.frozen? ⟨w2.heap.size, i, none⟩ = false := Bx.frozen X1
  have qX1 := Bx.lt X1
  have dY0 : ∀ i, w5.cell? ⟨w3.heap.size, i, none⟩ = _ := Bx.cell Y0
  have eY0 : ∀ i, w5.frozen? ⟨w3.heap.size, i, none⟩ = false := Bx.frozen Y0
  have qY0 := Bx.lt Y0
  go_wp2
  rw [rounds_succ]
  go_wp2_with fail
  refine (place_any rs s0 s1 i0 (-1) 0 4 _ HD.out).mono ?_
  rintro e w6 ⟨rfl, hst⟩
  clear dXs eXs qXs dXi eXi qXi dX1 eX1 qX1 dY0 eY0 qY0
  obtain ⟨Y1, hst⟩ := after1 hst
  have nx_Xs_Y1 : w.heap.size ≠ w5.heap.size := by have := Bx.lt Xs; omega
  have nx_Y1_Xs := Ne.symm nx_Xs_Y1
  have nx_Xi_Y1 : w.heap.size + 1 ≠ w5.heap.size := by have := Bx.lt Xi; omega
  have nx_Y1_Xi := Ne.symm nx_Xi_Y1
  have nx_X1_Y1 : w2.heap.size ≠ w5.heap.size := by have := Bx.lt X1; omega
  have nx_Y1_X1 := Ne.symm nx_X1_Y1
  have nx_Y0_Y1 : w3.heap.size ≠ w5.heap.size := by have := Bx.lt Y0; omega
  have nx_Y1_Y0 := Ne.symm nx_Y0_Y1
  have zY1 : w.heap.size ≤ w5.heap.size := by have := b.size; omega
  replace Xs := Bx.step Xs hst
  replace Xi := Bx.step Xi hst
  replace X1 := Bx.step X1 hst
  replace Y0 := Bx.step Y0 hst
  replace b : Below w.heap.size w w6 := bst b hst
  clear hst
  have dXs : ∀ i, w6.cell? ⟨w.heap.size, i, none⟩ = _ := Bx.cell Xs
  have eXs : ∀ i, w6.frozen? ⟨w.heap.size, i, none⟩ = false := Bx.frozen Xs
  have qXs := Bx.lt Xs
  have dXi : ∀ i, w6.cell? ⟨w.heap.size + 1, i, none⟩ = _ := Bx.cell Xi
  have eXi : ∀ i, w6.frozen? ⟨w.heap.size + 1, i, none⟩ = false := Bx.frozen Xi
  have qXi := Bx.lt Xi
  have dX1 : ∀ i, w6.cell? ⟨w2.heap.size, i, none⟩ = _ := Bx.cell X1
  have eX1 : ∀ i, w6.frozen? ⟨w2.heap.size, i, none⟩ = false := Bx.frozen X1
  have qX1 := Bx.lt X1
  have dY0 : ∀ i, w6.cell? ⟨w3.heap.size, i, none⟩ = _ := Bx.cell Y0
  have eY0 : ∀ i, w6.frozen? ⟨w3.heap.size, i, none⟩ = false := Bx.frozen Y0
  have qY0 := Bx.lt Y0
  have dY1 : ∀ i, w6.cell? ⟨w5.heap.size, i, none⟩ = _ := Bx.cell Y1
  have eY1 : ∀ i, w6.frozen? ⟨w5.heap.size, i, none⟩ = false := Bx.frozen Y1
  have qY1 := Bx.lt Y1
  go_wp2_with fail
  refine (place_any rs s0 s1 i0 1 0 4 _ HE.out).mono ?_
  rintro e w7 ⟨rfl, hst⟩
  clear dXs eXs qXs dXi eXi qXi dX1 eX1 qX1 dY0 eY0 qY0 dY1 eY1 qY1
  have hsz_Y1 := zY1
  replace Xs := Bx.step (Bx.far Xs (p := ⟨w5.heap.size, 1, none⟩) nx_Xs_Y1 _) hst
  replace Xi := Bx.step (Bx.far Xi (p := ⟨w5.heap.size, 1, none⟩) nx_Xi_Y1 _) hst
  replace X1 := Bx.step (Bx.far X1 (p := ⟨w5.heap.size, 1, none⟩) nx_X1_Y1 _) hst
  replace Y0 := Bx.step (Bx.far Y0 (p := ⟨w5.heap.size, 1, none⟩) nx_Y0_Y1 _) hst
  replace Y1 := Bx.step (Bx.put1 Y1 _) hst
  replace b : Below w.heap.size w w7 := bst (bsc b (p := ⟨w5.heap.size, 1, none⟩) zY1 _) hst
  clear hst
  have dXs : ∀ i, w7.cell? ⟨w.heap.size, i, none⟩ = _ := Bx.cell Xs
  have eXs : ∀ i, w7.frozen? ⟨w.heap.size, i, none⟩ = false := Bx.frozen Xs
  have qXs := Bx.lt Xs
  have dXi : ∀ i, w7.cell? ⟨w.heap.size + 1, i, none⟩ = _ := Bx.cell Xi
  have eXi : ∀ i, w7.frozen? ⟨w.heap.size + 1, i, none⟩ = false := Bx.frozen Xi
  have qXi := Bx.lt Xi
  have dX1 : ∀ i, w7.cell? ⟨w2.heap.size, i, none⟩ = _ := Bx.cell X1
  have eX1 : ∀ i, w7.frozen? ⟨w2.heap.size, i, none⟩ = false := Bx.frozen X1
  have qX1 := Bx.lt X1
  have dY0 : ∀ i, w7.cell? ⟨w3.heap.size, i, none⟩ = _ := Bx.cell Y0
  have eY0 : ∀ i, w7.frozen? ⟨w3.heap.size, i, none⟩ = false := Bx.frozen Y0
  have qY0 := Bx.lt Y0
  have dY1 : ∀ i, w7.cell? ⟨w5.heap.size, i, none⟩ = _ := Bx.cell Y1
  have eY1 : ∀ i, w7.frozen? ⟨w5.heap.size, i, none⟩ = false := Bx.frozen Y1
  have qY1 := Bx.lt Y1
  go_wp2
  rw [rounds_succ]
  go_wp2_with fail
  refine (awake5 _).mono ?_
  rintro e wz ⟨rfl, hbz⟩
  go_wp2
  go_ret
  exact ⟨rfl, bst b hbz⟩
set_option maxRecDepth 100000 in
set_option maxHeartbeats 8000000 in
theorem around_ok1_s1 (rs s0 s1 i0 i1 p : Int) (w : World) (hC : shp rs s0 s1 = 0) (hP : sPlace rs s0 s1 i0 i1 = (p, 0)) (hI : sIndex rs s0 s1 p = (i0, i1, 0)) (hA : sPlace rs s0 s1 (-1) i1 = (0, 4)) (hB : sPlace rs s0 s1 1 i1 = (0, 4)) (hD : sPlace rs s0 s1 i0 (-1) = (0, 4)) (hE : sPlace rs s0 s1 i0 s1 = (0, 4)) (hm0 : s0 < 1) (hm1 : 1 ≤ s1) :
    Calls Tryd.prog 7 #[.agg #[.int .i64 rs, .int .i64 s0, .int .i64 s1], .agg #[.int .i64 i0, .int .i64 i1]] w fun e w' => e = .returned (.bool true) ∧ Below w.heap.size w w' := by
  have hgu := guardLens
  have hqu := eqLens
  have HC := Lib.hid hC
  clear hC
  have HP := Lib.hid hP
  clear hP
  have HA := Lib.hid hA
  clear hA
  have HB := Lib.hid hB
  clear hB
  have HD := Lib.hid hD
  clear hD
  have HE := Lib.hid hE
  clear hE
  have HI := Lib.hid hI
  clear hI
  have hs1 : (i0 == i0 && i1 == i1) = true := by simp
  go_enter Tryd.func7, Tryd.ntmps7
  go_wp2_with fail
  refine (place_any rs s0 s1 i0 i1 p 0 _ HP.out).mono ?_
  rintro e w1 ⟨rfl, hst⟩
  obtain ⟨Xs, Xi, hst⟩ := after2 hst
  have b : Below w.heap.size w w1 := hst
  clear hst
  have dXs : ∀ i, w1.cell? ⟨w.heap.size, i, none⟩ = _ := Bx.cell Xs
  have eXs : ∀ i, w1.frozen? ⟨w.heap.size, i, none⟩ = false := Bx.frozen Xs
  have qXs := Bx.lt Xs
  have dXi : ∀ i, w1.cell? ⟨w.heap.size + 1, i, none⟩ = _ := Bx.cell Xi
  have eXi : ∀ i, w1.frozen? ⟨w.heap.size + 1, i, none⟩ = false := Bx.frozen Xi
  have qXi := Bx.lt Xi
  go_wp2_with fail
  refine (index_any rs s0 s1 p i0 i1 0 _ HI.out).mono ?_
  rintro e w2 ⟨rfl, hst⟩
  clear dXs eXs qXs dXi eXi qXi
  replace Xs := Bx.step Xs hst
  replace Xi := Bx.step Xi hst
  replace b : Below w.heap.size w w2 := bst b hst
  clear hst
  have dXs : ∀ i, w2.cell? ⟨w.heap.size, i, none⟩ = _ := Bx.cell Xs
  have eXs : ∀ i, w2.frozen? ⟨w.heap.size, i, none⟩ = false := Bx.frozen Xs
  have qXs := Bx.lt Xs
  have dXi : ∀ i, w2.cell? ⟨w.heap.size + 1, i, none⟩ = _ := Bx.cell Xi
  have eXi : ∀ i, w2.frozen? ⟨w.heap.size + 1, i, none⟩ = false := Bx.frozen Xi
  have qXi := Bx.lt Xi
  go_wp2_with fail
  refine (check_any rs s0 s1 0 _ HC.out).mono ?_
  rintro e w3 ⟨rfl, hst⟩
  clear dXs eXs qXs dXi eXi qXi
  obtain ⟨X1, hst⟩ := after1 hst
  replace Xs := Bx.step Xs hst
  replace Xi := Bx.step Xi hst
  replace b : Below w.heap.size w w3 := bst b hst
  clear hst
  have dXs : ∀ i, w3.cell? ⟨w.heap.size, i, none⟩ = _ := Bx.cell Xs
  have eXs : ∀ i, w3.frozen? ⟨w.heap.size, i, none⟩ = false := Bx.frozen Xs
  have qXs := Bx.lt Xs
  have dXi : ∀ i, w3.cell? ⟨w.heap.size + 1, i, none⟩ = _ := Bx.cell Xi
  have eXi : ∀ i, w3.frozen? ⟨w.heap.size + 1, i, none⟩ = false := Bx.frozen Xi
  have qXi := Bx.lt Xi
  have dX1 : ∀ i, w3.cell? ⟨w2.heap.size, i, none⟩ = _ := Bx.cell X1
  have eX1 : ∀ i, w3.frozen? ⟨w2.heap.size, i, none⟩ = false := Bx.frozen X1
  have qX1 := Bx.lt X1
  go_wp2
  refine wp_loop_rounds 3 ?_
  rw [rounds_succ]
  go_wp2_with fail
  refine (place_any rs s0 s1 (-1) i1 0 4 _ HA.out).mono ?_
  rintro e w4 ⟨rfl, hst⟩
  clear dXs eXs qXs dXi eXi qXi dX1 eX1 qX1
  obtain ⟨Y0, hst⟩ := after1 hst
  have nx_Xs_Y0 : w.heap.size ≠ w3.heap.size := by have := Bx.lt Xs; omega
  have nx_Y0_Xs := Ne.symm nx_Xs_Y0
  have nx_Xi_Y0 : w.heap.size + 1 ≠ w3.heap.size := by have := Bx.lt Xi; omega
  have nx_Y0_Xi := Ne.symm nx_Xi_Y0
  have nx_X1_Y0 : w2.heap.size ≠ w3.heap.size := by have := Bx.lt X1; omega
  have nx_Y0_X1 := Ne.symm nx_X1_Y0
  have zY0 : w.heap.size ≤ w3.heap.size := by have := b.size; omega
  replace Xs := Bx.step Xs hst
  replace Xi := Bx.step Xi hst
  replace X1 := Bx.step X1 hst
  replace b : Below w.heap.size w w4 := bst b hst
  clear hst
  have dXs : ∀ i, w4.cell? ⟨w.heap.size, i, none⟩ = _ := Bx.cell Xs
  have eXs : ∀ i, w4.frozen? ⟨w.heap.size, i, none⟩ = false := Bx.frozen Xs
  have qXs := Bx.lt Xs
  have dXi : ∀ i, w4.cell? ⟨w.heap.size + 1, i, none⟩ = _ := Bx.cell Xi
  have eXi : ∀ i, w4.frozen? ⟨w.heap.size + 1, i, none⟩ = false := Bx.frozen Xi
  have qXi := Bx.lt Xi
  have dX1 : ∀ i, w4.cell? ⟨w2.heap.size, i, none⟩ = _ := Bx.cell X1
  have eX1 : ∀ i, w4.frozen? ⟨w2.heap.size, i, none⟩ = false := Bx.frozen X1
  have qX1 := Bx.lt X1
  have dY0 : ∀ i, w4.cell? ⟨w3.heap.size, i, none⟩ = _ := Bx.cell Y0
  have eY0 : ∀ i, w4.frozen? ⟨w3.heap.size, i, none⟩ = false := Bx.frozen Y0
  have qY0 := Bx.lt Y0
  go_wp2_with fail
  refine (place_any rs s0 s1 1 i1 0 4 _ HB.out).mono ?_
  rintro e w5 ⟨rfl, hst⟩
  clear dXs eXs qXs dXi eXi qXi dX1 eX1 qX1 dY0 eY0 qY0
  have hsz_Y0 := zY0
  replace Xs := Bx.step (Bx.far Xs (p := ⟨w3.heap.size, 0, none⟩) nx_Xs_Y0 _) hst
  replace Xi := Bx.step (Bx.far Xi (p := ⟨w3.heap.size, 0, none⟩) nx_Xi_Y0 _) hst
  replace X1 := Bx.step (Bx.far X1 (p := ⟨w3.heap.size, 0, none⟩) nx_X1_Y0 _) hst
  replace Y0 := Bx.step (Bx.put0 Y0 _) hst
  replace b : Below w.heap.size w w5 := bst (bsc b (p := ⟨w3.heap.size, 0, none⟩) zY0 _) hst
  clear hst
  have dXs : ∀ i, w5.cell? ⟨w.heap.size, i, none⟩ = _ := Bx.cell Xs
  have eXs : ∀ i, w5.frozen? ⟨w.heap.size, i, none⟩ = false := Bx.frozen Xs
  have qXs := Bx.lt Xs
  have dXi : ∀ i, w5.cell? ⟨w.heap.size + 1, i, none⟩ = _ := Bx.cell Xi
  have eXi : ∀ i, w5.frozen? ⟨w.heap.size + 1, i, none⟩ = false := Bx.frozen Xi
  have qXi := Bx.lt Xi
  have dX1 : ∀ i, w5.cell? ⟨w2.heap.size, i, none⟩ = _ := Bx.cell X1
  have eX1 : ∀ i, w5.frozen? ⟨w2.heap.size, i, none⟩ = false := Bx.frozen X1
  have qX1 := Bx.lt X1
  have dY0 : ∀ i, w5.cell? ⟨w3.heap.size, i, none⟩ = _ := Bx.cell Y0
  have eY0 : ∀ i, w5.frozen? ⟨w3.heap.size, i, none⟩ = false := Bx.frozen Y0
  have qY0 := Bx.lt Y0
  go_wp2
  rw [rounds_succ]
  go_wp2_with fail
  refine (place_any rs s0 s1 i0 (-1) 0 4 _ HD.out).mono ?_
  rintro e w6 ⟨rfl, hst⟩
  clear dXs eXs qXs dXi eXi qXi dX1 eX1 qX1 dY0 eY0 qY0
  obtain ⟨Y1, hst⟩ := after1 hst
  have nx_Xs_Y1 : w.heap.size ≠ w5.heap.size := by have := Bx.lt Xs; omega
  have nx_Y1_Xs := Ne.symm nx_Xs_Y1
  have nx_Xi_Y1 : w.heap.size + 1 ≠ w5.heap.size := by have := Bx.lt Xi; omega
  have nx_Y1_Xi := Ne.symm nx_Xi_Y1
  have nx_X1_Y1 : w2.heap.size ≠ w5.heap.size := by have := Bx.lt X1; omega
  have nx_Y1_X1 := Ne.symm nx_X1_Y1
  have nx_Y0_Y1 : w3.heap.size ≠ w5.heap.size := by have := Bx.lt Y0; omega
  have nx_Y1_Y0 := Ne.symm nx_Y0_Y1
  have zY1 : w.heap.size ≤ w5.heap.size := by have := b.size; omega
  replace Xs := Bx.step Xs hst
  replace Xi := Bx.step Xi hst
  replace X1 := Bx.step X1 hst
  replace Y0 := Bx.step Y0 hst
  replace b : Below w.heap.size w w6 := bst b hst
  clear hst
  have dXs : ∀ i, w6.cell? ⟨w.heap.size, i, none⟩ = _ := Bx.cell Xs
  have eXs : ∀ i, w6.frozen? ⟨w.heap.size, i, none⟩ = false := Bx.frozen Xs
  have qXs := Bx.lt Xs
  have dXi : ∀ i, w6.cell? ⟨w.heap.size + 1, i, none⟩ = _ := Bx.cell Xi
  have eXi : ∀ i, w6.frozen? ⟨w.heap.size + 1, i, none⟩ = false := Bx.frozen Xi
  have qXi := Bx.lt Xi
  have dX1 : ∀ i, w6.cell? ⟨w2.heap.size, i, none⟩ = _ := Bx.cell X1
  have eX1 : ∀ i, w6.frozen? ⟨w2.heap.size, i, none⟩ = false := Bx.frozen X1
  have qX1 := Bx.lt X1
  have dY0 : ∀ i, w6.cell? ⟨w3.heap.size, i, none⟩ = _ := Bx.cell Y0
  have eY0 : ∀ i, w6.frozen? ⟨w3.heap.size, i, none⟩ = false := Bx.frozen Y0
  have qY0 := Bx.lt Y0
  have dY1 : ∀ i, w6.cell? ⟨w5.heap.size, i, none⟩ = _ := Bx.cell Y1
  have eY1 : ∀ i, w6.frozen? ⟨w5.heap.size, i, none⟩ = false := Bx.frozen Y1
  have qY1 := Bx.lt Y1
  go_wp2_with fail
  refine (place_any rs s0 s1 i0 s1 0 4 _ HE.out).mono ?_
  rintro e w7 ⟨rfl, hst⟩
  clear dXs eXs qXs dXi eXi qXi dX1 eX1 qX1 dY0 eY0 qY0 dY1 eY1 qY1
  have hsz_Y1 := zY1
  replace Xs := Bx.step (Bx.far Xs (p := ⟨w5.heap.size, 1, none⟩) nx_Xs_Y1 _) hst
  replace Xi := Bx.step (Bx.far Xi (p := ⟨w5.heap.size, 1, none⟩) nx_Xi_Y1 _) hst
  replace X1 := Bx.step (Bx.far X1 (p := ⟨w5.heap.size, 1, none⟩) nx_X1_Y1 _) hst
  replace Y0 := Bx.step (Bx.far Y0 (p := ⟨w5.heap.size, 1, none⟩) nx_Y0_Y1 _) hst
  replace Y1 := Bx.step (Bx.put1 Y1 _) hst
  replace b : Below w.heap.size w w7 := bst (bsc b (p := ⟨w5.heap.size, 1, none⟩) zY1 _) hst
  clear hst
  have dXs : ∀ i, w7.cell? ⟨w.heap.size, i, none⟩ = _ := Bx.cell Xs
  have eXs : ∀ i, w7.frozen? ⟨w.heap.size, i, none⟩ = false := Bx.frozen Xs
  have qXs := Bx.lt Xs
  have dXi : ∀ i, w7.cell? ⟨w.heap.size + 1, i, none⟩ = _ := Bx.cell Xi
  have eXi : ∀ i, w7.frozen? ⟨w.heap.size + 1, i, none⟩ = false := Bx.frozen Xi
  have qXi := Bx.lt Xi
  have dX1 : ∀ i, w7.cell? ⟨w2.heap.size, i, none⟩ = _ := Bx.cell X1
  have eX1 : ∀ i, w7.frozen? ⟨w2.heap.size, i, none⟩ = false := Bx.frozen X1
  have qX1 := Bx.lt X1
  have dY0 : ∀ i, w7.cell? ⟨w3.heap.size, i, none⟩ = _ := Bx.cell Y0
  have eY0 : ∀ i, w7.frozen? ⟨w3.heap.size, i, none⟩ = false := Bx.frozen Y0
  have qY0 := Bx.lt Y0
  have dY1 : ∀ i, w7.cell? ⟨w5.heap.size, i, none⟩ = _ := Bx.cell Y1
  have eY1 : ∀ i, w7.frozen? ⟨w5.heap.size, i, none⟩ = false := Bx.frozen Y1
  have qY1 := Bx.lt Y1
  go_wp2
  rw [rounds_succ]
  go_wp2_with fail
  refine (awake5 _).mono ?_
  rintro e wz ⟨rfl, hbz⟩
  go_wp2
  go_ret
  exact ⟨rfl, bst b hbz⟩
set_option maxRecDepth 100000 in
set_option maxHeartbeats 8000000 in
theorem around_ok1_1 (rs s0 s1 i0 i1 p : Int) (w : World) (hC : shp rs s0 s1 = 0) (hP : sPlace rs s0 s1 i0 i1 = (p, 0)) (hI : sIndex rs s0 s1 p = (i0, i1, 0)) (hA : sPlace rs s0 s1 (-1) i1 = (0, 4)) (hB : sPlace rs s0 s1 1 i1 = (0, 4)) (hD : sPlace rs s0 s1 i0 (-1) = (0, 4)) (hE : sPlace rs s0 s1 i0 1 = (0, 4)) (hm0 : s0 < 1) (hm1 : s1 < 1) :
    Calls Tryd.prog 7 #[.agg #[.int .i64 rs, .int .i64 s0, .int .i64 s1], .agg #[.int .i64 i0, .int .i64 i1]] w fun e w' => e = .returned (.bool true) ∧ Below w.heap.size w w' := by
  have hgu := guardLens
  have hqu := eqLens
  have HC := Lib.hid hC
  clear hC
  have HP := Lib.hid hP
  clear hP
  have HA := Lib.hid hA
  clear hA
  have HB := Lib.hid hB
  clear hB
  have HD := Lib.hid hD
  clear hD
  have HE := Lib.hid hE
  clear hE
  have HI := Lib.hid hI
  clear hI
  have hs1 : (i0 == i0 && i1 == i1) = true := by simp
  go_enter Tryd.func7, Tryd.ntmps7
  go_wp2_with fail
  refine (place_any rs s0 s1 i0 i1 p 0 _ HP.out).mono ?_
  rintro e w1 ⟨rfl, hst⟩
  obtain ⟨Xs, Xi, hst⟩ := after2 hst
  have b : Below w.heap.size w w1 := hst
  clear hst
  have dXs : ∀ i, w1.cell? ⟨w.heap.size, i, none⟩ = _ := Bx.cell Xs
  have eXs : ∀ i, w1.frozen? ⟨w.heap.size, i, none⟩ = false := Bx.frozen Xs
  have qXs := Bx.lt Xs
  have dXi : ∀ i, w1.cell? ⟨w.heap.size + 1, i, none⟩ = _ := Bx.cell Xi
  have eXi : ∀ i, w1.frozen? ⟨w.heap.size + 1, i, none⟩ = false := Bx.frozen Xi
  have qXi := Bx.lt Xi
  go_wp2_with fail
  refine (index_any rs s0 s1 p i0 i1 0 _ HI.out).mono ?_
  rintro e w2 ⟨rfl, hst⟩
  clear dXs eXs qXs dXi eXi qXi
  replace Xs := Bx.step Xs hst
  replace Xi := Bx.step Xi hst
  replace b : Below w.heap.size w w2 := bst b hst
  clear hst
  have dXs : ∀ i, w2.cell? ⟨w.heap.size, i, none⟩ = _ := Bx.cell Xs
  have eXs : ∀ i, w2.frozen? ⟨w.heap.size, i, none⟩ = false := Bx.frozen Xs
  have qXs := Bx.lt Xs
  have dXi : ∀ i, w2.cell? ⟨w.heap.size + 1, i, none⟩ = _ := Bx.cell Xi
  have eXi : ∀ i, w2.frozen? ⟨w.heap.size + 1, i, none⟩ = false := Bx.frozen Xi
  have qXi := Bx.lt Xi
  go_wp2_with fail
  refine (check_any rs s0 s1 0 _ HC.out).mono ?_
  rintro e w3 ⟨rfl, hst⟩
  clear dXs eXs qXs dXi eXi qXi
  obtain ⟨X1, hst⟩ := after1 hst
  replace Xs := Bx.step Xs hst
  replace Xi := Bx.step Xi hst
  replace b : Below w.heap.size w w3 := bst b hst
  clear hst
  have dXs : ∀ i, w3.cell? ⟨w.heap.size, i, none⟩ = _ := Bx.cell Xs
  have eXs : ∀ i, w3.frozen? ⟨w.heap.size, i, none⟩ = false := Bx.frozen Xs
  have qXs := Bx.lt Xs
  have dXi : ∀ i, w3.cell? ⟨w.heap.size + 1, i, none⟩ = _ := Bx.cell Xi
  have eXi : ∀ i, w3.frozen? ⟨w.heap.size + 1, i, none⟩ = false := Bx.frozen Xi
  have qXi := Bx.lt Xi
  have dX1 : ∀ i, w3.cell? ⟨w2.heap.size, i, none⟩ = _ := Bx.cell X1
  have eX1 : ∀ i, w3.frozen? ⟨w2.heap.size, i, none⟩ = false := Bx.frozen X1
  have qX1 := Bx.lt X1
  go_wp2
  refine wp_loop_rounds 3 ?_
  rw [rounds_succ]
  go_wp2_with fail
  refine (place_any rs s0 s1 (-1) i1 0 4 _ HA.out).mono ?_
  rintro e w4 ⟨rfl, hst⟩
  clear dXs eXs qXs dXi eXi qXi dX1 eX1 qX1
  obtain ⟨Y0, hst⟩ := after1 hst
  have nx_Xs_Y0 : w.heap.size ≠ w3.heap.size := by have := Bx.lt Xs; omega
  have nx_Y0_Xs := Ne.symm nx_Xs_Y0
  have nx_Xi_Y0 : w.heap.size + 1 ≠ w3.heap.size := by have := Bx.lt Xi; omega
  have nx_Y0_Xi := Ne.symm nx_Xi_Y0
  have nx_X1_Y0 : w2.heap.size ≠ w3.heap.size := by have := Bx.lt X1; omega
  have nx_Y0_X1 := Ne.symm nx_X1_Y0
  have zY0 : w.heap.size ≤ w3.heap.size := by have := b.size; omega
  replace Xs := Bx.step Xs hst
  replace Xi := Bx.step Xi hst
  replace X1 := Bx.step X1 hst
  replace b : Below w.heap.size w w4 := bst b hst
  clear hst
  have dXs : ∀ i, w4.cell? ⟨w.heap.size, i, none⟩ = _ := Bx.cell Xs
  have eXs : ∀ i, w4.frozen? ⟨w.heap.size, i, none⟩ = false := Bx.frozen Xs
  have qXs := Bx.lt Xs
  have dXi : ∀ i, w4.cell? ⟨w.heap.size + 1, i, none⟩ = _ := Bx.cell Xi
  have eXi : ∀ i, w4.frozen? ⟨w.heap.size + 1, i, none⟩ = false := Bx.frozen Xi
  have qXi := Bx.lt Xi
  have dX1 : ∀ i, w4.cell? ⟨w2.heap.size, i, none⟩ = _ := Bx.cell X1
  have eX1 : ∀ i, w4.frozen? ⟨w2.heap.size, i, none⟩ = false := Bx.frozen X1
  have qX1 := Bx.lt X1
  have dY0 : ∀ i, w4.cell? ⟨w3.heap.size, i, none⟩ = _ := Bx.cell Y0
  have eY0 : ∀ i, w4.frozen? ⟨w3.heap.size, i, none⟩ = false := Bx.frozen Y0
  have qY0 := Bx.lt Y0
  go_wp2_with fail
  refine (place_any rs s0 s1 1 i1 0 4 _ HB.out).mono ?_
  rintro e w5 ⟨rfl, hst⟩
  clear dXs eXs qXs dXi eXi qXi dX1 eX1 qX1 dY0 eY0 qY0
  have hsz_Y0 := zY0
  replace Xs := Bx.step (Bx.far Xs (p := ⟨w3.heap.size, 0, none⟩) nx_Xs_Y0 _) hst
  replace Xi := Bx.step (Bx.far Xi (p := ⟨w3.heap.size, 0, none⟩) nx_Xi_Y0 _) hst
  replace X1 := Bx.step (Bx.far X1 (p := ⟨w3.heap.size, 0, none⟩) nx_X1_Y0 _) hst
  replace Y0 := Bx.step (Bx.put0 Y0 _) hst
  replace b : Below w.heap.size w w5 := bst (bsc b (p := ⟨w3.heap.size, 0, none⟩) zY0 _) hst
  clear hst
  have dXs : ∀ i, w5.cell? ⟨w.heap.size, i, none⟩ = _ := Bx.cell Xs
  have eXs : ∀ i, w5.frozen? ⟨w.heap.size, i, none⟩ = false := Bx.frozen Xs
  have qXs := Bx.lt Xs
  have dXi : ∀ i, w5.cell? ⟨w.heap.size + 1, i, none⟩ = _ := Bx.cell Xi
  have eXi : ∀ i, w5.frozen? ⟨w.heap.size + 1, i, none⟩ = false := Bx.frozen Xi
  have qXi := Bx.lt Xi
  have dX1 : ∀ i, w5.cell? ⟨w2.heap.size, i, none⟩ = _ := Bx.cell X1
  have eX1 : ∀ i, w5.frozen? ⟨w2.heap.size, i, none⟩ = false := Bx.frozen X1
  have qX1 := Bx.lt X1
  have dY0 : ∀ i, w5.cell? ⟨w3.heap.size, i, none⟩ = _ := Bx.cell Y0
  have eY0 : ∀ i, w5.frozen? ⟨w3.heap.size, i, none⟩ = false := Bx.frozen Y0
  have qY0 := Bx.lt Y0
  go_wp2
  rw [rounds_succ]
  go_wp2_with fail
  refine (place_any rs s0 s1 i0 (-1) 0 4 _ HD.out).mono ?_
  rintro e w6 ⟨rfl, hst⟩
  clear dXs eXs qXs dXi eXi qXi dX1 eX1 qX1 dY0 eY0 qY0
  obtain ⟨Y1, hst⟩ := after1 hst
  have nx_Xs_Y1 : w.heap.size ≠ w5.heap.size := by have := Bx.lt Xs; omega
  have nx_Y1_Xs := Ne.symm nx_Xs_Y1
  have nx_Xi_Y1 : w.heap.size + 1 ≠ w5.heap.size := by have := Bx.lt Xi; omega
  have nx_Y1_Xi := Ne.symm nx_Xi_Y1
  have nx_X1_Y1 : w2.heap.size ≠ w5.heap.size := by have := Bx.lt X1; omega
  have nx_Y1_X1 := Ne.symm nx_X1_Y1
  have nx_Y0_Y1 : w3.heap.size ≠ w5.heap.size := by have := Bx.lt Y0; omega
  have nx_Y1_Y0 := Ne.symm nx_Y0_Y1
  have zY1 : w.heap.size ≤ w5.heap.size := by have := b.size; omega
  replace Xs := Bx.step Xs hst
  replace Xi := Bx.step Xi hst
  replace X1 := Bx.step X1 hst
  replace Y0 := Bx.step Y0 hst
  replace b : Below w.heap.size w w6 := bst b hst
  clear hst
  have dXs : ∀ i, w6.cell? ⟨w.heap.size, i, none⟩ = _ := Bx.cell Xs
  have eXs : ∀ i, w6.frozen? ⟨w.heap.size, i, none⟩ = false := Bx.frozen Xs
  have qXs := Bx.lt Xs
  have dXi : ∀ i, w6.cell? ⟨w.heap.size + 1, i, none⟩ = _ := Bx.cell Xi
  have eXi : ∀ i, w6.frozen? ⟨w.heap.size + 1, i, none⟩ = false := Bx.frozen Xi
  have qXi := Bx.lt Xi
  have dX1 : ∀ i, w6.cell? ⟨w2.heap.size, i, none⟩ = _ := Bx.cell X1
  have eX1 : ∀ i, w6.frozen? ⟨w2.heap.size, i, none⟩ = false := Bx.frozen X1
  have qX1 := Bx.lt X1
  have dY0 : ∀ i, w6.cell? ⟨w3.heap.size, i, none⟩ = _ := Bx.cell Y0
  have eY0 : ∀ i, w6.frozen? ⟨w3.heap.size, i, none⟩ = false := Bx.frozen Y0
  have qY0 := Bx.lt Y0
  have dY1 : ∀ i, w6.cell? ⟨w5.heap.size, i, none⟩ = _ := Bx.cell Y1
  have eY1 : ∀ i, w6.frozen? ⟨w5.heap.size, i, none⟩ = false := Bx.frozen Y1
  have qY1 := Bx.lt Y1
  go_wp2_with fail
  refine (place_any rs s0 s1 i0 1 0 4 _ HE.out).mono ?_
  rintro e w7 ⟨rfl, hst⟩
  clear dXs eXs qXs dXi eXi qXi dX1 eX1 qX1 dY0 eY0 qY0 dY1 eY1 qY1
  have hsz_Y1 := zY1
  replace Xs := Bx.step (Bx.far Xs (p := ⟨w5.heap.size, 1, none⟩) nx_Xs_Y1 _) hst
  replace Xi := Bx.step (Bx.far Xi (p := ⟨w5.heap.size, 1, none⟩) nx_Xi_Y1 _) hst
  replace X1 := Bx.step (Bx.far X1 (p := ⟨w5.heap.size, 1, none⟩) nx_X1_Y1 _) hst
  replace Y0 := Bx.step (Bx.far Y0 (p := ⟨w5.heap.size, 1, none⟩) nx_Y0_Y1 _) hst
  replace Y1 := Bx.step (Bx.put1 Y1 _) hst
  replace b : Below w.heap.size w w7 := bst (bsc b (p := ⟨w5.heap.size, 1, none⟩) zY1 _) hst
  clear hst
  have dXs : ∀ i, w7.cell? ⟨w.heap.size, i, none⟩ = _ := Bx.cell Xs
  have eXs : ∀ i, w7.frozen? ⟨w.heap.size, i, none⟩ = false := Bx.frozen Xs
  have qXs := Bx.lt Xs
  have dXi : ∀ i, w7.cell? ⟨w.heap.size + 1, i, none⟩ = _ := Bx.cell Xi
  have eXi : ∀ i, w7.frozen? ⟨w.heap.size + 1, i, none⟩ = false := Bx.frozen Xi
  have qXi := Bx.lt Xi
  have dX1 : ∀ i, w7.cell? ⟨w2.heap.size, i, none⟩ = _ := Bx.cell X1
  have eX1 : ∀ i, w7.frozen? ⟨w2.heap.size, i, none⟩ = false := Bx.frozen X1
  have qX1 := Bx.lt X1
  have dY0 : ∀ i, w7.cell? ⟨w3.heap.size, i, none⟩ = _ := Bx.cell Y0
  have eY0 : ∀ i, w7.frozen? ⟨w3.heap.size, i, none⟩ = false := Bx.frozen Y0
  have qY0 := Bx.lt Y0
  have dY1 : ∀ i, w7.cell? ⟨w5.heap.size, i, none⟩ = _ := Bx.cell Y1
  have eY1 : ∀ i, w7.frozen? ⟨w5.heap.size, i, none⟩ = false := Bx.frozen Y1
  have qY1 := Bx.lt Y1
  go_wp2
  rw [rounds_succ]
  go_wp2_with fail
  refine (awake5 _).mono ?_
  rintro e wz ⟨rfl, hbz⟩
  go_wp2
  go_ret
  exact ⟨rfl, bst b hbz⟩
set_option maxRecDepth 100000 in
set_option maxHeartbeats 8000000 in
theorem around_nones0_s1 (rs s0 s1 i0 i1 : Int) (w : World) (hC : shp rs s0 s1 = 0) (hP : sPlace rs s0 s1 i0 i1 = (0, 4)) (hA : sPlace rs s0 s1 (-1) i1 = (0, 4)) (hB : sPlace rs s0 s1 s0 i1 = (0, 4)) (hD : sPlace rs s0 s1 i0 (-1) = (0, 4)) (hE : sPlace rs s0 s1 i0 s1 = (0, 4)) (hm0 : 1 ≤ s0) (hm1 : 1 ≤ s1) :
    Calls Tryd.prog 7 #[.agg #[.int .i64 rs, .int .i64 s0, .int .i64 s1], .agg #[.int .i64 i0, .int .i64 i1]] w fun e w' => e = .returned (.bool true) ∧ Below w.heap.size w w' := by
  have hgu := guardLens
  have hqu := eqLens
  have HC := Lib.hid hC
  clear hC
  have HP := Lib.hid hP
  clear hP
  have HA := Lib.hid hA
  clear hA
  have HB := Lib.hid hB
  clear hB
  have HD := Lib.hid hD
  clear hD
  have HE := Lib.hid hE
  clear hE
  have hs1 : (i0 == i0 && i1 == i1) = true := by simp
  go_enter Tryd.func7, Tryd.ntmps7
  go_wp2_with fail
  refine (place_any rs s0 s1 i0 i1 0 4 _ HP.out).mono ?_
  rintro e w1 ⟨rfl, hst⟩
  obtain ⟨Xs, Xi, hst⟩ := after2 hst
  have b : Below w.heap.size w w1 := hst
  clear hst
  have dXs : ∀ i, w1.cell? ⟨w.heap.size, i, none⟩ = _ := Bx.cell Xs
  have eXs : ∀ i, w1.frozen? ⟨w.heap.size, i, none⟩ = false := Bx.frozen Xs
  have qXs := Bx.lt Xs
  have dXi : ∀ i, w1.cell? ⟨w.heap.size + 1, i, none⟩ = _ := Bx.cell Xi
  have eXi : ∀ i, w1.frozen? ⟨w.heap.size + 1, i, none⟩ = false := Bx.frozen Xi
  have qXi := Bx.lt Xi
  go_wp2_with fail
  refine (check_any rs s0 s1 0 _ HC.out).mono ?_
  rintro e w2 ⟨rfl, hst⟩
  clear dXs eXs qXs dXi eXi qXi
  replace Xs := Bx.step Xs hst
  replace Xi := Bx.step Xi hst
  replace b : Below w.heap.size w w2 := bst b hst
  clear hst
  have dXs : ∀ i, w2.cell? ⟨w.heap.size, i, none⟩ = _ := Bx.cell Xs
  have eXs : ∀ i, w2.frozen? ⟨w.heap.size, i, none⟩ = false := Bx.frozen Xs
  have qXs := Bx.lt Xs
  have dXi : ∀ i, w2.cell? ⟨w.heap.size + 1, i, none⟩ = _ := Bx.cell Xi
  have eXi : ∀ i, w2.frozen? ⟨w.heap.size + 1, i, none⟩ = false := Bx.frozen Xi
  have qXi := Bx.lt Xi
  go_wp2
  refine wp_loop_rounds 3 ?_
  rw [rounds_succ]
  go_wp2_with fail
  refine (place_any rs s0 s1 (-1) i1 0 4 _ HA.out).mono ?_
  rintro e w3 ⟨rfl, hst⟩
  clear dXs eXs qXs dXi eXi qXi
  obtain ⟨Y0, hst⟩ := after1 hst
  have nx_Xs_Y0 : w.heap.size ≠ w2.heap.size := by have := Bx.lt Xs; omega
  have nx_Y0_Xs := Ne.symm nx_Xs_Y0
  have nx_Xi_Y0 : w.heap.size + 1 ≠ w2.heap.size := by have := Bx.lt Xi; omega
  have nx_Y0_Xi := Ne.symm nx_Xi_Y0
  have zY0 : w.heap.size ≤ w2.heap.size := by have := b.size; omega
  replace Xs := Bx.step Xs hst
  replace Xi := Bx.step Xi hst
  replace b : Below w.heap.size w w3 := bst b hst
  clear hst
  have dXs : ∀ i, w3.cell? ⟨w.heap.size, i, none⟩ = _ := Bx.cell Xs
  have eXs : ∀ i, w3.frozen? ⟨w.heap.size, i, none⟩ = false := Bx.frozen Xs
  have qXs := Bx.lt Xs
  have dXi : ∀ i, w3.cell? ⟨w.heap.size + 1, i, none⟩ = _ := Bx.cell Xi
  have eXi : ∀ i, w3.frozen? ⟨w.heap.size + 1, i, none⟩ = false := Bx.frozen Xi
  have qXi := Bx.lt Xi
  have dY0 : ∀ i, w3.cell? ⟨w2.heap.size, i, none⟩ = _ := Bx.cell Y0
  have eY0 : ∀ i, w3.frozen? ⟨w2.heap.size, i, none⟩ = false := Bx.frozen Y0
  have qY0 := Bx.lt Y0
  go_wp2_with fail
  refine (place_any rs s0 s1 s0 i1 0 4 _ HB.out).mono ?_
  rintro e w4 ⟨rfl, hst⟩
  clear dXs eXs qXs dXi eXi qXi dY0 eY0 qY0
  have hsz_Y0 := zY0
  replace Xs := Bx.step (Bx.far Xs (p := ⟨w2.heap.size, 0, none⟩) nx_Xs_Y0 _) hst
  replace Xi := Bx.step (Bx.far Xi (p := ⟨w2.heap.size, 0, none⟩) nx_Xi_Y0 _) hst
  replace Y0 := Bx.step (Bx.put0 Y0 _) hst
  replace b : Below w.heap.size w w4 := bst (bsc b (p := ⟨w2.heap.size, 0, none⟩) zY0 _) hst
  clear hst
  have dXs : ∀ i, w4.cell? ⟨w.heap.size, i, none⟩ = _ := Bx.cell Xs
  have eXs : ∀ i, w4.frozen? ⟨w.heap.size, i, none⟩ = false := Bx.frozen Xs
  have qXs := Bx.lt Xs
  have dXi : ∀ i, w4.cell? ⟨w.heap.size + 1, i, none⟩ = _ := Bx.cell Xi
  have eXi : ∀ i, w4.frozen? ⟨w.heap.size + 1, i, none⟩ = false := Bx.frozen Xi
  have qXi := Bx.lt Xi
  have dY0 : ∀ i, w4.cell? ⟨w2.heap.size, i, none⟩ = _ := Bx.cell Y0
  have eY0 : ∀ i, w4.frozen? ⟨w2.heap.size, i, none⟩ = false := Bx.frozen Y0
  have qY0 := Bx.lt Y0
  go_wp2
  rw [rounds_succ]
  go_wp2_with fail
  refine (place_any rs s0 s1 i0 (-1) 0 4 _ HD.out).mono ?_
  rintro e w5 ⟨rfl, hst⟩
  clear dXs eXs qXs dXi eXi qXi dY0 eY0 qY0
  obtain ⟨Y1, hst⟩ := after1 hst
  have nx_Xs_Y1 : w.heap.size ≠ w4.heap.size := by have := Bx.lt Xs; omega
  have nx_Y1_Xs := Ne.symm nx_Xs_Y1
  have nx_Xi_Y1 : w.heap.size + 1 ≠ w4.heap.size := by have := Bx.lt Xi; omega
  have nx_Y1_Xi := Ne.symm nx_Xi_Y1
  have nx_Y0_Y1 : w2.heap.size ≠ w4.heap.size := by have := Bx.lt Y0; omega
  have nx_Y1_Y0 := Ne.symm nx_Y0_Y1
  have zY1 : w.heap.size ≤ w4.heap.size := by have := b.size; omega
  replace Xs := Bx.step Xs hst
  replace Xi := Bx.step Xi hst
  replace Y0 := Bx.step Y0 hst
  replace b : Below w.heap.size w w5 := bst b hst
  clear hst
  have dXs : ∀ i, w5.cell? ⟨w.heap.size, i, none⟩ = _ := Bx.cell Xs
  have eXs : ∀ i, w5.frozen? ⟨w.heap.size, i, none⟩ = false := Bx.frozen Xs
  have qXs := Bx.lt Xs
  have dXi : ∀ i, w5.cell? ⟨w.heap.size + 1, i, none⟩ = _ := Bx.cell Xi
  have eXi : ∀ i, w5.frozen? ⟨w.heap.size + 1, i, none⟩ = false := Bx.frozen Xi
  have qXi := Bx.lt Xi
  have dY0 : ∀ i, w5.cell? ⟨w2.heap.size, i, none⟩ = _ := Bx.cell Y0
  have eY0 : ∀ i, w5.frozen? ⟨w2.heap.size, i, none⟩ = false := Bx.frozen Y0
  have qY0 := Bx.lt Y0
  have dY1 : ∀ i, w5.cell? ⟨w4.heap.size, i, none⟩ = _ := Bx.cell Y1
  have eY1 : ∀ i, w5.frozen? ⟨w4.heap.size, i, none⟩ = false := Bx.frozen Y1
  have qY1 := Bx.lt Y1
  go_wp2_with fail
  refine (place_any rs s0 s1 i0 s1 0 4 _ HE.out).mono ?_
  rintro e w6 ⟨rfl, hst⟩
  clear dXs eXs qXs dXi eXi qXi dY0 eY0 qY0 dY1 eY1 qY1
  have hsz_Y1 := zY1
  replace Xs := Bx.step (Bx.far Xs (p := ⟨w4.heap.size, 1, none⟩) nx_Xs_Y1 _) hst
  replace Xi := Bx.step (Bx.far Xi (p := ⟨w4.heap.size, 1, none⟩) nx_Xi_Y1 _) hst
  replace Y0 := Bx.step (Bx.far Y0 (p := ⟨w4.heap.size, 1, none⟩) nx_Y0_Y1 _) hst
  replace Y1 := Bx.step (Bx.put1 Y1 _) hst
  replace b : Below w.heap.size w w6 := bst (bsc b (p := ⟨w4.heap.size, 1, none⟩) zY1 _) hst
  clear hst
  have dXs : ∀ i, w6.cell? ⟨w.heap.size, i, none⟩ = _ := Bx.cell Xs
  have eXs : ∀ i, w6.frozen? ⟨w.heap.size, i, none⟩ = false := Bx.frozen Xs
  have qXs := Bx.lt Xs
  have dXi : ∀ i, w6.cell? ⟨w.heap.size + 1, i, none⟩ = _ := Bx.cell Xi
  have eXi : ∀ i, w6.frozen? ⟨w.heap.size + 1, i, none⟩ = false := Bx.frozen Xi
  have qXi := Bx.lt Xi
  have dY0 : ∀ i, w6.cell? ⟨w2.heap.size, i, none⟩ = _ := Bx.cell Y0
  have eY0 : ∀ i, w6.frozen? ⟨w2.heap.size, i, none⟩ = false := Bx.frozen Y0
  have qY0 := Bx.lt Y0
  have dY1 : ∀ i, w6.cell? ⟨w4.heap.size, i, none⟩ = _ := Bx.cell Y1
  have eY1 : ∀ i, w6.frozen? ⟨w4.heap.size, i, none⟩ = false := Bx.frozen Y1
  have qY1 := Bx.lt Y1
  go_wp2
  rw [rounds_succ]
  go_wp2_with fail
  refine (awake5 _).mono ?_
  rintro e wz ⟨rfl, hbz⟩
  go_wp2
  go_ret
  exact ⟨rfl, bst b hbz⟩
set_option maxRecDepth 100000 in
set_option maxHeartbeats 8000000 in
theorem around_nones0_1 (rs s0 s1 i0 i1 : Int) (w : World) (hC : shp rs s0 s1 = 0) (hP : sPlace rs s0 s1 i0 i1 = (0, 4)) (hA : sPlace rs s0 s1 (-1) i1 = (0, 4)) (hB : sPlace rs s0 s1 s0 i1 = (0, 4)) (hD : sPlace rs s0 s1 i0 (-1) = (0, 4)) (hE : sPlace rs s0 s1 i0 1 = (0, 4)) (hm0 : 1 ≤ s0) (hm1 : s1 < 1) :
    Calls Tryd.prog 7 #[.agg #[.int .i64 rs, .int .i64 s0, .int .i64 s1], .agg #[.int .i64 i0, .int .i64 i1]] w fun e w' => e = .returned (.bool true) ∧ Below w.heap.size w w' := by
  have hgu := guardLens
  have hqu := eqLens
  have HC := Lib.hid hC
  clear hC
  have HP := Lib.hid hP
  clear hP
  have HA := Lib.hid hA
  clear hA
  have HB := Lib.hid hB
  clear hB
  have HD := Lib.hid hD
  clear hD
  have HE := Lib.hid hE
  clear hE
  have hs1 : (i0 == i0 && i1 == i1) = true := by simp
  go_enter Tryd.func7, Tryd.ntmps7
  go_wp2_with fail
  refine (place_any rs s0 s1 i0 i1 0 4 _ HP.out).mono ?_
  rintro e w1 ⟨rfl, hst⟩
  obtain ⟨Xs, Xi, hst⟩ := after2 hst
  have b : Below w.heap.size w w1 := hst
  clear hst
  have dXs : ∀ i, w1.cell? ⟨w.heap.size, i, none⟩ = _ := Bx.cell Xs
  have eXs : ∀ i, w1.frozen? ⟨w.heap.size, i, none⟩ = false := Bx.frozen Xs
  have qXs := Bx.lt Xs
  have dXi : ∀ i, w1.cell? ⟨w.heap.size + 1, i, none⟩ = _ := Bx.cell Xi
  have eXi : ∀ i, w1.frozen? ⟨w.heap.size + 1, i, none⟩ = false := Bx.frozen Xi
  have qXi := Bx.lt Xi
  go_wp2_with fail
  refine (check_any rs s0 s1 0 _ HC.out).mono ?_
  rintro e w2 ⟨rfl, hst⟩
  clear dXs eXs qXs dXi eXi qXi
  replace Xs := Bx.step Xs hst
  replace Xi := Bx.step Xi hst
  replace b : Below w.heap.size w w2 := bst b hst
  clear hst
  have dXs : ∀ i, w2.cell? ⟨w.heap.size, i, none⟩ = _ := Bx.cell Xs
  have eXs : ∀ i, w2.frozen? ⟨w.heap.size, i, none⟩ = false := Bx.frozen Xs
  have qXs := Bx.lt Xs
  have dXi : ∀ i, w2.cell? ⟨w.heap.size + 1, i, none⟩ = _ := Bx.cell Xi
  have eXi : ∀ i, w2.frozen? ⟨w.heap.size + 1, i, none⟩ = false := Bx.frozen Xi
  have qXi := Bx.lt Xi
  go_wp2
  refine wp_loop_rounds 3 ?_
  rw [rounds_succ]
  go_wp2_with fail
  refine (place_any rs s0 s1 (-1) i1 0 4 _ HA.out).mono ?_
  rintro e w3 ⟨rfl, hst⟩
  clear dXs eXs qXs dXi eXi qXi
  obtain ⟨Y0, hst⟩ := after1 hst
  have nx_Xs_Y0 : w.heap.size ≠ w2.heap.size := by have := Bx.lt Xs; omega
  have nx_Y0_Xs := Ne.symm nx_Xs_Y0
  have nx_Xi_Y0 : w.heap.size + 1 ≠ w2.heap.size := by have := Bx.lt Xi; omega
  have nx_Y0_Xi := Ne.symm nx_Xi_Y0
  have zY0 : w.heap.size ≤ w2.heap.size := by have := b.size; omega
  replace Xs := Bx.step Xs hst
  replace Xi := Bx.step Xi hst
  replace b : Below w.heap.size w w3 := bst b hst
  clear hst
  have dXs : ∀ i, w3.cell? ⟨w.heap.size, i, none⟩ = _ := Bx.cell Xs
  have eXs : ∀ i, w3.frozen? ⟨w.heap.size, i, none⟩ = false := Bx.frozen Xs
  have qXs := Bx.lt Xs
  have dXi : ∀ i, w3.cell? ⟨w.heap.size + 1, i, none⟩ = _ := Bx.cell Xi
  have eXi : ∀ i, w3.frozen? ⟨w.heap.size + 1, i, none⟩ = false := Bx.frozen Xi
  have qXi := Bx.lt Xi
  have dY0 : ∀ i, w3.cell? ⟨w2.heap.size, i, none⟩ = _ := Bx.cell Y0
  have eY0 : ∀ i, w3.frozen? ⟨w2.heap.size, i, none⟩ = false := Bx.frozen Y0
  have qY0 := Bx.lt Y0
  go_wp2_with fail
  refine (place_any rs s0 s1 s0 i1 0 4 _ HB.out).mono ?_
  rintro e w4 ⟨rfl, hst⟩
  clear dXs eXs qXs dXi eXi qXi dY0 eY0 qY0
  have hsz_Y0 := zY0
  replace Xs := Bx.step (Bx.far Xs (p := ⟨w2.heap.size, 0, none⟩) nx_Xs_Y0 _) hst
  replace Xi := Bx.step (Bx.far Xi (p := ⟨w2.heap.size, 0, none⟩) nx_Xi_Y0 _) hst
  replace Y0 := Bx.step (Bx.put0 Y0 _) hst
  replace b : Below w.heap.size w w4 := bst (bsc b (p := ⟨w2.heap.size, 0, none⟩) zY0 _) hst
  clear hst
  have dXs : ∀ i, w4.cell? ⟨w.heap.size, i, none⟩ = _ := Bx.cell Xs
  have eXs : ∀ i, w4.frozen? ⟨w.heap.size, i, none⟩ = false := Bx.frozen Xs
  have qXs := Bx.lt Xs
  have dXi : ∀ i, w4.cell? ⟨w.heap.size + 1, i, none⟩ = _ := Bx.cell Xi
  have eXi : ∀ i, w4.frozen? ⟨w.heap.size + 1, i, none⟩ = false := Bx.frozen Xi
  have qXi := Bx.lt Xi
  have dY0 : ∀ i, w4.cell? ⟨w2.heap.size, i, none⟩ = _ := Bx.cell Y0
  have eY0 : ∀ i, w4.frozen? ⟨w2.heap.size, i, none⟩ = false := Bx.frozen Y0
  have qY0 := Bx.lt Y0
  go_wp2
  rw [rounds_succ]
  go_wp2_with fail
  refine (place_any rs s0 s1 i0 (-1) 0 4 _ HD.out).mono ?_
  rintro e w5 ⟨rfl, hst⟩
  clear dXs eXs qXs dXi eXi qXi dY0 eY0 qY0
  obtain ⟨Y1, hst⟩ := after1 hst
  have nx_Xs_Y1 : w.heap.size ≠ w4.heap.size := by have := Bx.lt Xs; omega
  have nx_Y1_Xs := Ne.symm nx_Xs_Y1
  have nx_Xi_Y1 : w.heap.size + 1 ≠ w4.heap.size := by have := Bx.lt Xi; omega
  have nx_Y1_Xi := Ne.symm nx_Xi_Y1
  have nx_Y0_Y1 : w2.heap.size ≠ w4.heap.size := by have := Bx.lt Y0; omega
  have nx_Y1_Y0 := Ne.symm nx_Y0_Y1
  have zY1 : w.heap.size ≤ w4.heap.size := by have := b.size; omega
  replace Xs := Bx.step Xs hst
  replace Xi := Bx.step Xi hst
  replace Y0 := Bx.step Y0 hst
  replace b : Below w.heap.size w w5 := bst b hst
  clear hst
  have dXs : ∀ i, w5.cell? ⟨w.heap.size, i, none⟩ = _ := Bx.cell Xs
  have eXs : ∀ i, w5.frozen? ⟨w.heap.size, i, none⟩ = false := Bx.frozen Xs
  have qXs := Bx.lt Xs
  have dXi : ∀ i, w5.cell? ⟨w.heap.size + 1, i, none⟩ = _ := Bx.cell Xi
  have eXi : ∀ i, w5.frozen? ⟨w.heap.size + 1, i, none⟩ = false := Bx.frozen Xi
  have qXi := Bx.lt Xi
  have dY0 : ∀ i, w5.cell? ⟨w2.heap.size, i, none⟩ = _ := Bx.cell Y0
  have eY0 : ∀ i, w5.frozen? ⟨w2.heap.size, i, none⟩ = false := Bx.frozen Y0
  have qY0 := Bx.lt Y0
  have dY1 : ∀ i, w5.cell? ⟨w4.heap.size, i, none⟩ = _ := Bx.cell Y1
  have eY1 : ∀ i, w5.frozen? ⟨w4.heap.size, i, none⟩ = false := Bx.frozen Y1
  have qY1 := Bx.lt Y1
  go_wp2_with fail
  refine (place_any rs s0 s1 i0 1 0 4 _ HE.out).mono ?_
  rintro e w6 ⟨rfl, hst⟩
  clear dXs eXs qXs dXi eXi qXi dY0 eY0 qY0 dY1 eY1 qY1
  have hsz_Y1 := zY1
  replace Xs := Bx.step (Bx.far Xs (p := ⟨w4.heap.size, 1, none⟩) nx_Xs_Y1 _) hst
  replace Xi := Bx.step (Bx.far Xi (p := ⟨w4.heap.size, 1, none⟩) nx_Xi_Y1 _) hst
  replace Y0 := Bx.step (Bx.far Y0 (p := ⟨w4.heap.size, 1, none⟩) nx_Y0_Y1 _) hst
  replace Y1 := Bx.step (Bx.put1 Y1 _) hst
  replace b : Below w.heap.size w w6 := bst (bsc b (p := ⟨w4.heap.size, 1, none⟩) zY1 _) hst
  clear hst
  have dXs : ∀ i, w6.cell? ⟨w.heap.size, i, none⟩ = _ := Bx.cell Xs
  have eXs : ∀ i, w6.frozen? ⟨w.heap.size, i, none⟩ = false := Bx.frozen Xs
  have qXs := Bx.lt Xs
  have dXi : ∀ i, w6.cell? ⟨w.heap.size + 1, i, none⟩ = _ := Bx.cell Xi
  have eXi : ∀ i, w6.frozen? ⟨w.heap.size + 1, i, none⟩ = false := Bx.frozen Xi
  have qXi := Bx.lt Xi
  have dY0 : ∀ i, w6.cell? ⟨w2.heap.size, i, none⟩ = _ := Bx.cell Y0
  have eY0 : ∀ i, w6.frozen? ⟨w2.heap.size, i, none⟩ = false := Bx.frozen Y0
  have qY0 := Bx.lt Y0
  have dY1 : ∀ i, w6.cell? ⟨w4.heap.size, i, none⟩ = _ := Bx.cell Y1
  have eY1 : ∀ i, w6.frozen? ⟨w4.heap.size, i, none⟩ = false := Bx.frozen Y1
  have qY1 := Bx.lt Y1
  go_wp2
  rw [rounds_succ]
  go_wp2_with fail
  refine (awake5 _).mono ?_
  rintro e wz ⟨rfl, hbz⟩
  go_wp2
  go_ret
  exact ⟨rfl, bst b hbz⟩
set_option maxRecDepth 100000 in
set_option maxHeartbeats 8000000 in
theorem around_none1_s1 (rs s0 s1 i0 i1 : Int) (w : World) (hC : shp rs s0 s1 = 0) (hP : sPlace rs s0 s1 i0 i1 = (0, 4)) (hA : sPlace rs s0 s1 (-1) i1 = (0, 4)) (hB : sPlace rs s0 s1 1 i1 = (0, 4)) (hD : sPlace rs s0 s1 i0 (-1) = (0, 4)) (hE : sPlace rs s0 s1 i0 s1 = (0, 4)) (hm0 : s0 < 1) (hm1 : 1 ≤ s1) :
    Calls Tryd.prog 7 #[.agg #[.int .i64 rs, .int .i64 s0, .int .i64 s1], .agg #[.int .i64 i0, .int .i64 i1]] w fun e w' => e = .returned (.bool true) ∧ Below w.heap.size w w' := by
  have hgu := guardLens
  have hqu := eqLens
  have HC := Lib.hid hC
  clear hC
  have HP := Lib.hid hP
  clear hP
  have HA := Lib.hid hA
  clear hA
  have HB := Lib.hid hB
  clear hB
  have HD := Lib.hid hD
  clear hD
  have HE := Lib.hid hE
  clear hE
  have hs1 : (i0 == i0 && i1 == i1) = true := by simp
  go_enter Tryd.func7, Tryd.ntmps7
  go_wp2_with fail
  refine (place_any rs s0 s1 i0 i1 0 4 _ HP.out).mono ?_
  rintro e w1 ⟨rfl, hst⟩
  obtain ⟨Xs, Xi, hst⟩ := after2 hst
  have b : Below w.heap.size w w1 := hst
  clear hst
  have dXs : ∀ i, w1.cell? ⟨w.heap.size, i, none⟩ = _ := Bx.cell Xs
  have eXs : ∀ i, w1.frozen? ⟨w.heap.size, i, none⟩ = false := Bx.frozen Xs
  have qXs := Bx.lt Xs
  have dXi : ∀ i, w1.cell? ⟨w.heap.size + 1, i, none⟩ = _ := Bx.cell Xi
  have eXi : ∀ i, w1.frozen? ⟨w.heap.size + 1, i, none⟩ = false := Bx.frozen Xi
  have qXi := Bx.lt Xi
  go_wp2_with fail
  refine (check_any rs s0 s1 0 _ HC.out).mono ?_
  rintro e w2 ⟨rfl, hst⟩
  clear dXs eXs qXs dXi eXi qXi
  replace Xs := Bx.step Xs hst
  replace Xi := Bx.step Xi hst
  replace b : Below w.heap.size w w2 := bst b hst
  clear hst
  have dXs : ∀ i, w2.cell? ⟨w.heap.size, i, none⟩ = _ := Bx.cell Xs
  have eXs : ∀ i, w2.frozen? ⟨w.heap.size, i, none⟩ = false := Bx.frozen Xs
  have qXs := Bx.lt Xs
  have dXi : ∀ i, w2.cell? ⟨w.heap.size + 1, i, none⟩ = _ := Bx.cell Xi
  have eXi : ∀ i, w2.frozen? ⟨w.heap.size + 1, i, none⟩ = false := Bx.frozen Xi
  have qXi := Bx.lt Xi
  go_wp2
  refine wp_loop_rounds 3 ?_
  rw [rounds_succ]
  go_wp2_with fail
  refine (place_any rs s0 s1 (-1) i1 0 4 _ HA.out).mono ?_
  rintro e w3 ⟨rfl, hst⟩
  clear dXs eXs qXs dXi eXi qXi
  obtain ⟨Y0, hst⟩ := after1 hst
  have nx_Xs_Y0 : w.heap.size ≠ w2.heap.size := by have := Bx.lt Xs; omega
  have nx_Y0_Xs := Ne.symm nx_Xs_Y0
  have nx_Xi_Y0 : w.heap.size + 1 ≠ w2.heap.size := by have := Bx.lt Xi; omega
  have nx_Y0_Xi := Ne.symm nx_Xi_Y0
  have zY0 : w.heap.size ≤ w2.heap.size := by have := b.size; omega
  replace Xs := Bx.step Xs hst
  replace Xi := Bx.step Xi hst
  replace b : Below w.heap.size w w3 := bst b hst
  clear hst
  have dXs : ∀ i, w3.cell? ⟨w.heap.size, i, none⟩ = _ := Bx.cell Xs
  have eXs : ∀ i, w3.frozen? ⟨w.heap.size, i, none⟩ = false := Bx.frozen Xs
  have qXs := Bx.lt Xs
  have dXi : ∀ i, w3.cell? ⟨w.heap.size + 1, i, none⟩ = _ := Bx.cell Xi
  have eXi : ∀ i, w3.frozen? ⟨w.heap.size + 1, i, none⟩ = false := Bx.frozen Xi
  have qXi := Bx.lt Xi
  have dY0 : ∀ i, w3.cell? ⟨w2.heap.size, i, none⟩ = _ := Bx.cell Y0
  have eY0 : ∀ i, w3.frozen? ⟨w2.heap.size, i, none⟩ = false := Bx.frozen Y0
  have qY0 := Bx.lt Y0
  go_wp2_with fail
  refine (place_any rs s0 s1 1 i1 0 4 _ HB.out).mono ?_
  rintro e w4 ⟨rfl, hst⟩
  clear dXs eXs qXs dXi eXi qXi dY0 eY0 qY0
  have hsz_Y0 := zY0
  replace Xs := Bx.step (Bx.far Xs (p := ⟨w2.heap.size, 0, none⟩) nx_Xs_Y0 _) hst
  replace Xi := Bx.step (Bx.far Xi (p := ⟨w2.heap.size, 0, none⟩) nx_Xi_Y0 _) hst
  replace Y0 := Bx.step (Bx.put0 Y0 _) hst
  replace b : Below w.heap.size w w4 := bst (bsc b (p := ⟨w2.heap.size, 0, none⟩) zY0 _) hst
  clear hst
  have dXs : ∀ i, w4.cell? ⟨w.heap.size, i, none⟩ = _ := Bx.cell Xs
  have eXs : ∀ i, w4.frozen? ⟨w.heap.size, i, none⟩ = false := Bx.frozen Xs
  have qXs := Bx.lt Xs
  have dXi : ∀ i, w4.cell? ⟨w.heap.size + 1, i, none⟩ = _ := Bx.cell Xi
  have eXi : ∀ i, w4.frozen? ⟨w.heap.size + 1, i, none⟩ = false := Bx.frozen Xi
  have qXi := Bx.lt Xi
  have dY0 : ∀ i, w4.cell? ⟨w2.heap.size, i, none⟩ = _ := Bx.cell Y0
  have eY0 : ∀ i, w4.frozen? ⟨w2.heap.size, i, none⟩ = false := Bx.frozen Y0
  have qY0 := Bx.lt Y0
  go_wp2
  rw [rounds_succ]
  go_wp2_with fail
  refine (place_any rs s0 s1 i0 (-1) 0 4 _ HD.out).mono ?_
  rintro e w5 ⟨rfl, hst⟩
  clear dXs eXs qXs dXi eXi qXi dY0 eY0 qY0
  obtain ⟨Y1, hst⟩ := after1 hst
  have nx_Xs_Y1 : w.heap.size ≠ w4.heap.size := by have := Bx.lt Xs; omega
  have nx_Y1_Xs := Ne.symm nx_Xs_Y1
  have nx_Xi_Y1 : w.heap.size + 1 ≠ w4.heap.size := by have := Bx.lt Xi; omega
  have nx_Y1_Xi := Ne.symm nx_Xi_Y1
  have nx_Y0_Y1 : w2.heap.size ≠ w4.heap.size := by have := Bx.lt Y0; omega
  have nx_Y1_Y0 := Ne.symm nx_Y0_Y1
  have zY1 : w.heap.size ≤ w4.heap.size := by have := b.size; omega
  replace Xs := Bx.step Xs hst
  replace Xi := Bx.step Xi hst
  replace Y0 := Bx.step Y0 hst
  replace b : Below w.heap.size w w5 := bst b hst
  clear hst
  have dXs : ∀ i, w5.cell? ⟨w.heap.size, i, none⟩ = _ := Bx.cell Xs
  have eXs : ∀ i, w5.frozen? ⟨w.heap.size, i, none⟩ = false := Bx.frozen Xs
  have qXs := Bx.lt Xs
  have dXi : ∀ i, w5.cell? ⟨w.heap.size + 1, i, none⟩ = _ := Bx.cell Xi
  have eXi : ∀ i, w5.frozen? ⟨w.heap.size + 1, i, none⟩ = false := Bx.frozen Xi
  have qXi := Bx.lt Xi
  have dY0 : ∀ i, w5.cell? ⟨w2.heap.size, i, none⟩ = _ := Bx.cell Y0
  have eY0 : ∀ i, w5.frozen? ⟨w2.heap.size, i, none⟩ = false := Bx.frozen Y0
  have qY0 := Bx.lt Y0
  have dY1 : ∀ i, w5.cell? ⟨w4.heap.size, i, none⟩ = _ := Bx.cell Y1
  have eY1 : ∀ i, w5.frozen? ⟨w4.heap.size, i, none⟩ = false := Bx.frozen Y1
  have qY1 := Bx.lt Y1
  go_wp2_with fail
  refine (place_any rs s0 s1 i0 s1 0 4 _ HE.out).mono ?_
  rintro e w6 ⟨rfl, hst⟩
  clear dXs eXs qXs dXi eXi qXi dY0 eY0 qY0 dY1 eY1 qY1
  have hsz_Y1 := zY1
  replace Xs := Bx.step (Bx.far Xs (p := ⟨w4.heap.size, 1, none⟩) nx_Xs_Y1 _) hst
  replace Xi := Bx.step (Bx.far Xi (p := ⟨w4.heap.size, 1, none⟩) nx_Xi_Y1 _) hst
  replace Y0 := Bx.step (Bx.far Y0 (p := ⟨w4.heap.size, 1, none⟩) nx_Y0_Y1 _) hst
  replace Y1 := Bx.step (Bx.put1 Y1 _) hst
  replace b : Below w.heap.size w w6 := bst (bsc b (p := ⟨w4.heap.size, 1, none⟩) zY1 _) hst
  clear hst
  have dXs : ∀ i, w6.cell? ⟨w.heap.size, i, none⟩ = _ := Bx.cell Xs
  have eXs : ∀ i, w6.frozen? ⟨w.heap.size, i, none⟩ = false := Bx.frozen Xs
  have qXs := Bx.lt Xs
  have dXi : ∀ i, w6.cell? ⟨w.heap.size + 1, i, none⟩ = _ := Bx.cell Xi
  have eXi : ∀ i, w6.frozen? ⟨w.heap.size + 1, i, none⟩ = false := Bx.frozen Xi
  have qXi := Bx.lt Xi
  have dY0 : ∀ i, w6.cell? ⟨w2.heap.size, i, none⟩ = _ := Bx.cell Y0
  have eY0 : ∀ i, w6.frozen? ⟨w2.heap.size, i, none⟩ = false := Bx.frozen Y0
  have qY0 := Bx.lt Y0
  have dY1 : ∀ i, w6.cell? ⟨w4.heap.size, i, none⟩ = _ := Bx.cell Y1
  have eY1 : ∀ i, w6.frozen? ⟨w4.heap.size, i, none⟩ = false := Bx.frozen Y1
  have qY1 := Bx.lt Y1
  go_wp2
  rw [rounds_succ]
  go_wp2_with fail
  refine (awake5 _).mono ?_
  rintro e wz ⟨rfl, hbz⟩
  go_wp2
  go_ret
  exact ⟨rfl, bst b hbz⟩
set_option maxRecDepth 100000 in
set_option maxHeartbeats 8000000 in
theorem around_none1_1 (rs s0 s1 i0 i1 : Int) (w : World) (hC : shp rs s0 s1 = 0) (hP : sPlace rs s0 s1 i0 i1 = (0, 4)) (hA : sPlace rs s0 s1 (-1) i1 = (0, 4)) (hB : sPlace rs s0 s1 1 i1 = (0, 4)) (hD : sPlace rs s0 s1 i0 (-1) = (0, 4)) (hE : sPlace rs s0 s1 i0 1 = (0, 4)) (hm0 : s0 < 1) (hm1 : s1 < 1) :
    Calls Tryd.prog 7 #[.agg #[.int .i64 rs, .int .i64 s0, .int .i64 s1], .agg #[.int .i64 i0, .int .i64 i1]] w fun e w' => e = .returned (.bool true) ∧ Below w.heap.size w w' := by
  have hgu := guardLens
  have hqu := eqLens
  have HC := Lib.hid hC
  clear hC
  have HP := Lib.hid hP
  clear hP
  have HA := Lib.hid hA
  clear hA
  have HB := Lib.hid hB
  clear hB
  have HD := Lib.hid hD
  clear hD
  have HE := Lib.hid hE
  clear hE
  have hs1 : (i0 == i0 && i1 == i1) = true := by simp
  go_enter Tryd.func7, Tryd.ntmps7
  go_wp2_with fail
  refine (place_any rs s0 s1 i0 i1 0 4 _ HP.out).mono ?_
  rintro e w1 ⟨rfl, hst⟩
  obtain ⟨Xs, Xi, hst⟩ := after2 hst
  have b : Below w.heap.size w w1 := hst
  clear hst
  have dXs : ∀ i, w1.cell? ⟨w.heap.size, i, none⟩ = _ := Bx.cell Xs
  have eXs : ∀ i, w1.frozen? ⟨w.heap.size, i, none⟩ = false := Bx.frozen Xs
  have qXs := Bx.lt Xs
  have dXi : ∀ i, w1.cell? ⟨w.heap.size + 1, i, none⟩ = _ := Bx.cell Xi
  have eXi : ∀ i, w1.frozen? ⟨w.heap.size + 1, i, none⟩ = false := Bx.frozen Xi
  have qXi := Bx.lt Xi
  go_wp2_with fail
  refine (check_any rs s0 s1 0 _ HC.out).mono ?_
  rintro e w2 ⟨rfl, hst⟩
  clear dXs eXs qXs dXi eXi qXi
  replace Xs := Bx.step Xs hst
  replace Xi := Bx.step Xi hst
  replace b : Below w.heap.size w w2 := bst b hst
  clear hst
  have dXs : ∀ i, w2.cell? ⟨w.heap.size, i, none⟩ = _ := Bx.cell Xs
  have eXs : ∀ i, w2.frozen? ⟨w.heap.size, i, none⟩ = false := Bx.frozen Xs
  have qXs := Bx.lt Xs
  have dXi : ∀ i, w2.cell? ⟨w.heap.size + 1, i, none⟩ = _ := Bx.cell Xi
  have eXi : ∀ i, w2.frozen? ⟨w.heap.size + 1, i, none⟩ = false := Bx.frozen Xi
  have qXi := Bx.lt Xi
  go_wp2
  refine wp_loop_rounds 3 ?_
  rw [rounds_succ]
  go_wp2_with fail
  refine (place_any rs s0 s1 (-1) i1 0 4 _ HA.out).mono ?_
  rintro e w3 ⟨rfl, hst⟩
  clear dXs eXs qXs dXi eXi qXi
  obtain ⟨Y0, hst⟩ := after1 hst
  have nx_Xs_Y0 : w.heap.size ≠ w2.heap.size := by have := Bx.lt Xs; omega
  have nx_Y0_Xs := Ne.symm nx_Xs_Y0
  have nx_Xi_Y0 : w.heap.size + 1 ≠ w2.heap.size := by have := Bx.lt Xi; omega
  have nx_Y0_Xi := Ne.symm nx_Xi_Y0
  have zY0 : w.heap.size ≤ w2.heap.size := by have := b.size; omega
  replace Xs := Bx.step Xs hst
  replace Xi := Bx.step Xi hst
  replace b : Below w.heap.size w w3 := bst b hst
  clear hst
  have dXs : ∀ i, w3.cell? ⟨w.heap.size, i, none⟩ = _ := Bx.cell Xs
  have eXs : ∀ i, w3.frozen? ⟨w.heap.size, i, none⟩ = false := Bx.frozen Xs
  have qXs := Bx.lt Xs
  have dXi : ∀ i, w3.cell? ⟨w.heap.size + 1, i, none⟩ = _ := Bx.cell Xi
  have eXi : ∀ i, w3.frozen? ⟨w.heap.size + 1, i, none⟩ = false := Bx.frozen Xi
  have qXi := Bx.lt Xi
  have dY0 : ∀ i, w3.cell? ⟨w2.heap.size, i, none⟩ = _ := Bx.cell Y0
  have eY0 : ∀ i, w3.frozen? ⟨w2.heap.size, i, none⟩ = false := Bx.frozen Y0
  have qY0 := Bx.lt Y0
  go_wp2_with fail
  refine (place_any rs s0 s1 1 i1 0 4 _ HB.out).mono ?_
  rintro e w4 ⟨rfl, hst⟩
  clear dXs eXs qXs dXi eXi qXi dY0 eY0 qY0
  have hsz_Y0 := zY0
  replace Xs := Bx.step (Bx.far Xs (p := ⟨w2.heap.size, 0, none⟩) nx_Xs_Y0 _) hst
  replace Xi := Bx.step (Bx.far Xi (p := ⟨w2.heap.size, 0, none⟩) nx_Xi_Y0 _) hst
  replace Y0 := Bx.step (Bx.put0 Y0 _) hst
  replace b : Below w.heap.size w w4 := bst (bsc b (p := ⟨w2.heap.size, 0, none⟩) zY0 _) hst
  clear hst
  have dXs : ∀ i, w4.cell? ⟨w.heap.size, i, none⟩ = _ := Bx.cell Xs
  have eXs : ∀ i, w4.frozen? ⟨w.heap.size, i, none⟩ = false := Bx.frozen Xs
  have qXs := Bx.lt Xs
  have dXi : ∀ i, w4.cell? ⟨w.heap.size + 1, i, none⟩ = _ := Bx.cell Xi
  have eXi : ∀ i, w4.frozen? ⟨w.heap.size + 1, i, none⟩ = false := Bx.frozen Xi
  have qXi := Bx.lt Xi
  have dY0 : ∀ i, w4.cell? ⟨w2.heap.size, i, none⟩ = _ := Bx.cell Y0
  have eY0 : ∀ i, w4.frozen? ⟨w2.heap.size, i, none⟩ = false := Bx.frozen Y0
  have qY0 := Bx.lt Y0
  go_wp2
  rw [rounds_succ]
  go_wp2_with fail
  refine (place_any rs s0 s1 i0 (-1) 0 4 _ HD.out).mono ?_
  rintro e w5 ⟨rfl, hst⟩
  clear dXs eXs qXs dXi eXi qXi dY0 eY0 qY0
  obtain ⟨Y1, hst⟩ := after1 hst
  have nx_Xs_Y1 : w.heap.size ≠ w4.heap.size := by have := Bx.lt Xs; omega
  have nx_Y1_Xs := Ne.symm nx_Xs_Y1
  have nx_Xi_Y1 : w.heap.size + 1 ≠ w4.heap.size := by have := Bx.lt Xi; omega
  have nx_Y1_Xi := Ne.symm nx_Xi_Y1
  have nx_Y0_Y1 : w2.heap.size ≠ w4.heap.size := by have := Bx.lt Y0; omega
  have nx_Y1_Y0 := Ne.symm nx_Y0_Y1
  have zY1 : w.heap.size ≤ w4.heap.size := by have := b.size; omega
  replace Xs := Bx.step Xs hst
  replace Xi := Bx.step Xi hst
  replace Y0 := Bx.step Y0 hst
  replace b : Below w.heap.size w w5 := bst b hst
  clear hst
  have dXs : ∀ i, w5.cell? ⟨w.heap.size, i, none⟩ = _ := Bx.cell Xs
  have eXs : ∀ i, w5.frozen? ⟨w.heap.size, i, none⟩ = false := Bx.frozen Xs
  have qXs := Bx.lt Xs
  have dXi : ∀ i, w5.cell? ⟨w.heap.size + 1, i, none⟩ = _ := Bx.cell Xi
  have eXi : ∀ i, w5.frozen? ⟨w.heap.size + 1, i, none⟩ = false := Bx.frozen Xi
  have qXi := Bx.lt Xi
  have dY0 : ∀ i, w5.cell? ⟨w2.heap.size, i, none⟩ = _ := Bx.cell Y0
  have eY0 : ∀ i, w5.frozen? ⟨w2.heap.size, i, none⟩ = false := Bx.frozen Y0
  have qY0 := Bx.lt Y0
  have dY1 : ∀ i, w5.cell? ⟨w4.heap.size, i, none⟩ = _ := Bx.cell Y1
  have eY1 : ∀ i, w5.frozen? ⟨w4.heap.size, i, none⟩ = false := Bx.frozen Y1
  have qY1 := Bx.lt Y1
  go_wp2_with fail
  refine (place_any rs s0 s1 i0 1 0 4 _ HE.out).mono ?_
  rintro e w6 ⟨rfl, hst⟩
  clear dXs eXs qXs dXi eXi qXi dY0 eY0 qY0 dY1 eY1 qY1
  have hsz_Y1 := zY1
  replace Xs := Bx.step (Bx.far Xs (p := ⟨w4.heap.size, 1, none⟩) nx_Xs_Y1 _) hst
  replace Xi := Bx.step (Bx.far Xi (p := ⟨w4.heap.size, 1, none⟩) nx_Xi_Y1 _) hst
  replace Y0 := Bx.step (Bx.far Y0 (p := ⟨w4.heap.size, 1, none⟩) nx_Y0_Y1 _) hst
  replace Y1 := Bx.step (Bx.put1 Y1 _) hst
  replace b : Below w.heap.size w w6 := bst (bsc b (p := ⟨w4.heap.size, 1, none⟩) zY1 _) hst
  clear hst
  have dXs : ∀ i, w6.cell? ⟨w.heap.size, i, none⟩ = _ := Bx.cell Xs
  have eXs : ∀ i, w6.frozen? ⟨w.heap.size, i, none⟩ = false := Bx.frozen Xs
  have qXs := Bx.lt Xs
  have dXi : ∀ i, w6.cell? ⟨w.heap.size + 1, i, none⟩ = _ := Bx.cell Xi
  have eXi : ∀ i, w6.frozen? ⟨w.heap.size + 1, i, none⟩ = false := Bx.frozen Xi
  have qXi := Bx.lt Xi
  have dY0 : ∀ i, w6.cell? ⟨w2.heap.size, i, none⟩ = _ := Bx.cell Y0
  have eY0 : ∀ i, w6.frozen? ⟨w2.heap.size, i, none⟩ = false := Bx.frozen Y0
  have qY0 := Bx.lt Y0
  have dY1 : ∀ i, w6.cell? ⟨w4.heap.size, i, none⟩ = _ := Bx.cell Y1
  have eY1 : ∀ i, w6.frozen? ⟨w4.heap.size, i, none⟩ = false := Bx.frozen Y1
  have qY1 := Bx.lt Y1
  go_wp2
  rw [rounds_succ]
  go_wp2_with fail
  refine (awake5 _).mono ?_
  rintro e wz ⟨rfl, hbz⟩
  go_wp2
  go_ret
  exact ⟨rfl, bst b hbz⟩
end Go.Proofs.YteegipfgbcnfkaaDoor

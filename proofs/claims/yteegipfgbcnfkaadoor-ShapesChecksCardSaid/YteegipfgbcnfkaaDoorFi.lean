/-
  shapes.Fits and the reference's.
-/
import Derived.Test.YteegipfgbcnfkaaDoorRet2
import Derived.Test.YteegipfgbcnfkaaDoorEql
import Derived.RegionTactic
import Derived.ChangeAlike
namespace Go.Proofs.YteegipfgbcnfkaaDoor
open Go.RowKit
attribute [local go_sem] Oper.semAt_some


set_option maxHeartbeats 1000000 in
theorem fits_ea (ec ra rb a0 a1 b0 b1 : Int) (w : World) (ha : shp ra a0 a1 = ec) (hne : ec ≠ 0) :
    Calls Tryd.prog 22 #[.int .i64 ra, .agg #[.int .i64 a0, .int .i64 a1], .int .i64 rb, .agg #[.int .i64 b0, .int .i64 b1]] w fun e w' => e = .returned (.tuple #[.int .i64 0, .agg #[.int .i64 0, .int .i64 0], .int .i64 ec]) ∧ Below w.heap.size w w' := by
  have HA := Lib.hid ha
  have hn1 : (ec != 0) = true := by simpa using hne
  have hn2 : (ec == 0) = false := by simpa using hne
  clear ha hne
  have hg := guardLens
  have hq := eqLens
  go_enter Tryd.func22, Tryd.ntmps22
  go_wp2_with fail
  refine (check_any ra a0 a1 ec _ HA.out).mono ?_
  rintro e w1 ⟨rfl, hb1⟩
  obtain ⟨X0, X1, X2, b1_⟩ := after3 hb1
  have q0 := Bx.lt X0
  have q1 := Bx.lt X1
  have q2 := Bx.lt X2
  clear hb1
  have c0 : ∀ i, w1.cell? ⟨w.heap.size, i, none⟩ = _ := Bx.cell X0
  have c1 : ∀ i, w1.cell? ⟨w.heap.size + 1, i, none⟩ = _ := Bx.cell X1
  have c2 : ∀ i, w1.cell? ⟨w.heap.size + 1 + 1, i, none⟩ = _ := Bx.cell X2
  have f2 : ∀ i, w1.frozen? ⟨w.heap.size + 1 + 1, i, none⟩ = false := Bx.frozen X2
  go_wp2
  refine retRLE (B := w.heap.size + 1 + 1) rfl rfl rfl rfl rfl (Bx.set2 X2 _ _) ?_
  exact ⟨rfl, below_set2 b1_ (by omega) _ _⟩

set_option maxHeartbeats 1000000 in
theorem fits_eb (ec ra rb a0 a1 b0 b1 : Int) (w : World) (ha : shp ra a0 a1 = 0) (hb : shp rb b0 b1 = ec) (hne : ec ≠ 0) :
    Calls Tryd.prog 22 #[.int .i64 ra, .agg #[.int .i64 a0, .int .i64 a1], .int .i64 rb, .agg #[.int .i64 b0, .int .i64 b1]] w fun e w' => e = .returned (.tuple #[.int .i64 0, .agg #[.int .i64 0, .int .i64 0], .int .i64 ec]) ∧ Below w.heap.size w w' := by
  have HA := Lib.hid ha
  have HB := Lib.hid hb
  have hn1 : (ec != 0) = true := by simpa using hne
  have hn2 : (ec == 0) = false := by simpa using hne
  clear ha hb hne
  have hg := guardLens
  have hq := eqLens
  go_enter Tryd.func22, Tryd.ntmps22
  go_wp2_with fail
  refine (check_any ra a0 a1 0 _ HA.out).mono ?_
  rintro e w1 ⟨rfl, hb1⟩
  obtain ⟨X0, X1, X2, b1_⟩ := after3 hb1
  have q0 := Bx.lt X0
  have q1 := Bx.lt X1
  have q2 := Bx.lt X2
  clear hb1
  have c0 : ∀ i, w1.cell? ⟨w.heap.size, i, none⟩ = _ := Bx.cell X0
  have c1 : ∀ i, w1.cell? ⟨w.heap.size + 1, i, none⟩ = _ := Bx.cell X1
  have c2 : ∀ i, w1.cell? ⟨w.heap.size + 1 + 1, i, none⟩ = _ := Bx.cell X2
  have f2 : ∀ i, w1.frozen? ⟨w.heap.size + 1 + 1, i, none⟩ = false := Bx.frozen X2
  go_wp2_with fail
  refine (check_any rb b0 b1 ec _ HB.out).mono ?_
  rintro e w2 ⟨rfl, hb2⟩
  clear q0 q1 q2 c0 c1 c2 f2
  have X0' := Bx.step X0 hb2
  have X1' := Bx.step X1 hb2
  have X2' := Bx.step X2 hb2
  have b2_ := bst b1_ hb2
  clear X0 X1 X2 hb2 b1_
  have q0 := Bx.lt X0'
  have q1 := Bx.lt X1'
  have q2 := Bx.lt X2'
  have c0 : ∀ i, w2.cell? ⟨w.heap.size, i, none⟩ = _ := Bx.cell X0'
  have c1 : ∀ i, w2.cell? ⟨w.heap.size + 1, i, none⟩ = _ := Bx.cell X1'
  have c2 : ∀ i, w2.cell? ⟨w.heap.size + 1 + 1, i, none⟩ = _ := Bx.cell X2'
  have f2 : ∀ i, w2.frozen? ⟨w.heap.size + 1 + 1, i, none⟩ = false := Bx.frozen X2'
  go_wp2
  refine retRLE (B := w.heap.size + 1 + 1) rfl rfl rfl rfl rfl (Bx.set2 X2' _ _) ?_
  exact ⟨rfl, below_set2 b2_ (by omega) _ _⟩

set_option maxHeartbeats 1000000 in
theorem fits_b0 (ra a0 a1 b0 b1 : Int) (w : World) (ha : shp ra a0 a1 = 0) (hb : shp 0 b0 b1 = 0)  :
    Calls Tryd.prog 22 #[.int .i64 ra, .agg #[.int .i64 a0, .int .i64 a1], .int .i64 0, .agg #[.int .i64 b0, .int .i64 b1]] w fun e w' => e = .returned (.tuple #[.int .i64 ra, .agg #[.int .i64 a0, .int .i64 a1], .int .i64 0]) ∧ Below w.heap.size w w' := by
  have HA := Lib.hid ha
  have HB := Lib.hid hb
  clear ha hb
  have hg := guardLens
  have hq := eqLens
  go_enter Tryd.func22, Tryd.ntmps22
  go_wp2_with fail
  refine (check_any ra a0 a1 0 _ HA.out).mono ?_
  rintro e w1 ⟨rfl, hb1⟩
  obtain ⟨X0, X1, X2, b1_⟩ := after3 hb1
  have q0 := Bx.lt X0
  have q1 := Bx.lt X1
  have q2 := Bx.lt X2
  clear hb1
  have c0 : ∀ i, w1.cell? ⟨w.heap.size, i, none⟩ = _ := Bx.cell X0
  have c1 : ∀ i, w1.cell? ⟨w.heap.size + 1, i, none⟩ = _ := Bx.cell X1
  have c2 : ∀ i, w1.cell? ⟨w.heap.size + 1 + 1, i, none⟩ = _ := Bx.cell X2
  have f2 : ∀ i, w1.frozen? ⟨w.heap.size + 1 + 1, i, none⟩ = false := Bx.frozen X2
  go_wp2_with fail
  refine (check_any 0 b0 b1 0 _ HB.out).mono ?_
  rintro e w2 ⟨rfl, hb2⟩
  clear q0 q1 q2 c0 c1 c2 f2
  have X0' := Bx.step X0 hb2
  have X1' := Bx.step X1 hb2
  have X2' := Bx.step X2 hb2
  have b2_ := bst b1_ hb2
  clear X0 X1 X2 hb2 b1_
  have q0 := Bx.lt X0'
  have q1 := Bx.lt X1'
  have q2 := Bx.lt X2'
  have c0 : ∀ i, w2.cell? ⟨w.heap.size, i, none⟩ = _ := Bx.cell X0'
  have c1 : ∀ i, w2.cell? ⟨w.heap.size + 1, i, none⟩ = _ := Bx.cell X1'
  have c2 : ∀ i, w2.cell? ⟨w.heap.size + 1 + 1, i, none⟩ = _ := Bx.cell X2'
  have f2 : ∀ i, w2.frozen? ⟨w.heap.size + 1 + 1, i, none⟩ = false := Bx.frozen X2'
  go_wp2
  go_region
  go_wp2
  refine retRLE (B := w.heap.size + 1 + 1) rfl rfl rfl rfl rfl (Bx.dr (Bx.set2 X2' _ _)) ?_
  exact ⟨rfl, bdr (below_set2 b2_ (by omega) _ _)⟩

set_option maxHeartbeats 1000000 in
theorem fits_a0 (rb a0 a1 b0 b1 : Int) (w : World) (ha : shp 0 a0 a1 = 0) (hb : shp rb b0 b1 = 0) (h0 : 0 < rb) :
    Calls Tryd.prog 22 #[.int .i64 0, .agg #[.int .i64 a0, .int .i64 a1], .int .i64 rb, .agg #[.int .i64 b0, .int .i64 b1]] w fun e w' => e = .returned (.tuple #[.int .i64 rb, .agg #[.int .i64 b0, .int .i64 b1], .int .i64 0]) ∧ Below w.heap.size w w' := by
  have HA := Lib.hid ha
  have HB := Lib.hid hb
  clear ha hb
  have h2 : (rb != 0) = true := by simp; omega
  have h3 : (rb == 0) = false := by simp; omega
  have h4 : ((0 : Int) == rb) = false := by simp; omega
  have h5 : ((0 : Int) != rb) = true := by simp; omega
  have hg := guardLens
  have hq := eqLens
  go_enter Tryd.func22, Tryd.ntmps22
  go_wp2_with fail
  refine (check_any 0 a0 a1 0 _ HA.out).mono ?_
  rintro e w1 ⟨rfl, hb1⟩
  obtain ⟨X0, X1, X2, b1_⟩ := after3 hb1
  have q0 := Bx.lt X0
  have q1 := Bx.lt X1
  have q2 := Bx.lt X2
  clear hb1
  have c0 : ∀ i, w1.cell? ⟨w.heap.size, i, none⟩ = _ := Bx.cell X0
  have c1 : ∀ i, w1.cell? ⟨w.heap.size + 1, i, none⟩ = _ := Bx.cell X1
  have c2 : ∀ i, w1.cell? ⟨w.heap.size + 1 + 1, i, none⟩ = _ := Bx.cell X2
  have f2 : ∀ i, w1.frozen? ⟨w.heap.size + 1 + 1, i, none⟩ = false := Bx.frozen X2
  go_wp2_with fail
  refine (check_any rb b0 b1 0 _ HB.out).mono ?_
  rintro e w2 ⟨rfl, hb2⟩
  clear q0 q1 q2 c0 c1 c2 f2
  have X0' := Bx.step X0 hb2
  have X1' := Bx.step X1 hb2
  have X2' := Bx.step X2 hb2
  have b2_ := bst b1_ hb2
  clear X0 X1 X2 hb2 b1_
  have q0 := Bx.lt X0'
  have q1 := Bx.lt X1'
  have q2 := Bx.lt X2'
  have c0 : ∀ i, w2.cell? ⟨w.heap.size, i, none⟩ = _ := Bx.cell X0'
  have c1 : ∀ i, w2.cell? ⟨w.heap.size + 1, i, none⟩ = _ := Bx.cell X1'
  have c2 : ∀ i, w2.cell? ⟨w.heap.size + 1 + 1, i, none⟩ = _ := Bx.cell X2'
  have f2 : ∀ i, w2.frozen? ⟨w.heap.size + 1 + 1, i, none⟩ = false := Bx.frozen X2'
  go_wp2
  go_region
  go_wp2
  refine retRLE (B := w.heap.size + 1 + 1) rfl rfl rfl rfl rfl (Bx.dr (Bx.set2 X2' _ _)) ?_
  exact ⟨rfl, bdr (below_set2 b2_ (by omega) _ _)⟩

set_option maxHeartbeats 1000000 in
theorem fits_form (ra rb a0 a1 b0 b1 : Int) (w : World) (ha : shp ra a0 a1 = 0) (hb : shp rb b0 b1 = 0) (h1 : 0 < ra) (h2 : 0 < rb) (hne : ra ≠ rb) :
    Calls Tryd.prog 22 #[.int .i64 ra, .agg #[.int .i64 a0, .int .i64 a1], .int .i64 rb, .agg #[.int .i64 b0, .int .i64 b1]] w fun e w' => e = .returned (.tuple #[.int .i64 0, .agg #[.int .i64 0, .int .i64 0], .int .i64 6]) ∧ Below w.heap.size w w' := by
  have HA := Lib.hid ha
  have HB := Lib.hid hb
  clear ha hb
  have g1 : (ra != 0) = true := by simp; omega
  have g2 : (ra == 0) = false := by simp; omega
  have g3 : (rb != 0) = true := by simp; omega
  have g4 : (rb == 0) = false := by simp; omega
  have g5 : (ra != rb) = true := by simpa using hne
  have g6 : (ra == rb) = false := by simpa using hne
  clear hne
  have hg := guardLens
  have hq := eqLens
  go_enter Tryd.func22, Tryd.ntmps22
  go_wp2_with fail
  refine (check_any ra a0 a1 0 _ HA.out).mono ?_
  rintro e w1 ⟨rfl, hb1⟩
  obtain ⟨X0, X1, X2, b1_⟩ := after3 hb1
  have q0 := Bx.lt X0
  have q1 := Bx.lt X1
  have q2 := Bx.lt X2
  clear hb1
  have c0 : ∀ i, w1.cell? ⟨w.heap.size, i, none⟩ = _ := Bx.cell X0
  have c1 : ∀ i, w1.cell? ⟨w.heap.size + 1, i, none⟩ = _ := Bx.cell X1
  have c2 : ∀ i, w1.cell? ⟨w.heap.size + 1 + 1, i, none⟩ = _ := Bx.cell X2
  have f2 : ∀ i, w1.frozen? ⟨w.heap.size + 1 + 1, i, none⟩ = false := Bx.frozen X2
  go_wp2_with fail
  refine (check_any rb b0 b1 0 _ HB.out).mono ?_
  rintro e w2 ⟨rfl, hb2⟩
  clear q0 q1 q2 c0 c1 c2 f2
  have X0' := Bx.step X0 hb2
  have X1' := Bx.step X1 hb2
  have X2' := Bx.step X2 hb2
  have b2_ := bst b1_ hb2
  clear X0 X1 X2 hb2 b1_
  have q0 := Bx.lt X0'
  have q1 := Bx.lt X1'
  have q2 := Bx.lt X2'
  have c0 : ∀ i, w2.cell? ⟨w.heap.size, i, none⟩ = _ := Bx.cell X0'
  have c1 : ∀ i, w2.cell? ⟨w.heap.size + 1, i, none⟩ = _ := Bx.cell X1'
  have c2 : ∀ i, w2.cell? ⟨w.heap.size + 1 + 1, i, none⟩ = _ := Bx.cell X2'
  have f2 : ∀ i, w2.frozen? ⟨w.heap.size + 1 + 1, i, none⟩ = false := Bx.frozen X2'
  go_wp2
  refine retRLE (B := w.heap.size + 1 + 1) rfl rfl rfl rfl rfl (Bx.set2 X2' _ _) ?_
  exact ⟨rfl, below_set2 b2_ (by omega) _ _⟩

set_option maxHeartbeats 1000000 in
theorem fits_len (ra a0 a1 b0 b1 : Int) (w : World) (ha : shp ra a0 a1 = 0) (hb : shp ra b0 b1 = 0) (h1 : 0 < ra) (hne : a0 ≠ b0 ∨ a1 ≠ b1) :
    Calls Tryd.prog 22 #[.int .i64 ra, .agg #[.int .i64 a0, .int .i64 a1], .int .i64 ra, .agg #[.int .i64 b0, .int .i64 b1]] w fun e w' => e = .returned (.tuple #[.int .i64 0, .agg #[.int .i64 0, .int .i64 0], .int .i64 11]) ∧ Below w.heap.size w w' := by
  have HA := Lib.hid ha
  have HB := Lib.hid hb
  have g1 : (ra != 0) = true := by simp; omega
  have g2 : (ra == 0) = false := by simp; omega
  have hl : (a0 == b0 && a1 == b1) = false := by
    rw [Bool.and_eq_false_iff]
    simpa using hne
  clear ha hb hne
  have hg := guardLens
  have hq := eqLens
  go_enter Tryd.func22, Tryd.ntmps22
  go_wp2_with fail
  refine (check_any ra a0 a1 0 _ HA.out).mono ?_
  rintro e w1 ⟨rfl, hb1⟩
  obtain ⟨X0, X1, X2, b1_⟩ := after3 hb1
  have q0 := Bx.lt X0
  have q1 := Bx.lt X1
  have q2 := Bx.lt X2
  clear hb1
  have c0 : ∀ i, w1.cell? ⟨w.heap.size, i, none⟩ = _ := Bx.cell X0
  have c1 : ∀ i, w1.cell? ⟨w.heap.size + 1, i, none⟩ = _ := Bx.cell X1
  have c2 : ∀ i, w1.cell? ⟨w.heap.size + 1 + 1, i, none⟩ = _ := Bx.cell X2
  have f2 : ∀ i, w1.frozen? ⟨w.heap.size + 1 + 1, i, none⟩ = false := Bx.frozen X2
  go_wp2_with fail
  refine (check_any ra b0 b1 0 _ HB.out).mono ?_
  rintro e w2 ⟨rfl, hb2⟩
  clear q0 q1 q2 c0 c1 c2 f2
  have X0' := Bx.step X0 hb2
  have X1' := Bx.step X1 hb2
  have X2' := Bx.step X2 hb2
  have b2_ := bst b1_ hb2
  clear X0 X1 X2 hb2 b1_
  have q0 := Bx.lt X0'
  have q1 := Bx.lt X1'
  have q2 := Bx.lt X2'
  have c0 : ∀ i, w2.cell? ⟨w.heap.size, i, none⟩ = _ := Bx.cell X0'
  have c1 : ∀ i, w2.cell? ⟨w.heap.size + 1, i, none⟩ = _ := Bx.cell X1'
  have c2 : ∀ i, w2.cell? ⟨w.heap.size + 1 + 1, i, none⟩ = _ := Bx.cell X2'
  have f2 : ∀ i, w2.frozen? ⟨w.heap.size + 1 + 1, i, none⟩ = false := Bx.frozen X2'
  go_wp2
  refine retRLE (B := w.heap.size + 1 + 1) rfl rfl rfl rfl rfl (Bx.set2 X2' _ _) ?_
  exact ⟨rfl, below_set2 b2_ (by omega) _ _⟩

set_option maxHeartbeats 1000000 in
theorem fits_same (ra a0 a1 : Int) (w : World) (ha : shp ra a0 a1 = 0) (h1 : 0 < ra) :
    Calls Tryd.prog 22 #[.int .i64 ra, .agg #[.int .i64 a0, .int .i64 a1], .int .i64 ra, .agg #[.int .i64 a0, .int .i64 a1]] w fun e w' => e = .returned (.tuple #[.int .i64 ra, .agg #[.int .i64 a0, .int .i64 a1], .int .i64 0]) ∧ Below w.heap.size w w' := by
  have HA := Lib.hid ha
  have HB := Lib.hid ha
  have g1 : (ra != 0) = true := by simp; omega
  have g2 : (ra == 0) = false := by simp; omega
  clear ha
  have hg := guardLens
  have hq := eqLens
  go_enter Tryd.func22, Tryd.ntmps22
  go_wp2_with fail
  refine (check_any ra a0 a1 0 _ HA.out).mono ?_
  rintro e w1 ⟨rfl, hb1⟩
  obtain ⟨X0, X1, X2, b1_⟩ := after3 hb1
  have q0 := Bx.lt X0
  have q1 := Bx.lt X1
  have q2 := Bx.lt X2
  clear hb1
  have c0 : ∀ i, w1.cell? ⟨w.heap.size, i, none⟩ = _ := Bx.cell X0
  have c1 : ∀ i, w1.cell? ⟨w.heap.size + 1, i, none⟩ = _ := Bx.cell X1
  have c2 : ∀ i, w1.cell? ⟨w.heap.size + 1 + 1, i, none⟩ = _ := Bx.cell X2
  have f2 : ∀ i, w1.frozen? ⟨w.heap.size + 1 + 1, i, none⟩ = false := Bx.frozen X2
  go_wp2_with fail
  refine (check_any ra a0 a1 0 _ HB.out).mono ?_
  rintro e w2 ⟨rfl, hb2⟩
  clear q0 q1 q2 c0 c1 c2 f2
  have X0' := Bx.step X0 hb2
  have X1' := Bx.step X1 hb2
  have X2' := Bx.step X2 hb2
  have b2_ := bst b1_ hb2
  clear X0 X1 X2 hb2 b1_
  have q0 := Bx.lt X0'
  have q1 := Bx.lt X1'
  have q2 := Bx.lt X2'
  have c0 : ∀ i, w2.cell? ⟨w.heap.size, i, none⟩ = _ := Bx.cell X0'
  have c1 : ∀ i, w2.cell? ⟨w.heap.size + 1, i, none⟩ = _ := Bx.cell X1'
  have c2 : ∀ i, w2.cell? ⟨w.heap.size + 1 + 1, i, none⟩ = _ := Bx.cell X2'
  have f2 : ∀ i, w2.frozen? ⟨w.heap.size + 1 + 1, i, none⟩ = false := Bx.frozen X2'
  go_wp2
  go_region
  go_wp2
  refine retRLE (B := w.heap.size + 1 + 1) rfl rfl rfl rfl rfl (Bx.dr (Bx.set2 X2' _ _)) ?_
  exact ⟨rfl, bdr (below_set2 b2_ (by omega) _ _)⟩


set_option maxHeartbeats 1000000 in
theorem rfits_ea (ec ra rb a0 a1 b0 b1 : Int) (w : World) (ha : shp ra a0 a1 = ec) (hne : ec ≠ 0) :
    Calls Tryd.prog 23 #[.int .i64 ra, .agg #[.int .i64 a0, .int .i64 a1], .int .i64 rb, .agg #[.int .i64 b0, .int .i64 b1]] w fun e w' => e = .returned (.tuple #[.int .i64 0, .agg #[.int .i64 0, .int .i64 0], .int .i64 ec]) ∧ Below w.heap.size w w' := by
  have HA := Lib.hid ha
  have hn1 : (ec != 0) = true := by simpa using hne
  have hn2 : (ec == 0) = false := by simpa using hne
  clear ha hne
  have hg := guardLens
  have hq := eqLens
  go_enter Tryd.func23, Tryd.ntmps23
  go_wp2_with fail
  refine (rcheck_any ra a0 a1 ec _ HA.out).mono ?_
  rintro e w1 ⟨rfl, hb1⟩
  obtain ⟨X0, X1, X2, b1_⟩ := after3 hb1
  have q0 := Bx.lt X0
  have q1 := Bx.lt X1
  have q2 := Bx.lt X2
  clear hb1
  have c0 : ∀ i, w1.cell? ⟨w.heap.size, i, none⟩ = _ := Bx.cell X0
  have c1 : ∀ i, w1.cell? ⟨w.heap.size + 1, i, none⟩ = _ := Bx.cell X1
  have c2 : ∀ i, w1.cell? ⟨w.heap.size + 1 + 1, i, none⟩ = _ := Bx.cell X2
  have f2 : ∀ i, w1.frozen? ⟨w.heap.size + 1 + 1, i, none⟩ = false := Bx.frozen X2
  go_wp2
  refine retRLE (B := w.heap.size + 1 + 1) rfl rfl rfl rfl rfl (Bx.set2 X2 _ _) ?_
  exact ⟨rfl, below_set2 b1_ (by omega) _ _⟩

set_option maxHeartbeats 1000000 in
theorem rfits_eb (ec ra rb a0 a1 b0 b1 : Int) (w : World) (ha : shp ra a0 a1 = 0) (hb : shp rb b0 b1 = ec) (hne : ec ≠ 0) :
    Calls Tryd.prog 23 #[.int .i64 ra, .agg #[.int .i64 a0, .int .i64 a1], .int .i64 rb, .agg #[.int .i64 b0, .int .i64 b1]] w fun e w' => e = .returned (.tuple #[.int .i64 0, .agg #[.int .i64 0, .int .i64 0], .int .i64 ec]) ∧ Below w.heap.size w w' := by
  have HA := Lib.hid ha
  have HB := Lib.hid hb
  have hn1 : (ec != 0) = true := by simpa using hne
  have hn2 : (ec == 0) = false := by simpa using hne
  clear ha hb hne
  have hg := guardLens
  have hq := eqLens
  go_enter Tryd.func23, Tryd.ntmps23
  go_wp2_with fail
  refine (rcheck_any ra a0 a1 0 _ HA.out).mono ?_
  rintro e w1 ⟨rfl, hb1⟩
  obtain ⟨X0, X1, X2, b1_⟩ := after3 hb1
  have q0 := Bx.lt X0
  have q1 := Bx.lt X1
  have q2 := Bx.lt X2
  clear hb1
  have c0 : ∀ i, w1.cell? ⟨w.heap.size, i, none⟩ = _ := Bx.cell X0
  have c1 : ∀ i, w1.cell? ⟨w.heap.size + 1, i, none⟩ = _ := Bx.cell X1
  have c2 : ∀ i, w1.cell? ⟨w.heap.size + 1 + 1, i, none⟩ = _ := Bx.cell X2
  have f2 : ∀ i, w1.frozen? ⟨w.heap.size + 1 + 1, i, none⟩ = false := Bx.frozen X2
  go_wp2_with fail
  refine (rcheck_any rb b0 b1 ec _ HB.out).mono ?_
  rintro e w2 ⟨rfl, hb2⟩
  clear q0 q1 q2 c0 c1 c2 f2
  have X0' := Bx.step X0 hb2
  have X1' := Bx.step X1 hb2
  have X2' := Bx.step X2 hb2
  have b2_ := bst b1_ hb2
  clear X0 X1 X2 hb2 b1_
  have q0 := Bx.lt X0'
  have q1 := Bx.lt X1'
  have q2 := Bx.lt X2'
  have c0 : ∀ i, w2.cell? ⟨w.heap.size, i, none⟩ = _ := Bx.cell X0'
  have c1 : ∀ i, w2.cell? ⟨w.heap.size + 1, i, none⟩ = _ := Bx.cell X1'
  have c2 : ∀ i, w2.cell? ⟨w.heap.size + 1 + 1, i, none⟩ = _ := Bx.cell X2'
  have f2 : ∀ i, w2.frozen? ⟨w.heap.size + 1 + 1, i, none⟩ = false := Bx.frozen X2'
  go_wp2
  refine retRLE (B := w.heap.size + 1 + 1) rfl rfl rfl rfl rfl (Bx.set2 X2' _ _) ?_
  exact ⟨rfl, below_set2 b2_ (by omega) _ _⟩

set_option maxHeartbeats 1000000 in
theorem rfits_b0 (ra a0 a1 b0 b1 : Int) (w : World) (ha : shp ra a0 a1 = 0) (hb : shp 0 b0 b1 = 0) (h0 : 0 ≤ ra) :
    Calls Tryd.prog 23 #[.int .i64 ra, .agg #[.int .i64 a0, .int .i64 a1], .int .i64 0, .agg #[.int .i64 b0, .int .i64 b1]] w fun e w' => e = .returned (.tuple #[.int .i64 ra, .agg #[.int .i64 a0, .int .i64 a1], .int .i64 0]) ∧ Below w.heap.size w w' := by
  have HA := Lib.hid ha
  have HB := Lib.hid hb
  by_cases h1 : ra = 0
  · obtain ⟨rfl, rfl, rfl, rfl⟩ : a0 = 0 ∧ a1 = 0 ∧ b0 = 0 ∧ b1 = 0 := by
      rcases shp_ok (h1 ▸ ha) with h | h | h <;> rcases shp_ok hb with g | g | g <;> omega
    subst h1
    clear ha hb h0
    skip
    have hg := guardLens
    have hq := eqLens
    go_enter Tryd.func23, Tryd.ntmps23
    go_wp2_with fail
    refine (rcheck_any 0 0 0 0 _ HA.out).mono ?_
    rintro e w1 ⟨rfl, hb1⟩
    obtain ⟨X0, X1, X2, b1_⟩ := after3 hb1
    have q0 := Bx.lt X0
    have q1 := Bx.lt X1
    have q2 := Bx.lt X2
    clear hb1
    have c0 : ∀ i, w1.cell? ⟨w.heap.size, i, none⟩ = _ := Bx.cell X0
    have c1 : ∀ i, w1.cell? ⟨w.heap.size + 1, i, none⟩ = _ := Bx.cell X1
    have c2 : ∀ i, w1.cell? ⟨w.heap.size + 1 + 1, i, none⟩ = _ := Bx.cell X2
    have f2 : ∀ i, w1.frozen? ⟨w.heap.size + 1 + 1, i, none⟩ = false := Bx.frozen X2
    go_wp2_with fail
    refine (rcheck_any 0 0 0 0 _ HB.out).mono ?_
    rintro e w2 ⟨rfl, hb2⟩
    clear q0 q1 q2 c0 c1 c2 f2
    have X0' := Bx.step X0 hb2
    have X1' := Bx.step X1 hb2
    have X2' := Bx.step X2 hb2
    have b2_ := bst b1_ hb2
    clear X0 X1 X2 hb2 b1_
    have q0 := Bx.lt X0'
    have q1 := Bx.lt X1'
    have q2 := Bx.lt X2'
    have c0 : ∀ i, w2.cell? ⟨w.heap.size, i, none⟩ = _ := Bx.cell X0'
    have c1 : ∀ i, w2.cell? ⟨w.heap.size + 1, i, none⟩ = _ := Bx.cell X1'
    have c2 : ∀ i, w2.cell? ⟨w.heap.size + 1 + 1, i, none⟩ = _ := Bx.cell X2'
    have f2 : ∀ i, w2.frozen? ⟨w.heap.size + 1 + 1, i, none⟩ = false := Bx.frozen X2'
    go_wp2
    go_region
    go_wp2
    refine retRLE (B := w.heap.size + 1 + 1) rfl rfl rfl rfl rfl (Bx.dr (Bx.set2 X2' _ _)) ?_
    exact ⟨rfl, bdr (below_set2 b2_ (by omega) _ _)⟩
  · have h2 : (ra != 0) = true := by simpa using h1
    have h3 : (ra == 0) = false := by simpa using h1
    clear ha hb h1
    have hg := guardLens
    have hq := eqLens
    go_enter Tryd.func23, Tryd.ntmps23
    go_wp2_with fail
    refine (rcheck_any ra a0 a1 0 _ HA.out).mono ?_
    rintro e w1 ⟨rfl, hb1⟩
    obtain ⟨X0, X1, X2, b1_⟩ := after3 hb1
    have q0 := Bx.lt X0
    have q1 := Bx.lt X1
    have q2 := Bx.lt X2
    clear hb1
    have c0 : ∀ i, w1.cell? ⟨w.heap.size, i, none⟩ = _ := Bx.cell X0
    have c1 : ∀ i, w1.cell? ⟨w.heap.size + 1, i, none⟩ = _ := Bx.cell X1
    have c2 : ∀ i, w1.cell? ⟨w.heap.size + 1 + 1, i, none⟩ = _ := Bx.cell X2
    have f2 : ∀ i, w1.frozen? ⟨w.heap.size + 1 + 1, i, none⟩ = false := Bx.frozen X2
    go_wp2_with fail
    refine (rcheck_any 0 b0 b1 0 _ HB.out).mono ?_
    rintro e w2 ⟨rfl, hb2⟩
    clear q0 q1 q2 c0 c1 c2 f2
    have X0' := Bx.step X0 hb2
    have X1' := Bx.step X1 hb2
    have X2' := Bx.step X2 hb2
    have b2_ := bst b1_ hb2
    clear X0 X1 X2 hb2 b1_
    have q0 := Bx.lt X0'
    have q1 := Bx.lt X1'
    have q2 := Bx.lt X2'
    have c0 : ∀ i, w2.cell? ⟨w.heap.size, i, none⟩ = _ := Bx.cell X0'
    have c1 : ∀ i, w2.cell? ⟨w.heap.size + 1, i, none⟩ = _ := Bx.cell X1'
    have c2 : ∀ i, w2.cell? ⟨w.heap.size + 1 + 1, i, none⟩ = _ := Bx.cell X2'
    have f2 : ∀ i, w2.frozen? ⟨w.heap.size + 1 + 1, i, none⟩ = false := Bx.frozen X2'
    go_wp2
    go_region
    go_wp2
    refine retRLE (B := w.heap.size + 1 + 1) rfl rfl rfl rfl rfl (Bx.dr (Bx.set2 X2' _ _)) ?_
    exact ⟨rfl, bdr (below_set2 b2_ (by omega) _ _)⟩

set_option maxHeartbeats 1000000 in
theorem rfits_a0 (rb a0 a1 b0 b1 : Int) (w : World) (ha : shp 0 a0 a1 = 0) (hb : shp rb b0 b1 = 0) (h0 : 0 < rb) :
    Calls Tryd.prog 23 #[.int .i64 0, .agg #[.int .i64 a0, .int .i64 a1], .int .i64 rb, .agg #[.int .i64 b0, .int .i64 b1]] w fun e w' => e = .returned (.tuple #[.int .i64 rb, .agg #[.int .i64 b0, .int .i64 b1], .int .i64 0]) ∧ Below w.heap.size w w' := by
  have HA := Lib.hid ha
  have HB := Lib.hid hb
  clear ha hb
  have h2 : (rb != 0) = true := by simp; omega
  have h3 : (rb == 0) = false := by simp; omega
  have h4 : ((0 : Int) == rb) = false := by simp; omega
  have h5 : ((0 : Int) != rb) = true := by simp; omega
  have hg := guardLens
  have hq := eqLens
  go_enter Tryd.func23, Tryd.ntmps23
  go_wp2_with fail
  refine (rcheck_any 0 a0 a1 0 _ HA.out).mono ?_
  rintro e w1 ⟨rfl, hb1⟩
  obtain ⟨X0, X1, X2, b1_⟩ := after3 hb1
  have q0 := Bx.lt X0
  have q1 := Bx.lt X1
  have q2 := Bx.lt X2
  clear hb1
  have c0 : ∀ i, w1.cell? ⟨w.heap.size, i, none⟩ = _ := Bx.cell X0
  have c1 : ∀ i, w1.cell? ⟨w.heap.size + 1, i, none⟩ = _ := Bx.cell X1
  have c2 : ∀ i, w1.cell? ⟨w.heap.size + 1 + 1, i, none⟩ = _ := Bx.cell X2
  have f2 : ∀ i, w1.frozen? ⟨w.heap.size + 1 + 1, i, none⟩ = false := Bx.frozen X2
  go_wp2_with fail
  refine (rcheck_any rb b0 b1 0 _ HB.out).mono ?_
  rintro e w2 ⟨rfl, hb2⟩
  clear q0 q1 q2 c0 c1 c2 f2
  have X0' := Bx.step X0 hb2
  have X1' := Bx.step X1 hb2
  have X2' := Bx.step X2 hb2
  have b2_ := bst b1_ hb2
  clear X0 X1 X2 hb2 b1_
  have q0 := Bx.lt X0'
  have q1 := Bx.lt X1'
  have q2 := Bx.lt X2'
  have c0 : ∀ i, w2.cell? ⟨w.heap.size, i, none⟩ = _ := Bx.cell X0'
  have c1 : ∀ i, w2.cell? ⟨w.heap.size + 1, i, none⟩ = _ := Bx.cell X1'
  have c2 : ∀ i, w2.cell? ⟨w.heap.size + 1 + 1, i, none⟩ = _ := Bx.cell X2'
  have f2 : ∀ i, w2.frozen? ⟨w.heap.size + 1 + 1, i, none⟩ = false := Bx.frozen X2'
  go_wp2
  go_region
  go_wp2
  refine retRLE (B := w.heap.size + 1 + 1) rfl rfl rfl rfl rfl (Bx.dr (Bx.set2 X2' _ _)) ?_
  exact ⟨rfl, bdr (below_set2 b2_ (by omega) _ _)⟩

set_option maxHeartbeats 1000000 in
theorem rfits_form (ra rb a0 a1 b0 b1 : Int) (w : World) (ha : shp ra a0 a1 = 0) (hb : shp rb b0 b1 = 0) (h1 : 0 < ra) (h2 : 0 < rb) (hne : ra ≠ rb) :
    Calls Tryd.prog 23 #[.int .i64 ra, .agg #[.int .i64 a0, .int .i64 a1], .int .i64 rb, .agg #[.int .i64 b0, .int .i64 b1]] w fun e w' => e = .returned (.tuple #[.int .i64 0, .agg #[.int .i64 0, .int .i64 0], .int .i64 6]) ∧ Below w.heap.size w w' := by
  have HA := Lib.hid ha
  have HB := Lib.hid hb
  clear ha hb
  have g1 : (ra != 0) = true := by simp; omega
  have g2 : (ra == 0) = false := by simp; omega
  have g3 : (rb != 0) = true := by simp; omega
  have g4 : (rb == 0) = false := by simp; omega
  have g5 : (ra != rb) = true := by simpa using hne
  have g6 : (ra == rb) = false := by simpa using hne
  clear hne
  have hg := guardLens
  have hq := eqLens
  go_enter Tryd.func23, Tryd.ntmps23
  go_wp2_with fail
  refine (rcheck_any ra a0 a1 0 _ HA.out).mono ?_
  rintro e w1 ⟨rfl, hb1⟩
  obtain ⟨X0, X1, X2, b1_⟩ := after3 hb1
  have q0 := Bx.lt X0
  have q1 := Bx.lt X1
  have q2 := Bx.lt X2
  clear hb1
  have c0 : ∀ i, w1.cell? ⟨w.heap.size, i, none⟩ = _ := Bx.cell X0
  have c1 : ∀ i, w1.cell? ⟨w.heap.size + 1, i, none⟩ = _ := Bx.cell X1
  have c2 : ∀ i, w1.cell? ⟨w.heap.size + 1 + 1, i, none⟩ = _ := Bx.cell X2
  have f2 : ∀ i, w1.frozen? ⟨w.heap.size + 1 + 1, i, none⟩ = false := Bx.frozen X2
  go_wp2_with fail
  refine (rcheck_any rb b0 b1 0 _ HB.out).mono ?_
  rintro e w2 ⟨rfl, hb2⟩
  clear q0 q1 q2 c0 c1 c2 f2
  have X0' := Bx.step X0 hb2
  have X1' := Bx.step X1 hb2
  have X2' := Bx.step X2 hb2
  have b2_ := bst b1_ hb2
  clear X0 X1 X2 hb2 b1_
  have q0 := Bx.lt X0'
  have q1 := Bx.lt X1'
  have q2 := Bx.lt X2'
  have c0 : ∀ i, w2.cell? ⟨w.heap.size, i, none⟩ = _ := Bx.cell X0'
  have c1 : ∀ i, w2.cell? ⟨w.heap.size + 1, i, none⟩ = _ := Bx.cell X1'
  have c2 : ∀ i, w2.cell? ⟨w.heap.size + 1 + 1, i, none⟩ = _ := Bx.cell X2'
  have f2 : ∀ i, w2.frozen? ⟨w.heap.size + 1 + 1, i, none⟩ = false := Bx.frozen X2'
  go_wp2
  refine retRLE (B := w.heap.size + 1 + 1) rfl rfl rfl rfl rfl (Bx.set2 X2' _ _) ?_
  exact ⟨rfl, below_set2 b2_ (by omega) _ _⟩

set_option maxHeartbeats 1000000 in
theorem rfits_len (ra a0 a1 b0 b1 : Int) (w : World) (ha : shp ra a0 a1 = 0) (hb : shp ra b0 b1 = 0) (h1 : 0 < ra) (hne : a0 ≠ b0 ∨ a1 ≠ b1) :
    Calls Tryd.prog 23 #[.int .i64 ra, .agg #[.int .i64 a0, .int .i64 a1], .int .i64 ra, .agg #[.int .i64 b0, .int .i64 b1]] w fun e w' => e = .returned (.tuple #[.int .i64 0, .agg #[.int .i64 0, .int .i64 0], .int .i64 11]) ∧ Below w.heap.size w w' := by
  have HA := Lib.hid ha
  have HB := Lib.hid hb
  have g1 : (ra != 0) = true := by simp; omega
  have g2 : (ra == 0) = false := by simp; omega
  have hl : (a0 == b0 && a1 == b1) = false := by
    rw [Bool.and_eq_false_iff]
    simpa using hne
  clear ha hb hne
  have hg := guardLens
  have hq := eqLens
  go_enter Tryd.func23, Tryd.ntmps23
  go_wp2_with fail
  refine (rcheck_any ra a0 a1 0 _ HA.out).mono ?_
  rintro e w1 ⟨rfl, hb1⟩
  obtain ⟨X0, X1, X2, b1_⟩ := after3 hb1
  have q0 := Bx.lt X0
  have q1 := Bx.lt X1
  have q2 := Bx.lt X2
  clear hb1
  have c0 : ∀ i, w1.cell? ⟨w.heap.size, i, none⟩ = _ := Bx.cell X0
  have c1 : ∀ i, w1.cell? ⟨w.heap.size + 1, i, none⟩ = _ := Bx.cell X1
  have c2 : ∀ i, w1.cell? ⟨w.heap.size + 1 + 1, i, none⟩ = _ := Bx.cell X2
  have f2 : ∀ i, w1.frozen? ⟨w.heap.size + 1 + 1, i, none⟩ = false := Bx.frozen X2
  go_wp2_with fail
  refine (rcheck_any ra b0 b1 0 _ HB.out).mono ?_
  rintro e w2 ⟨rfl, hb2⟩
  clear q0 q1 q2 c0 c1 c2 f2
  have X0' := Bx.step X0 hb2
  have X1' := Bx.step X1 hb2
  have X2' := Bx.step X2 hb2
  have b2_ := bst b1_ hb2
  clear X0 X1 X2 hb2 b1_
  have q0 := Bx.lt X0'
  have q1 := Bx.lt X1'
  have q2 := Bx.lt X2'
  have c0 : ∀ i, w2.cell? ⟨w.heap.size, i, none⟩ = _ := Bx.cell X0'
  have c1 : ∀ i, w2.cell? ⟨w.heap.size + 1, i, none⟩ = _ := Bx.cell X1'
  have c2 : ∀ i, w2.cell? ⟨w.heap.size + 1 + 1, i, none⟩ = _ := Bx.cell X2'
  have f2 : ∀ i, w2.frozen? ⟨w.heap.size + 1 + 1, i, none⟩ = false := Bx.frozen X2'
  go_wp2
  refine retRLE (B := w.heap.size + 1 + 1) rfl rfl rfl rfl rfl (Bx.set2 X2' _ _) ?_
  exact ⟨rfl, below_set2 b2_ (by omega) _ _⟩

set_option maxHeartbeats 1000000 in
theorem rfits_same (ra a0 a1 : Int) (w : World) (ha : shp ra a0 a1 = 0) (h1 : 0 < ra) :
    Calls Tryd.prog 23 #[.int .i64 ra, .agg #[.int .i64 a0, .int .i64 a1], .int .i64 ra, .agg #[.int .i64 a0, .int .i64 a1]] w fun e w' => e = .returned (.tuple #[.int .i64 ra, .agg #[.int .i64 a0, .int .i64 a1], .int .i64 0]) ∧ Below w.heap.size w w' := by
  have HA := Lib.hid ha
  have HB := Lib.hid ha
  have g1 : (ra != 0) = true := by simp; omega
  have g2 : (ra == 0) = false := by simp; omega
  clear ha
  have hg := guardLens
  have hq := eqLens
  go_enter Tryd.func23, Tryd.ntmps23
  go_wp2_with fail
  refine (rcheck_any ra a0 a1 0 _ HA.out).mono ?_
  rintro e w1 ⟨rfl, hb1⟩
  obtain ⟨X0, X1, X2, b1_⟩ := after3 hb1
  have q0 := Bx.lt X0
  have q1 := Bx.lt X1
  have q2 := Bx.lt X2
  clear hb1
  have c0 : ∀ i, w1.cell? ⟨w.heap.size, i, none⟩ = _ := Bx.cell X0
  have c1 : ∀ i, w1.cell? ⟨w.heap.size + 1, i, none⟩ = _ := Bx.cell X1
  have c2 : ∀ i, w1.cell? ⟨w.heap.size + 1 + 1, i, none⟩ = _ := Bx.cell X2
  have f2 : ∀ i, w1.frozen? ⟨w.heap.size + 1 + 1, i, none⟩ = false := Bx.frozen X2
  go_wp2_with fail
  refine (rcheck_any ra a0 a1 0 _ HB.out).mono ?_
  rintro e w2 ⟨rfl, hb2⟩
  clear q0 q1 q2 c0 c1 c2 f2
  have X0' := Bx.step X0 hb2
  have X1' := Bx.step X1 hb2
  have X2' := Bx.step X2 hb2
  have b2_ := bst b1_ hb2
  clear X0 X1 X2 hb2 b1_
  have q0 := Bx.lt X0'
  have q1 := Bx.lt X1'
  have q2 := Bx.lt X2'
  have c0 : ∀ i, w2.cell? ⟨w.heap.size, i, none⟩ = _ := Bx.cell X0'
  have c1 : ∀ i, w2.cell? ⟨w.heap.size + 1, i, none⟩ = _ := Bx.cell X1'
  have c2 : ∀ i, w2.cell? ⟨w.heap.size + 1 + 1, i, none⟩ = _ := Bx.cell X2'
  have f2 : ∀ i, w2.frozen? ⟨w.heap.size + 1 + 1, i, none⟩ = false := Bx.frozen X2'
  go_wp2
  go_region
  go_wp2
  refine retRLE (B := w.heap.size + 1 + 1) rfl rfl rfl rfl rfl (Bx.dr (Bx.set2 X2' _ _)) ?_
  exact ⟨rfl, bdr (below_set2 b2_ (by omega) _ _)⟩


theorem fits_any (ra a0 a1 rb b0 b1 r x y ec : Int) (w : World) (h : sFits ra a0 a1 rb b0 b1 = (r, x, y, ec)) :
    Calls Tryd.prog 22 #[.int .i64 ra, .agg #[.int .i64 a0, .int .i64 a1], .int .i64 rb, .agg #[.int .i64 b0, .int .i64 b1]] w fun e w' => e = .returned (.tuple #[.int .i64 r, .agg #[.int .i64 x, .int .i64 y], .int .i64 ec]) ∧ Below w.heap.size w w' := by
  unfold sFits at h
  split at h
  · rename_i ha
    simp only [Prod.mk.injEq] at h
    obtain ⟨rfl, rfl, rfl, rfl⟩ := h
    exact fits_ea _ ra rb a0 a1 b0 b1 w rfl ha
  rename_i ha
  have ha := Decidable.not_not.1 ha
  split at h
  · rename_i hb
    simp only [Prod.mk.injEq] at h
    obtain ⟨rfl, rfl, rfl, rfl⟩ := h
    exact fits_eb _ ra rb a0 a1 b0 b1 w ha rfl hb
  rename_i hb
  have hb := Decidable.not_not.1 hb
  have gA : 0 ≤ ra := by rcases shp_ok ha with h | h | h <;> omega
  have gB : 0 ≤ rb := by rcases shp_ok hb with h | h | h <;> omega
  split at h
  · rename_i h0
    simp only [Prod.mk.injEq] at h
    obtain ⟨rfl, rfl, rfl, rfl⟩ := h
    subst h0
    exact fits_b0 ra a0 a1 b0 b1 w ha hb
  rename_i h0
  split at h
  · rename_i h1
    simp only [Prod.mk.injEq] at h
    obtain ⟨rfl, rfl, rfl, rfl⟩ := h
    subst h1
    exact fits_a0 rb a0 a1 b0 b1 w ha hb (by omega)
  rename_i h1
  split at h
  · rename_i h2
    simp only [Prod.mk.injEq] at h
    obtain ⟨rfl, rfl, rfl, rfl⟩ := h
    exact fits_form ra rb a0 a1 b0 b1 w ha hb (by omega) (by omega) h2
  rename_i h2
  have h2 := Decidable.not_not.1 h2
  subst h2
  split at h
  · rename_i h3
    simp only [Prod.mk.injEq] at h
    obtain ⟨rfl, rfl, rfl, rfl⟩ := h
    exact fits_len ra a0 a1 b0 b1 w ha hb (by omega) h3
  · rename_i h3
    simp only [Prod.mk.injEq] at h
    obtain ⟨rfl, rfl, rfl, rfl⟩ := h
    obtain ⟨rfl, rfl⟩ : a0 = b0 ∧ a1 = b1 := by omega
    exact fits_same ra a0 a1 w ha (by omega)

theorem rfits_any (ra a0 a1 rb b0 b1 r x y ec : Int) (w : World) (h : sFits ra a0 a1 rb b0 b1 = (r, x, y, ec)) :
    Calls Tryd.prog 23 #[.int .i64 ra, .agg #[.int .i64 a0, .int .i64 a1], .int .i64 rb, .agg #[.int .i64 b0, .int .i64 b1]] w fun e w' => e = .returned (.tuple #[.int .i64 r, .agg #[.int .i64 x, .int .i64 y], .int .i64 ec]) ∧ Below w.heap.size w w' := by
  unfold sFits at h
  split at h
  · rename_i ha
    simp only [Prod.mk.injEq] at h
    obtain ⟨rfl, rfl, rfl, rfl⟩ := h
    exact rfits_ea _ ra rb a0 a1 b0 b1 w rfl ha
  rename_i ha
  have ha := Decidable.not_not.1 ha
  split at h
  · rename_i hb
    simp only [Prod.mk.injEq] at h
    obtain ⟨rfl, rfl, rfl, rfl⟩ := h
    exact rfits_eb _ ra rb a0 a1 b0 b1 w ha rfl hb
  rename_i hb
  have hb := Decidable.not_not.1 hb
  have gA : 0 ≤ ra := by rcases shp_ok ha with h | h | h <;> omega
  have gB : 0 ≤ rb := by rcases shp_ok hb with h | h | h <;> omega
  split at h
  · rename_i h0
    simp only [Prod.mk.injEq] at h
    obtain ⟨rfl, rfl, rfl, rfl⟩ := h
    subst h0
    exact rfits_b0 ra a0 a1 b0 b1 w ha hb gA
  rename_i h0
  split at h
  · rename_i h1
    simp only [Prod.mk.injEq] at h
    obtain ⟨rfl, rfl, rfl, rfl⟩ := h
    subst h1
    exact rfits_a0 rb a0 a1 b0 b1 w ha hb (by omega)
  rename_i h1
  split at h
  · rename_i h2
    simp only [Prod.mk.injEq] at h
    obtain ⟨rfl, rfl, rfl, rfl⟩ := h
    exact rfits_form ra rb a0 a1 b0 b1 w ha hb (by omega) (by omega) h2
  rename_i h2
  have h2 := Decidable.not_not.1 h2
  subst h2
  split at h
  · rename_i h3
    simp only [Prod.mk.injEq] at h
    obtain ⟨rfl, rfl, rfl, rfl⟩ := h
    exact rfits_len ra a0 a1 b0 b1 w ha hb (by omega) h3
  · rename_i h3
    simp only [Prod.mk.injEq] at h
    obtain ⟨rfl, rfl, rfl, rfl⟩ := h
    obtain ⟨rfl, rfl⟩ : a0 = b0 ∧ a1 = b1 := by omega
    exact rfits_same ra a0 a1 w ha (by omega)
end Go.Proofs.YteegipfgbcnfkaaDoor

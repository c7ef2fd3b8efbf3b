/-
  The law ShapesSame: its walk.
-/
import Derived.Test.YteegipfgbcnfkaaDoorLsam5
import Derived.Test.YteegipfgbcnfkaaDoorLn
import Derived.Test.YteegipfgbcnfkaaDoorRwf
import Derived.Test.YteegipfgbcnfkaaDoorSlt
import Derived.Deep.RegionHeld3
import Derived.Deep.CutRange
import Derived.RegionTactic
namespace Go.Proofs.YteegipfgbcnfkaaDoor
open Go.RowKit
attribute [local go_sem] Oper.semAt_some


set_option maxRecDepth 100000 in
set_option maxHeartbeats 16000000 in
theorem same_no0 (s0 s1 rt t0 t1 a x y e f : Int) (w : World) (hA : sFits 0 s0 s1 rt t0 t1 = (a, x, y, e)) (hB : sFits rt t0 t1 0 s0 s1 = (a, x, y, f)) (hE : e ≠ 0) (hF : f ≠ 0) (hC : shp 0 s0 s1 = 0) (hR : sRows 0 s0 s1 = (1, 1, 0)) (hO : sFits 0 s0 s1 0 s0 s1 = (0, s0, s1, 0)) (hW : sFits 0 0 0 0 s0 s1 = (0, s0, s1, 0)) (hN : prodI 0 s0 s1 = 1) (hL : sLens 0 [] = (s0, s1, 0)) (hG : sFlipS 0 s0 s1 = (0, 0, 6)) :
    Calls Tryd.prog 10 #[.agg #[.int .i64 0, .int .i64 s0, .int .i64 s1], .agg #[.int .i64 rt, .int .i64 t0, .int .i64 t1]] w fun e w' => e = .returned (.bool true) ∧ Below w.heap.size w w' := by
  have HA := Lib.hid hA
  have HB := Lib.hid hB
  have HE := Lib.hid hE
  have HF := Lib.hid hF
  have HC := Lib.hid hC
  have HR := Lib.hid hR
  have HO := Lib.hid hO
  have HW := Lib.hid hW
  have HN := Lib.hid hN
  have HL := Lib.hid hL
  have HG := Lib.hid hG
  clear hA hB hE hF hC hR hO hW hN hL hG
  have hgu := guardLens
  have hqu := eqLens
  have hs1 : (x == x && y == y) = true := by simp
  have hs2 : (s0 == s0 && s1 == s1) = true := by simp
  have e1 : (e == 0) = false := by simpa using HE.out
  have f1 : (f == 0) = false := by simpa using HF.out
  have e2 : (e != 0) = true := by simpa using HE.out
  go_enter Tryd.func10, Tryd.ntmps10
  go_wp2_with fail
  refine (fits_any 0 s0 s1 rt t0 t1 a x y e _ HA.out).mono ?_
  rintro e w1 ⟨rfl, hst⟩
  obtain ⟨Xs, Xt, hst⟩ := after2 hst
  have b : Below w.heap.size w w1 := hst
  clear hst
  have dXs : ∀ i, w1.cell? ⟨w.heap.size, i, none⟩ = _ := Bx.cell Xs
  have eXs : ∀ i, w1.frozen? ⟨w.heap.size, i, none⟩ = false := Bx.frozen Xs
  have qXs := Bx.lt Xs
  have dXt : ∀ i, w1.cell? ⟨w.heap.size + 1, i, none⟩ = _ := Bx.cell Xt
  have eXt : ∀ i, w1.frozen? ⟨w.heap.size + 1, i, none⟩ = false := Bx.frozen Xt
  have qXt := Bx.lt Xt
  go_wp2_with fail
  refine (fits_any rt t0 t1 0 s0 s1 a x y f _ HB.out).mono ?_
  rintro e w2 ⟨rfl, hst⟩
  clear dXs eXs qXs dXt eXt qXt
  obtain ⟨X1, hst⟩ := after1 hst
  replace Xs := Bx.step Xs hst
  replace Xt := Bx.step Xt hst
  replace b : Below w.heap.size w w2 := bst b hst
  clear hst
  have dXs : ∀ i, w2.cell? ⟨w.heap.size, i, none⟩ = _ := Bx.cell Xs
  have eXs : ∀ i, w2.frozen? ⟨w.heap.size, i, none⟩ = false := Bx.frozen Xs
  have qXs := Bx.lt Xs
  have dXt : ∀ i, w2.cell? ⟨w.heap.size + 1, i, none⟩ = _ := Bx.cell Xt
  have eXt : ∀ i, w2.frozen? ⟨w.heap.size + 1, i, none⟩ = false := Bx.frozen Xt
  have qXt := Bx.lt Xt
  have dX1 : ∀ i, w2.cell? ⟨w1.heap.size, i, none⟩ = _ := Bx.cell X1
  have eX1 : ∀ i, w2.frozen? ⟨w1.heap.size, i, none⟩ = false := Bx.frozen X1
  have qX1 := Bx.lt X1
  go_wp2_with fail
  refine (check_any 0 s0 s1 0 _ HC.out).mono ?_
  rintro e w3 ⟨rfl, hst⟩
  clear dXs eXs qXs dXt eXt qXt dX1 eX1 qX1
  obtain ⟨X2, hst⟩ := after1 hst
  replace Xs := Bx.step Xs hst
  replace Xt := Bx.step Xt hst
  replace X1 := Bx.step X1 hst
  replace b : Below w.heap.size w w3 := bst b hst
  clear hst
  have dXs : ∀ i, w3.cell? ⟨w.heap.size, i, none⟩ = _ := Bx.cell Xs
  have eXs : ∀ i, w3.frozen? ⟨w.heap.size, i, none⟩ = false := Bx.frozen Xs
  have qXs := Bx.lt Xs
  have dXt : ∀ i, w3.cell? ⟨w.heap.size + 1, i, none⟩ = _ := Bx.cell Xt
  have eXt : ∀ i, w3.frozen? ⟨w.heap.size + 1, i, none⟩ = false := Bx.frozen Xt
  have qXt := Bx.lt Xt
  have dX1 : ∀ i, w3.cell? ⟨w1.heap.size, i, none⟩ = _ := Bx.cell X1
  have eX1 : ∀ i, w3.frozen? ⟨w1.heap.size, i, none⟩ = false := Bx.frozen X1
  have qX1 := Bx.lt X1
  have dX2 : ∀ i, w3.cell? ⟨w2.heap.size, i, none⟩ = _ := Bx.cell X2
  have eX2 : ∀ i, w3.frozen? ⟨w2.heap.size, i, none⟩ = false := Bx.frozen X2
  have qX2 := Bx.lt X2
  go_wp2_with fail
  refine (cells_ok 0 s0 s1 _ HC.out).mono ?_
  rintro e w4 ⟨rfl, hst⟩
  clear dXs eXs qXs dXt eXt qXt dX1 eX1 qX1 dX2 eX2 qX2
  replace Xs := Bx.step Xs hst
  replace Xt := Bx.step Xt hst
  replace X1 := Bx.step X1 hst
  replace X2 := Bx.step X2 hst
  replace b : Below w.heap.size w w4 := bst b hst
  clear hst
  rw [HN.out]
  have dXs : ∀ i, w4.cell? ⟨w.heap.size, i, none⟩ = _ := Bx.cell Xs
  have eXs : ∀ i, w4.frozen? ⟨w.heap.size, i, none⟩ = false := Bx.frozen Xs
  have qXs := Bx.lt Xs
  have dXt : ∀ i, w4.cell? ⟨w.heap.size + 1, i, none⟩ = _ := Bx.cell Xt
  have eXt : ∀ i, w4.frozen? ⟨w.heap.size + 1, i, none⟩ = false := Bx.frozen Xt
  have qXt := Bx.lt Xt
  have dX1 : ∀ i, w4.cell? ⟨w1.heap.size, i, none⟩ = _ := Bx.cell X1
  have eX1 : ∀ i, w4.frozen? ⟨w1.heap.size, i, none⟩ = false := Bx.frozen X1
  have qX1 := Bx.lt X1
  have dX2 : ∀ i, w4.cell? ⟨w2.heap.size, i, none⟩ = _ := Bx.cell X2
  have eX2 : ∀ i, w4.frozen? ⟨w2.heap.size, i, none⟩ = false := Bx.frozen X2
  have qX2 := Bx.lt X2
  go_wp2_with fail
  refine (rows_any 0 s0 s1 1 1 0 _ HR.out).mono ?_
  rintro e w5 ⟨rfl, hst⟩
  clear dXs eXs qXs dXt eXt qXt dX1 eX1 qX1 dX2 eX2 qX2
  replace Xs := Bx.step Xs hst
  replace Xt := Bx.step Xt hst
  replace X1 := Bx.step X1 hst
  replace X2 := Bx.step X2 hst
  replace b : Below w.heap.size w w5 := bst b hst
  clear hst
  have dXs : ∀ i, w5.cell? ⟨w.heap.size, i, none⟩ = _ := Bx.cell Xs
  have eXs : ∀ i, w5.frozen? ⟨w.heap.size, i, none⟩ = false := Bx.frozen Xs
  have qXs := Bx.lt Xs
  have dXt : ∀ i, w5.cell? ⟨w.heap.size + 1, i, none⟩ = _ := Bx.cell Xt
  have eXt : ∀ i, w5.frozen? ⟨w.heap.size + 1, i, none⟩ = false := Bx.frozen Xt
  have qXt := Bx.lt Xt
  have dX1 : ∀ i, w5.cell? ⟨w1.heap.size, i, none⟩ = _ := Bx.cell X1
  have eX1 : ∀ i, w5.frozen? ⟨w1.heap.size, i, none⟩ = false := Bx.frozen X1
  have qX1 := Bx.lt X1
  have dX2 : ∀ i, w5.cell? ⟨w2.heap.size, i, none⟩ = _ := Bx.cell X2
  have eX2 : ∀ i, w5.frozen? ⟨w2.heap.size, i, none⟩ = false := Bx.frozen X2
  have qX2 := Bx.lt X2
  go_wp2_with fail
  refine (fits_any 0 s0 s1 0 s0 s1 0 s0 s1 0 _ HO.out).mono ?_
  rintro e w6 ⟨rfl, hst⟩
  clear dXs eXs qXs dXt eXt qXt dX1 eX1 qX1 dX2 eX2 qX2
  replace Xs := Bx.step Xs hst
  replace Xt := Bx.step Xt hst
  replace X1 := Bx.step X1 hst
  replace X2 := Bx.step X2 hst
  replace b : Below w.heap.size w w6 := bst b hst
  clear hst
  have dXs : ∀ i, w6.cell? ⟨w.heap.size, i, none⟩ = _ := Bx.cell Xs
  have eXs : ∀ i, w6.frozen? ⟨w.heap.size, i, none⟩ = false := Bx.frozen Xs
  have qXs := Bx.lt Xs
  have dXt : ∀ i, w6.cell? ⟨w.heap.size + 1, i, none⟩ = _ := Bx.cell Xt
  have eXt : ∀ i, w6.frozen? ⟨w.heap.size + 1, i, none⟩ = false := Bx.frozen Xt
  have qXt := Bx.lt Xt
  have dX1 : ∀ i, w6.cell? ⟨w1.heap.size, i, none⟩ = _ := Bx.cell X1
  have eX1 : ∀ i, w6.frozen? ⟨w1.heap.size, i, none⟩ = false := Bx.frozen X1
  have qX1 := Bx.lt X1
  have dX2 : ∀ i, w6.cell? ⟨w2.heap.size, i, none⟩ = _ := Bx.cell X2
  have eX2 : ∀ i, w6.frozen? ⟨w2.heap.size, i, none⟩ = false := Bx.frozen X2
  have qX2 := Bx.lt X2
  go_wp2_with fail
  refine (fits_any 0 0 0 0 s0 s1 0 s0 s1 0 _ HW.out).mono ?_
  rintro e w7 ⟨rfl, hst⟩
  clear dXs eXs qXs dXt eXt qXt dX1 eX1 qX1 dX2 eX2 qX2
  obtain ⟨X3, hst⟩ := after1 hst
  replace Xs := Bx.step Xs hst
  replace Xt := Bx.step Xt hst
  replace X1 := Bx.step X1 hst
  replace X2 := Bx.step X2 hst
  replace b : Below w.heap.size w w7 := bst b hst
  clear hst
  have dXs : ∀ i, w7.cell? ⟨w.heap.size, i, none⟩ = _ := Bx.cell Xs
  have eXs : ∀ i, w7.frozen? ⟨w.heap.size, i, none⟩ = false := Bx.frozen Xs
  have qXs := Bx.lt Xs
  have dXt : ∀ i, w7.cell? ⟨w.heap.size + 1, i, none⟩ = _ := Bx.cell Xt
  have eXt : ∀ i, w7.frozen? ⟨w.heap.size + 1, i, none⟩ = false := Bx.frozen Xt
  have qXt := Bx.lt Xt
  have dX1 : ∀ i, w7.cell? ⟨w1.heap.size, i, none⟩ = _ := Bx.cell X1
  have eX1 : ∀ i, w7.frozen? ⟨w1.heap.size, i, none⟩ = false := Bx.frozen X1
  have qX1 := Bx.lt X1
  have dX2 : ∀ i, w7.cell? ⟨w2.heap.size, i, none⟩ = _ := Bx.cell X2
  have eX2 : ∀ i, w7.frozen? ⟨w2.heap.size, i, none⟩ = false := Bx.frozen X2
  have qX2 := Bx.lt X2
  have dX3 : ∀ i, w7.cell? ⟨w6.heap.size, i, none⟩ = _ := Bx.cell X3
  have eX3 : ∀ i, w7.frozen? ⟨w6.heap.size, i, none⟩ = false := Bx.frozen X3
  have qX3 := Bx.lt X3
  go_upto_region 13 with fail
  have X4 := Bx.new w7 #[.int .i64 s0, .int .i64 s1] 22
  have hst := below1 w7 (.cells #[.int .i64 s0, .int .i64 s1] 22)
  obtain ⟨w8, hw_⟩ : ∃ w8, w7.alloc (.cells #[.int .i64 s0, .int .i64 s1] 22) = w8 := ⟨_, rfl⟩
  rw [hw_] at X4 hst
  rw [hw_]
  clear hw_
  clear dXs eXs qXs dXt eXt qXt dX1 eX1 qX1 dX2 eX2 qX2 dX3 eX3 qX3
  replace Xs := Bx.step Xs hst
  replace Xt := Bx.step Xt hst
  replace X1 := Bx.step X1 hst
  replace X2 := Bx.step X2 hst
  replace X3 := Bx.step X3 hst
  replace b := bst b hst
  clear hst
  go_cut [20, 7] from 160 to 175 (fun p e wx => ∃ B : Nat, p = .pointer (some ⟨B, 0, none⟩) ∧ e = .int .i64 0 ∧ Below w8.heap.size w8 wx ∧ Hid (Bx wx B #[.int .i64 s0, .int .i64 s1] 22) ∧ w8.heap.size ≤ B)
  case first =>
    have hS : ∀ u, Below w8.heap.size w8 u → (∀ i, u.cell? ⟨w.heap.size, i, none⟩ = #[.int .i64 0, .int .i64 s0, .int .i64 s1][i]?) := fun u h => Bx.cell (Bx.step Xs h)
    have P0 : Below w8.heap.size w8 w8.drew := bdr (Below.refl _ _)
    have P1 : Below w8.heap.size w8 (w8.alloc (.cells #[.int .i64 0, .int .i64 0] 22)).drew := bdr (bal (Below.refl _ _) _)
    have P2 : Below w8.heap.size w8 (w8.alloc (.cells #[.int .i64 s0, .int .i64 s1] 3)).drew := bdr (bal (Below.refl _ _) _)
    have P3 : Below w8.heap.size w8 ((w8.alloc (.cells #[.int .i64 s0, .int .i64 s1] 3)).alloc (.cells #[.int .i64 0, .int .i64 0] 22)).drew := bdr (bal (bal (Below.refl _ _) _) _)
    have P4 : Below w8.heap.size w8 ((w8.alloc (.cells #[.int .i64 0, .int .i64 0] 22)).alloc (.cells #[.int .i64 s0, .int .i64 s1] 3)).drew := bdr (bal (bal (Below.refl _ _) _) _)
    have L2 := Lib.hid (show Sl (w8.alloc (.cells #[.int .i64 s0, .int .i64 s1] 3)).drew (some ⟨w8.heap.size, 0, none⟩) 0 2 [] from Sl.upto (q := 0) (slInts w8 [s0, s1] 2 rfl (by omega)) (by omega))
    have L3 := Lib.hid (show Sl ((w8.alloc (.cells #[.int .i64 s0, .int .i64 s1] 3)).alloc (.cells #[.int .i64 0, .int .i64 0] 22)).drew (some ⟨w8.heap.size, 0, none⟩) 0 2 [] from Sl.upto (q := 0) (Sl.step (w := w8.alloc (.cells #[.int .i64 s0, .int .i64 s1] 3)) (slInts w8 [s0, s1] 2 rfl (by omega)) (bdr (below1 _ _))) (by omega))
    have h1_ : (w8.alloc (.cells #[.int .i64 0, .int .i64 0] 22)).heap.size = w8.heap.size + 1 := by simp
    have h2_ : (w8.alloc (.cells #[.int .i64 s0, .int .i64 s1] 3)).heap.size = w8.heap.size + 1 := by simp
    have L4 := Lib.hid (show Sl ((w8.alloc (.cells #[.int .i64 0, .int .i64 0] 22)).alloc (.cells #[.int .i64 s0, .int .i64 s1] 3)).drew (some ⟨w8.heap.size + 1, 0, none⟩) 0 2 [] by rw [← h1_]; exact Sl.upto (q := 0) (slInts (w8.alloc (.cells #[.int .i64 0, .int .i64 0] 22)) [s0, s1] 2 rfl (by omega)) (by omega))
    have N3 : Bx ((w8.alloc (.cells #[.int .i64 s0, .int .i64 s1] 3)).alloc (.cells #[.int .i64 0, .int .i64 0] 22)).drew (w8.heap.size + 1) #[.int .i64 0, .int .i64 0] 22 := by rw [← h2_]; exact Bx.new (w8.alloc (.cells #[.int .i64 s0, .int .i64 s1] 3)) _ _
    have N4 : Bx ((w8.alloc (.cells #[.int .i64 0, .int .i64 0] 22)).alloc (.cells #[.int .i64 s0, .int .i64 s1] 3)).drew (w8.heap.size) #[.int .i64 0, .int .i64 0] 22 := Bx.alloc (Bx.new w8 _ _) _
    clear h1_ h2_
    go_region_held3 (fun w' => (∀ i, w'.cell? ⟨w.heap.size, i, none⟩ = #[.int .i64 0, .int .i64 s0, .int .i64 s1][i]?))
      (with_reducible first | exact hS _ P0 | exact hS _ P1 | exact hS _ P2 | exact hS _ P3 | exact hS _ P4 | exact hS _ R1 | exact hS _ (bal R1 _) | exact hS _ (below_set2 R1 (Nat.le_succ _) _ _) | exact hS _ (below_set2 R1 (Nat.le_refl _) _ _))
      ((go_at_call 25; (with_reducible first | refine (lens_any 0 (some ⟨w8.heap.size, 0, none⟩) 0 2 [] s0 s1 0 _ L2.out HL.out).mono ?_ | refine (lens_any 0 (some ⟨w8.heap.size, 0, none⟩) 0 2 [] s0 s1 0 _ L3.out HL.out).mono ?_ | refine (lens_any 0 (some ⟨w8.heap.size + 1, 0, none⟩) 0 2 [] s0 s1 0 _ L4.out HL.out).mono ?_); rintro e y1 ⟨rfl, hb_⟩; have R1 : Below w8.heap.size w8 y1 := (by with_reducible first | exact bst P2 hb_ | exact bst P3 hb_ | exact bst P4 hb_); have ss1 := R1.size; (try (have M3 : Bx y1 (w8.heap.size + 1) #[.int .i64 0, .int .i64 0] 22 := (by with_reducible exact Bx.step N3 hb_))); (try (have M4 : Bx y1 (w8.heap.size) #[.int .i64 0, .int .i64 0] 22 := (by with_reducible exact Bx.step N4 hb_))); (first | (have gB : ∀ i, y1.cell? ⟨(w8.heap.size + 1), i, none⟩ = _ := Bx.cell M3; have kB : ∀ i, y1.frozen? ⟨(w8.heap.size + 1), i, none⟩ = false := Bx.frozen M3) | (have gB : ∀ i, y1.cell? ⟨(w8.heap.size), i, none⟩ = _ := Bx.cell M4; have kB : ∀ i, y1.frozen? ⟨(w8.heap.size), i, none⟩ = false := Bx.frozen M4) | skip)))
    all_goals go_wp2_with fail
    all_goals go_meet
    · exact ⟨y1.heap.size, rfl, rfl, bal R1 _, Lib.hid (Bx.new y1 _ _), R1.size⟩
    · exact ⟨(w8.heap.size + 1), rfl, rfl, below_set2 R1 (Nat.le_succ _) _ _, Lib.hid (Bx.set2 M3 _ _), Nat.le_succ _⟩
    · exact ⟨(w8.heap.size), rfl, rfl, below_set2 R1 (Nat.le_refl _) _ _, Lib.hid (Bx.set2 M4 _ _), Nat.le_refl _⟩
  case rest =>
  obtain ⟨B9, rfl, rfl, hst, HX_, hB9⟩ := hcut
  obtain ⟨w9, hw9⟩ : ∃ w9, wc = w9 := ⟨_, rfl⟩
  rw [hw9] at hst HX_
  rw [hw9]
  clear hw9
  replace Xs := Bx.step Xs hst
  replace Xt := Bx.step Xt hst
  replace X1 := Bx.step X1 hst
  replace X2 := Bx.step X2 hst
  replace X3 := Bx.step X3 hst
  replace X4 := Bx.step X4 hst
  replace b := bst b hst
  have X5 := HX_.out
  clear hst HX_
  have dXs : ∀ i, w9.cell? ⟨w.heap.size, i, none⟩ = _ := Bx.cell Xs
  have eXs : ∀ i, w9.frozen? ⟨w.heap.size, i, none⟩ = false := Bx.frozen Xs
  have qXs := Bx.lt Xs
  have dXt : ∀ i, w9.cell? ⟨w.heap.size + 1, i, none⟩ = _ := Bx.cell Xt
  have eXt : ∀ i, w9.frozen? ⟨w.heap.size + 1, i, none⟩ = false := Bx.frozen Xt
  have qXt := Bx.lt Xt
  have dX1 : ∀ i, w9.cell? ⟨w1.heap.size, i, none⟩ = _ := Bx.cell X1
  have eX1 : ∀ i, w9.frozen? ⟨w1.heap.size, i, none⟩ = false := Bx.frozen X1
  have qX1 := Bx.lt X1
  have dX2 : ∀ i, w9.cell? ⟨w2.heap.size, i, none⟩ = _ := Bx.cell X2
  have eX2 : ∀ i, w9.frozen? ⟨w2.heap.size, i, none⟩ = false := Bx.frozen X2
  have qX2 := Bx.lt X2
  have dX3 : ∀ i, w9.cell? ⟨w6.heap.size, i, none⟩ = _ := Bx.cell X3
  have eX3 : ∀ i, w9.frozen? ⟨w6.heap.size, i, none⟩ = false := Bx.frozen X3
  have qX3 := Bx.lt X3
  have dX4 : ∀ i, w9.cell? ⟨w7.heap.size, i, none⟩ = _ := Bx.cell X4
  have eX4 : ∀ i, w9.frozen? ⟨w7.heap.size, i, none⟩ = false := Bx.frozen X4
  have qX4 := Bx.lt X4
  have dX5 : ∀ i, w9.cell? ⟨B9, i, none⟩ = _ := Bx.cell X5
  have eX5 : ∀ i, w9.frozen? ⟨B9, i, none⟩ = false := Bx.frozen X5
  have qX5 := Bx.lt X5
  go_wp2_with fail
  refine (flip_any 0 s0 s1 0 0 6 _ HG.out).mono ?_
  rintro e w10 ⟨rfl, hst⟩
  clear dXs eXs qXs dXt eXt qXt dX1 eX1 qX1 dX2 eX2 qX2 dX3 eX3 qX3 dX4 eX4 qX4 dX5 eX5 qX5
  replace Xs := Bx.step Xs hst
  replace Xt := Bx.step Xt hst
  replace X1 := Bx.step X1 hst
  replace X2 := Bx.step X2 hst
  replace X3 := Bx.step X3 hst
  replace X4 := Bx.step X4 hst
  replace X5 := Bx.step X5 hst
  replace b : Below w.heap.size w w10 := bst b hst
  clear hst
  have dXs : ∀ i, w10.cell? ⟨w.heap.size, i, none⟩ = _ := Bx.cell Xs
  have eXs : ∀ i, w10.frozen? ⟨w.heap.size, i, none⟩ = false := Bx.frozen Xs
  have qXs := Bx.lt Xs
  have dXt : ∀ i, w10.cell? ⟨w.heap.size + 1, i, none⟩ = _ := Bx.cell Xt
  have eXt : ∀ i, w10.frozen? ⟨w.heap.size + 1, i, none⟩ = false := Bx.frozen Xt
  have qXt := Bx.lt Xt
  have dX1 : ∀ i, w10.cell? ⟨w1.heap.size, i, none⟩ = _ := Bx.cell X1
  have eX1 : ∀ i, w10.frozen? ⟨w1.heap.size, i, none⟩ = false := Bx.frozen X1
  have qX1 := Bx.lt X1
  have dX2 : ∀ i, w10.cell? ⟨w2.heap.size, i, none⟩ = _ := Bx.cell X2
  have eX2 : ∀ i, w10.frozen? ⟨w2.heap.size, i, none⟩ = false := Bx.frozen X2
  have qX2 := Bx.lt X2
  have dX3 : ∀ i, w10.cell? ⟨w6.heap.size, i, none⟩ = _ := Bx.cell X3
  have eX3 : ∀ i, w10.frozen? ⟨w6.heap.size, i, none⟩ = false := Bx.frozen X3
  have qX3 := Bx.lt X3
  have dX4 : ∀ i, w10.cell? ⟨w7.heap.size, i, none⟩ = _ := Bx.cell X4
  have eX4 : ∀ i, w10.frozen? ⟨w7.heap.size, i, none⟩ = false := Bx.frozen X4
  have qX4 := Bx.lt X4
  have dX5 : ∀ i, w10.cell? ⟨B9, i, none⟩ = _ := Bx.cell X5
  have eX5 : ∀ i, w10.frozen? ⟨B9, i, none⟩ = false := Bx.frozen X5
  have qX5 := Bx.lt X5
  go_wp2_with fail
  refine (awake5 _).mono ?_
  rintro e wz ⟨rfl, hbz⟩
  go_wp2
  go_ret
  exact ⟨rfl, bst (bal b _) hbz⟩
set_option maxRecDepth 100000 in
set_option maxHeartbeats 16000000 in
theorem same_no1 (s0 s1 rt t0 t1 a x y e f : Int) (w : World) (hA : sFits 1 s0 s1 rt t0 t1 = (a, x, y, e)) (hB : sFits rt t0 t1 1 s0 s1 = (a, x, y, f)) (hE : e ≠ 0) (hF : f ≠ 0) (hC : shp 1 s0 s1 = 0) (hp0 : 0 ≤ s0) (hp1 : s0 ≤ 400) (hR : sRows 1 s0 s1 = (1, s0, 0)) (hO : sFits 1 s0 s1 1 s0 s1 = (1, s0, s1, 0)) (hW : sFits 0 0 0 1 s0 s1 = (1, s0, s1, 0)) (hN : prodI 1 s0 s1 = s0) (hL : sLens 1 [s0] = (s0, s1, 0)) (hG : sFlipS 1 s0 s1 = (0, 0, 6)) :
    Calls Tryd.prog 10 #[.agg #[.int .i64 1, .int .i64 s0, .int .i64 s1], .agg #[.int .i64 rt, .int .i64 t0, .int .i64 t1]] w fun e w' => e = .returned (.bool true) ∧ Below w.heap.size w w' := by
  have HA := Lib.hid hA
  have HB := Lib.hid hB
  have HE := Lib.hid hE
  have HF := Lib.hid hF
  have HC := Lib.hid hC
  have HR := Lib.hid hR
  have HO := Lib.hid hO
  have HW := Lib.hid hW
  have HN := Lib.hid hN
  have HL := Lib.hid hL
  have HG := Lib.hid hG
  clear hA hB hE hF hC hR hO hW hN hL hG
  have hgu := guardLens
  have hqu := eqLens
  have hs1 : (x == x && y == y) = true := by simp
  have hs2 : (s0 == s0 && s1 == s1) = true := by simp
  have e1 : (e == 0) = false := by simpa using HE.out
  have f1 : (f == 0) = false := by simpa using HF.out
  have e2 : (e != 0) = true := by simpa using HE.out
  go_enter Tryd.func10, Tryd.ntmps10
  go_wp2_with fail
  refine (fits_any 1 s0 s1 rt t0 t1 a x y e _ HA.out).mono ?_
  rintro e w1 ⟨rfl, hst⟩
  obtain ⟨Xs, Xt, hst⟩ := after2 hst
  have b : Below w.heap.size w w1 := hst
  clear hst
  have dXs : ∀ i, w1.cell? ⟨w.heap.size, i, none⟩ = _ := Bx.cell Xs
  have eXs : ∀ i, w1.frozen? ⟨w.heap.size, i, none⟩ = false := Bx.frozen Xs
  have qXs := Bx.lt Xs
  have dXt : ∀ i, w1.cell? ⟨w.heap.size + 1, i, none⟩ = _ := Bx.cell Xt
  have eXt : ∀ i, w1.frozen? ⟨w.heap.size + 1, i, none⟩ = false := Bx.frozen Xt
  have qXt := Bx.lt Xt
  go_wp2_with fail
  refine (fits_any rt t0 t1 1 s0 s1 a x y f _ HB.out).mono ?_
  rintro e w2 ⟨rfl, hst⟩
  clear dXs eXs qXs dXt eXt qXt
  obtain ⟨X1, hst⟩ := after1 hst
  replace Xs := Bx.step Xs hst
  replace Xt := Bx.step Xt hst
  replace b : Below w.heap.size w w2 := bst b hst
  clear hst
  have dXs : ∀ i, w2.cell? ⟨w.heap.size, i, none⟩ = _ := Bx.cell Xs
  have eXs : ∀ i, w2.frozen? ⟨w.heap.size, i, none⟩ = false := Bx.frozen Xs
  have qXs := Bx.lt Xs
  have dXt : ∀ i, w2.cell? ⟨w.heap.size + 1, i, none⟩ = _ := Bx.cell Xt
  have eXt : ∀ i, w2.frozen? ⟨w.heap.size + 1, i, none⟩ = false := Bx.frozen Xt
  have qXt := Bx.lt Xt
  have dX1 : ∀ i, w2.cell? ⟨w1.heap.size, i, none⟩ = _ := Bx.cell X1
  have eX1 : ∀ i, w2.frozen? ⟨w1.heap.size, i, none⟩ = false := Bx.frozen X1
  have qX1 := Bx.lt X1
  go_wp2_with fail
  refine (check_any 1 s0 s1 0 _ HC.out).mono ?_
  rintro e w3 ⟨rfl, hst⟩
  clear dXs eXs qXs dXt eXt qXt dX1 eX1 qX1
  obtain ⟨X2, hst⟩ := after1 hst
  replace Xs := Bx.step Xs hst
  replace Xt := Bx.step Xt hst
  replace X1 := Bx.step X1 hst
  replace b : Below w.heap.size w w3 := bst b hst
  clear hst
  have dXs : ∀ i, w3.cell? ⟨w.heap.size, i, none⟩ = _ := Bx.cell Xs
  have eXs : ∀ i, w3.frozen? ⟨w.heap.size, i, none⟩ = false := Bx.frozen Xs
  have qXs := Bx.lt Xs
  have dXt : ∀ i, w3.cell? ⟨w.heap.size + 1, i, none⟩ = _ := Bx.cell Xt
  have eXt : ∀ i, w3.frozen? ⟨w.heap.size + 1, i, none⟩ = false := Bx.frozen Xt
  have qXt := Bx.lt Xt
  have dX1 : ∀ i, w3.cell? ⟨w1.heap.size, i, none⟩ = _ := Bx.cell X1
  have eX1 : ∀ i, w3.frozen? ⟨w1.heap.size, i, none⟩ = false := Bx.frozen X1
  have qX1 := Bx.lt X1
  have dX2 : ∀ i, w3.cell? ⟨w2.heap.size, i, none⟩ = _ := Bx.cell X2
  have eX2 : ∀ i, w3.frozen? ⟨w2.heap.size, i, none⟩ = false := Bx.frozen X2
  have qX2 := Bx.lt X2
  go_wp2_with fail
  refine (cells_ok 1 s0 s1 _ HC.out).mono ?_
  rintro e w4 ⟨rfl, hst⟩
  clear dXs eXs qXs dXt eXt qXt dX1 eX1 qX1 dX2 eX2 qX2
  replace Xs := Bx.step Xs hst
  replace Xt := Bx.step Xt hst
  replace X1 := Bx.step X1 hst
  replace X2 := Bx.step X2 hst
  replace b : Below w.heap.size w w4 := bst b hst
  clear hst
  rw [HN.out]
  have dXs : ∀ i, w4.cell? ⟨w.heap.size, i, none⟩ = _ := Bx.cell Xs
  have eXs : ∀ i, w4.frozen? ⟨w.heap.size, i, none⟩ = false := Bx.frozen Xs
  have qXs := Bx.lt Xs
  have dXt : ∀ i, w4.cell? ⟨w.heap.size + 1, i, none⟩ = _ := Bx.cell Xt
  have eXt : ∀ i, w4.frozen? ⟨w.heap.size + 1, i, none⟩ = false := Bx.frozen Xt
  have qXt := Bx.lt Xt
  have dX1 : ∀ i, w4.cell? ⟨w1.heap.size, i, none⟩ = _ := Bx.cell X1
  have eX1 : ∀ i, w4.frozen? ⟨w1.heap.size, i, none⟩ = false := Bx.frozen X1
  have qX1 := Bx.lt X1
  have dX2 : ∀ i, w4.cell? ⟨w2.heap.size, i, none⟩ = _ := Bx.cell X2
  have eX2 : ∀ i, w4.frozen? ⟨w2.heap.size, i, none⟩ = false := Bx.frozen X2
  have qX2 := Bx.lt X2
  go_wp2_with fail
  refine (rows_any 1 s0 s1 1 s0 0 _ HR.out).mono ?_
  rintro e w5 ⟨rfl, hst⟩
  clear dXs eXs qXs dXt eXt qXt dX1 eX1 qX1 dX2 eX2 qX2
  replace Xs := Bx.step Xs hst
  replace Xt := Bx.step Xt hst
  replace X1 := Bx.step X1 hst
  replace X2 := Bx.step X2 hst
  replace b : Below w.heap.size w w5 := bst b hst
  clear hst
  have dXs : ∀ i, w5.cell? ⟨w.heap.size, i, none⟩ = _ := Bx.cell Xs
  have eXs : ∀ i, w5.frozen? ⟨w.heap.size, i, none⟩ = false := Bx.frozen Xs
  have qXs := Bx.lt Xs
  have dXt : ∀ i, w5.cell? ⟨w.heap.size + 1, i, none⟩ = _ := Bx.cell Xt
  have eXt : ∀ i, w5.frozen? ⟨w.heap.size + 1, i, none⟩ = false := Bx.frozen Xt
  have qXt := Bx.lt Xt
  have dX1 : ∀ i, w5.cell? ⟨w1.heap.size, i, none⟩ = _ := Bx.cell X1
  have eX1 : ∀ i, w5.frozen? ⟨w1.heap.size, i, none⟩ = false := Bx.frozen X1
  have qX1 := Bx.lt X1
  have dX2 : ∀ i, w5.cell? ⟨w2.heap.size, i, none⟩ = _ := Bx.cell X2
  have eX2 : ∀ i, w5.frozen? ⟨w2.heap.size, i, none⟩ = false := Bx.frozen X2
  have qX2 := Bx.lt X2
  go_wp2_with fail
  refine (fits_any 1 s0 s1 1 s0 s1 1 s0 s1 0 _ HO.out).mono ?_
  rintro e w6 ⟨rfl, hst⟩
  clear dXs eXs qXs dXt eXt qXt dX1 eX1 qX1 dX2 eX2 qX2
  replace Xs := Bx.step Xs hst
  replace Xt := Bx.step Xt hst
  replace X1 := Bx.step X1 hst
  replace X2 := Bx.step X2 hst
  replace b : Below w.heap.size w w6 := bst b hst
  clear hst
  have dXs : ∀ i, w6.cell? ⟨w.heap.size, i, none⟩ = _ := Bx.cell Xs
  have eXs : ∀ i, w6.frozen? ⟨w.heap.size, i, none⟩ = false := Bx.frozen Xs
  have qXs := Bx.lt Xs
  have dXt : ∀ i, w6.cell? ⟨w.heap.size + 1, i, none⟩ = _ := Bx.cell Xt
  have eXt : ∀ i, w6.frozen? ⟨w.heap.size + 1, i, none⟩ = false := Bx.frozen Xt
  have qXt := Bx.lt Xt
  have dX1 : ∀ i, w6.cell? ⟨w1.heap.size, i, none⟩ = _ := Bx.cell X1
  have eX1 : ∀ i, w6.frozen? ⟨w1.heap.size, i, none⟩ = false := Bx.frozen X1
  have qX1 := Bx.lt X1
  have dX2 : ∀ i, w6.cell? ⟨w2.heap.size, i, none⟩ = _ := Bx.cell X2
  have eX2 : ∀ i, w6.frozen? ⟨w2.heap.size, i, none⟩ = false := Bx.frozen X2
  have qX2 := Bx.lt X2
  go_wp2_with fail
  refine (fits_any 0 0 0 1 s0 s1 1 s0 s1 0 _ HW.out).mono ?_
  rintro e w7 ⟨rfl, hst⟩
  clear dXs eXs qXs dXt eXt qXt dX1 eX1 qX1 dX2 eX2 qX2
  obtain ⟨X3, hst⟩ := after1 hst
  replace Xs := Bx.step Xs hst
  replace Xt := Bx.step Xt hst
  replace X1 := Bx.step X1 hst
  replace X2 := Bx.step X2 hst
  replace b : Below w.heap.size w w7 := bst b hst
  clear hst
  have dXs : ∀ i, w7.cell? ⟨w.heap.size, i, none⟩ = _ := Bx.cell Xs
  have eXs : ∀ i, w7.frozen? ⟨w.heap.size, i, none⟩ = false := Bx.frozen Xs
  have qXs := Bx.lt Xs
  have dXt : ∀ i, w7.cell? ⟨w.heap.size + 1, i, none⟩ = _ := Bx.cell Xt
  have eXt : ∀ i, w7.frozen? ⟨w.heap.size + 1, i, none⟩ = false := Bx.frozen Xt
  have qXt := Bx.lt Xt
  have dX1 : ∀ i, w7.cell? ⟨w1.heap.size, i, none⟩ = _ := Bx.cell X1
  have eX1 : ∀ i, w7.frozen? ⟨w1.heap.size, i, none⟩ = false := Bx.frozen X1
  have qX1 := Bx.lt X1
  have dX2 : ∀ i, w7.cell? ⟨w2.heap.size, i, none⟩ = _ := Bx.cell X2
  have eX2 : ∀ i, w7.frozen? ⟨w2.heap.size, i, none⟩ = false := Bx.frozen X2
  have qX2 := Bx.lt X2
  have dX3 : ∀ i, w7.cell? ⟨w6.heap.size, i, none⟩ = _ := Bx.cell X3
  have eX3 : ∀ i, w7.frozen? ⟨w6.heap.size, i, none⟩ = false := Bx.frozen X3
  have qX3 := Bx.lt X3
  go_upto_region 13 with fail
  have X4 := Bx.new w7 #[.int .i64 s0, .int .i64 s1] 22
  have hst := below1 w7 (.cells #[.int .i64 s0, .int .i64 s1] 22)
  obtain ⟨w8, hw_⟩ : ∃ w8, w7.alloc (.cells #[.int .i64 s0, .int .i64 s1] 22) = w8 := ⟨_, rfl⟩
  rw [hw_] at X4 hst
  rw [hw_]
  clear hw_
  clear dXs eXs qXs dXt eXt qXt dX1 eX1 qX1 dX2 eX2 qX2 dX3 eX3 qX3
  replace Xs := Bx.step Xs hst
  replace Xt := Bx.step Xt hst
  replace X1 := Bx.step X1 hst
  replace X2 := Bx.step X2 hst
  replace X3 := Bx.step X3 hst
  replace b := bst b hst
  clear hst
  go_cut [20, 7] from 160 to 175 (fun p e wx => ∃ B : Nat, p = .pointer (some ⟨B, 0, none⟩) ∧ e = .int .i64 0 ∧ Below w8.heap.size w8 wx ∧ Hid (Bx wx B #[.int .i64 s0, .int .i64 s1] 22) ∧ w8.heap.size ≤ B)
  case first =>
    have hS : ∀ u, Below w8.heap.size w8 u → (∀ i, u.cell? ⟨w.heap.size, i, none⟩ = #[.int .i64 1, .int .i64 s0, .int .i64 s1][i]?) := fun u h => Bx.cell (Bx.step Xs h)
    have P0 : Below w8.heap.size w8 w8.drew := bdr (Below.refl _ _)
    have P1 : Below w8.heap.size w8 (w8.alloc (.cells #[.int .i64 0, .int .i64 0] 22)).drew := bdr (bal (Below.refl _ _) _)
    have P2 : Below w8.heap.size w8 (w8.alloc (.cells #[.int .i64 s0, .int .i64 s1] 3)).drew := bdr (bal (Below.refl _ _) _)
    have P3 : Below w8.heap.size w8 ((w8.alloc (.cells #[.int .i64 s0, .int .i64 s1] 3)).alloc (.cells #[.int .i64 0, .int .i64 0] 22)).drew := bdr (bal (bal (Below.refl _ _) _) _)
    have P4 : Below w8.heap.size w8 ((w8.alloc (.cells #[.int .i64 0, .int .i64 0] 22)).alloc (.cells #[.int .i64 s0, .int .i64 s1] 3)).drew := bdr (bal (bal (Below.refl _ _) _) _)
    have L2 := Lib.hid (show Sl (w8.alloc (.cells #[.int .i64 s0, .int .i64 s1] 3)).drew (some ⟨w8.heap.size, 0, none⟩) 1 2 [s0] from Sl.upto (q := 1) (slInts w8 [s0, s1] 2 rfl (by omega)) (by omega))
    have L3 := Lib.hid (show Sl ((w8.alloc (.cells #[.int .i64 s0, .int .i64 s1] 3)).alloc (.cells #[.int .i64 0, .int .i64 0] 22)).drew (some ⟨w8.heap.size, 0, none⟩) 1 2 [s0] from Sl.upto (q := 1) (Sl.step (w := w8.alloc (.cells #[.int .i64 s0, .int .i64 s1] 3)) (slInts w8 [s0, s1] 2 rfl (by omega)) (bdr (below1 _ _))) (by omega))
    have h1_ : (w8.alloc (.cells #[.int .i64 0, .int .i64 0] 22)).heap.size = w8.heap.size + 1 := by simp
    have h2_ : (w8.alloc (.cells #[.int .i64 s0, .int .i64 s1] 3)).heap.size = w8.heap.size + 1 := by simp
    have L4 := Lib.hid (show Sl ((w8.alloc (.cells #[.int .i64 0, .int .i64 0] 22)).alloc (.cells #[.int .i64 s0, .int .i64 s1] 3)).drew (some ⟨w8.heap.size + 1, 0, none⟩) 1 2 [s0] by rw [← h1_]; exact Sl.upto (q := 1) (slInts (w8.alloc (.cells #[.int .i64 0, .int .i64 0] 22)) [s0, s1] 2 rfl (by omega)) (by omega))
    have N3 : Bx ((w8.alloc (.cells #[.int .i64 s0, .int .i64 s1] 3)).alloc (.cells #[.int .i64 0, .int .i64 0] 22)).drew (w8.heap.size + 1) #[.int .i64 0, .int .i64 0] 22 := by rw [← h2_]; exact Bx.new (w8.alloc (.cells #[.int .i64 s0, .int .i64 s1] 3)) _ _
    have N4 : Bx ((w8.alloc (.cells #[.int .i64 0, .int .i64 0] 22)).alloc (.cells #[.int .i64 s0, .int .i64 s1] 3)).drew (w8.heap.size) #[.int .i64 0, .int .i64 0] 22 := Bx.alloc (Bx.new w8 _ _) _
    clear h1_ h2_
    go_region_held3 (fun w' => (∀ i, w'.cell? ⟨w.heap.size, i, none⟩ = #[.int .i64 1, .int .i64 s0, .int .i64 s1][i]?))
      (with_reducible first | exact hS _ P0 | exact hS _ P1 | exact hS _ P2 | exact hS _ P3 | exact hS _ P4 | exact hS _ R1 | exact hS _ (bal R1 _) | exact hS _ (below_set2 R1 (Nat.le_succ _) _ _) | exact hS _ (below_set2 R1 (Nat.le_refl _) _ _))
      ((go_at_call 25; (with_reducible first | refine (lens_any 1 (some ⟨w8.heap.size, 0, none⟩) 1 2 [s0] s0 s1 0 _ L2.out HL.out).mono ?_ | refine (lens_any 1 (some ⟨w8.heap.size, 0, none⟩) 1 2 [s0] s0 s1 0 _ L3.out HL.out).mono ?_ | refine (lens_any 1 (some ⟨w8.heap.size + 1, 0, none⟩) 1 2 [s0] s0 s1 0 _ L4.out HL.out).mono ?_); rintro e y1 ⟨rfl, hb_⟩; have R1 : Below w8.heap.size w8 y1 := (by with_reducible first | exact bst P2 hb_ | exact bst P3 hb_ | exact bst P4 hb_); have ss1 := R1.size; (try (have M3 : Bx y1 (w8.heap.size + 1) #[.int .i64 0, .int .i64 0] 22 := (by with_reducible exact Bx.step N3 hb_))); (try (have M4 : Bx y1 (w8.heap.size) #[.int .i64 0, .int .i64 0] 22 := (by with_reducible exact Bx.step N4 hb_))); (first | (have gB : ∀ i, y1.cell? ⟨(w8.heap.size + 1), i, none⟩ = _ := Bx.cell M3; have kB : ∀ i, y1.frozen? ⟨(w8.heap.size + 1), i, none⟩ = false := Bx.frozen M3) | (have gB : ∀ i, y1.cell? ⟨(w8.heap.size), i, none⟩ = _ := Bx.cell M4; have kB : ∀ i, y1.frozen? ⟨(w8.heap.size), i, none⟩ = false := Bx.frozen M4) | skip)))
    all_goals go_wp2_with fail
    all_goals go_meet
    · exact ⟨y1.heap.size, rfl, rfl, bal R1 _, Lib.hid (Bx.new y1 _ _), R1.size⟩
    · exact ⟨(w8.heap.size + 1), rfl, rfl, below_set2 R1 (Nat.le_succ _) _ _, Lib.hid (Bx.set2 M3 _ _), Nat.le_succ _⟩
    · exact ⟨(w8.heap.size), rfl, rfl, below_set2 R1 (Nat.le_refl _) _ _, Lib.hid (Bx.set2 M4 _ _), Nat.le_refl _⟩
  case rest =>
  obtain ⟨B9, rfl, rfl, hst, HX_, hB9⟩ := hcut
  obtain ⟨w9, hw9⟩ : ∃ w9, wc = w9 := ⟨_, rfl⟩
  rw [hw9] at hst HX_
  rw [hw9]
  clear hw9
  replace Xs := Bx.step Xs hst
  replace Xt := Bx.step Xt hst
  replace X1 := Bx.step X1 hst
  replace X2 := Bx.step X2 hst
  replace X3 := Bx.step X3 hst
  replace X4 := Bx.step X4 hst
  replace b := bst b hst
  have X5 := HX_.out
  clear hst HX_
  have dXs : ∀ i, w9.cell? ⟨w.heap.size, i, none⟩ = _ := Bx.cell Xs
  have eXs : ∀ i, w9.frozen? ⟨w.heap.size, i, none⟩ = false := Bx.frozen Xs
  have qXs := Bx.lt Xs
  have dXt : ∀ i, w9.cell? ⟨w.heap.size + 1, i, none⟩ = _ := Bx.cell Xt
  have eXt : ∀ i, w9.frozen? ⟨w.heap.size + 1, i, none⟩ = false := Bx.frozen Xt
  have qXt := Bx.lt Xt
  have dX1 : ∀ i, w9.cell? ⟨w1.heap.size, i, none⟩ = _ := Bx.cell X1
  have eX1 : ∀ i, w9.frozen? ⟨w1.heap.size, i, none⟩ = false := Bx.frozen X1
  have qX1 := Bx.lt X1
  have dX2 : ∀ i, w9.cell? ⟨w2.heap.size, i, none⟩ = _ := Bx.cell X2
  have eX2 : ∀ i, w9.frozen? ⟨w2.heap.size, i, none⟩ = false := Bx.frozen X2
  have qX2 := Bx.lt X2
  have dX3 : ∀ i, w9.cell? ⟨w6.heap.size, i, none⟩ = _ := Bx.cell X3
  have eX3 : ∀ i, w9.frozen? ⟨w6.heap.size, i, none⟩ = false := Bx.frozen X3
  have qX3 := Bx.lt X3
  have dX4 : ∀ i, w9.cell? ⟨w7.heap.size, i, none⟩ = _ := Bx.cell X4
  have eX4 : ∀ i, w9.frozen? ⟨w7.heap.size, i, none⟩ = false := Bx.frozen X4
  have qX4 := Bx.lt X4
  have dX5 : ∀ i, w9.cell? ⟨B9, i, none⟩ = _ := Bx.cell X5
  have eX5 : ∀ i, w9.frozen? ⟨B9, i, none⟩ = false := Bx.frozen X5
  have qX5 := Bx.lt X5
  go_wp2_with fail
  refine (flip_any 1 s0 s1 0 0 6 _ HG.out).mono ?_
  rintro e w10 ⟨rfl, hst⟩
  clear dXs eXs qXs dXt eXt qXt dX1 eX1 qX1 dX2 eX2 qX2 dX3 eX3 qX3 dX4 eX4 qX4 dX5 eX5 qX5
  replace Xs := Bx.step Xs hst
  replace Xt := Bx.step Xt hst
  replace X1 := Bx.step X1 hst
  replace X2 := Bx.step X2 hst
  replace X3 := Bx.step X3 hst
  replace X4 := Bx.step X4 hst
  replace X5 := Bx.step X5 hst
  replace b : Below w.heap.size w w10 := bst b hst
  clear hst
  have dXs : ∀ i, w10.cell? ⟨w.heap.size, i, none⟩ = _ := Bx.cell Xs
  have eXs : ∀ i, w10.frozen? ⟨w.heap.size, i, none⟩ = false := Bx.frozen Xs
  have qXs := Bx.lt Xs
  have dXt : ∀ i, w10.cell? ⟨w.heap.size + 1, i, none⟩ = _ := Bx.cell Xt
  have eXt : ∀ i, w10.frozen? ⟨w.heap.size + 1, i, none⟩ = false := Bx.frozen Xt
  have qXt := Bx.lt Xt
  have dX1 : ∀ i, w10.cell? ⟨w1.heap.size, i, none⟩ = _ := Bx.cell X1
  have eX1 : ∀ i, w10.frozen? ⟨w1.heap.size, i, none⟩ = false := Bx.frozen X1
  have qX1 := Bx.lt X1
  have dX2 : ∀ i, w10.cell? ⟨w2.heap.size, i, none⟩ = _ := Bx.cell X2
  have eX2 : ∀ i, w10.frozen? ⟨w2.heap.size, i, none⟩ = false := Bx.frozen X2
  have qX2 := Bx.lt X2
  have dX3 : ∀ i, w10.cell? ⟨w6.heap.size, i, none⟩ = _ := Bx.cell X3
  have eX3 : ∀ i, w10.frozen? ⟨w6.heap.size, i, none⟩ = false := Bx.frozen X3
  have qX3 := Bx.lt X3
  have dX4 : ∀ i, w10.cell? ⟨w7.heap.size, i, none⟩ = _ := Bx.cell X4
  have eX4 : ∀ i, w10.frozen? ⟨w7.heap.size, i, none⟩ = false := Bx.frozen X4
  have qX4 := Bx.lt X4
  have dX5 : ∀ i, w10.cell? ⟨B9, i, none⟩ = _ := Bx.cell X5
  have eX5 : ∀ i, w10.frozen? ⟨B9, i, none⟩ = false := Bx.frozen X5
  have qX5 := Bx.lt X5
  go_wp2_with fail
  refine (awake5 _).mono ?_
  rintro e wz ⟨rfl, hbz⟩
  go_wp2
  go_ret
  exact ⟨rfl, bst (bal b _) hbz⟩
set_option maxRecDepth 100000 in
set_option maxHeartbeats 16000000 in
theorem same_no2 (s0 s1 rt t0 t1 a x y e f : Int) (w : World) (hA : sFits 2 s0 s1 rt t0 t1 = (a, x, y, e)) (hB : sFits rt t0 t1 2 s0 s1 = (a, x, y, f)) (hE : e ≠ 0) (hF : f ≠ 0) (hC : shp 2 s0 s1 = 0) (n : Int) (hR : sRows 2 s0 s1 = (s0, s1, 0)) (hO : sFits 2 s0 s1 2 s0 s1 = (2, s0, s1, 0)) (hW : sFits 0 0 0 2 s0 s1 = (2, s0, s1, 0)) (hN : prodI 2 s0 s1 = n) (hL : sLens 2 [s0, s1] = (s0, s1, 0)) (hG : sFlipS 2 s0 s1 = (s1, s0, 0)) (hG2 : sFlipS 2 s1 s0 = (s0, s1, 0)) (hM : wrap64 (s0 * s1) = n) :
    Calls Tryd.prog 10 #[.agg #[.int .i64 2, .int .i64 s0, .int .i64 s1], .agg #[.int .i64 rt, .int .i64 t0, .int .i64 t1]] w fun e w' => e = .returned (.bool true) ∧ Below w.heap.size w w' := by
  have HA := Lib.hid hA
  have HB := Lib.hid hB
  have HE := Lib.hid hE
  have HF := Lib.hid hF
  have HC := Lib.hid hC
  have HR := Lib.hid hR
  have HO := Lib.hid hO
  have HW := Lib.hid hW
  have HN := Lib.hid hN
  have HL := Lib.hid hL
  have HG := Lib.hid hG
  have HG2 := Lib.hid hG2
  have HM := Lib.hid hM
  clear hA hB hE hF hC hR hO hW hN hL hG hG2 hM
  have hgu := guardLens
  have hqu := eqLens
  have hs1 : (x == x && y == y) = true := by simp
  have hs2 : (s0 == s0 && s1 == s1) = true := by simp
  have e1 : (e == 0) = false := by simpa using HE.out
  have f1 : (f == 0) = false := by simpa using HF.out
  have e2 : (e != 0) = true := by simpa using HE.out
  go_enter Tryd.func10, Tryd.ntmps10
  go_wp2_with fail
  refine (fits_any 2 s0 s1 rt t0 t1 a x y e _ HA.out).mono ?_
  rintro e w1 ⟨rfl, hst⟩
  obtain ⟨Xs, Xt, hst⟩ := after2 hst
  have b : Below w.heap.size w w1 := hst
  clear hst
  have dXs : ∀ i, w1.cell? ⟨w.heap.size, i, none⟩ = _ := Bx.cell Xs
  have eXs : ∀ i, w1.frozen? ⟨w.heap.size, i, none⟩ = false := Bx.frozen Xs
  have qXs := Bx.lt Xs
  have dXt : ∀ i, w1.cell? ⟨w.heap.size + 1, i, none⟩ = _ := Bx.cell Xt
  have eXt : ∀ i, w1.frozen? ⟨w.heap.size + 1, i, none⟩ = false := Bx.frozen Xt
  have qXt := Bx.lt Xt
  go_wp2_with fail
  refine (fits_any rt t0 t1 2 s0 s1 a x y f _ HB.out).mono ?_
  rintro e w2 ⟨rfl, hst⟩
  clear dXs eXs qXs dXt eXt qXt
  obtain ⟨X1, hst⟩ := after1 hst
  replace Xs := Bx.step Xs hst
  replace Xt := Bx.step Xt hst
  replace b : Below w.heap.size w w2 := bst b hst
  clear hst
  have dXs : ∀ i, w2.cell? ⟨w.heap.size, i, none⟩ = _ := Bx.cell Xs
  have eXs : ∀ i, w2.frozen? ⟨w.heap.size, i, none⟩ = false := Bx.frozen Xs
  have qXs := Bx.lt Xs
  have dXt : ∀ i, w2.cell? ⟨w.heap.size + 1, i, none⟩ = _ := Bx.cell Xt
  have eXt : ∀ i, w2.frozen? ⟨w.heap.size + 1, i, none⟩ = false := Bx.frozen Xt
  have qXt := Bx.lt Xt
  have dX1 : ∀ i, w2.cell? ⟨w1.heap.size, i, none⟩ = _ := Bx.cell X1
  have eX1 : ∀ i, w2.frozen? ⟨w1.heap.size, i, none⟩ = false := Bx.frozen X1
  have qX1 := Bx.lt X1
  go_wp2_with fail
  refine (check_any 2 s0 s1 0 _ HC.out).mono ?_
  rintro e w3 ⟨rfl, hst⟩
  clear dXs eXs qXs dXt eXt qXt dX1 eX1 qX1
  obtain ⟨X2, hst⟩ := after1 hst
  replace Xs := Bx.step Xs hst
  replace Xt := Bx.step Xt hst
  replace X1 := Bx.step X1 hst
  replace b : Below w.heap.size w w3 := bst b hst
  clear hst
  have dXs : ∀ i, w3.cell? ⟨w.heap.size, i, none⟩ = _ := Bx.cell Xs
  have eXs : ∀ i, w3.frozen? ⟨w.heap.size, i, none⟩ = false := Bx.frozen Xs
  have qXs := Bx.lt Xs
  have dXt : ∀ i, w3.cell? ⟨w.heap.size + 1, i, none⟩ = _ := Bx.cell Xt
  have eXt : ∀ i, w3.frozen? ⟨w.heap.size + 1, i, none⟩ = false := Bx.frozen Xt
  have qXt := Bx.lt Xt
  have dX1 : ∀ i, w3.cell? ⟨w1.heap.size, i, none⟩ = _ := Bx.cell X1
  have eX1 : ∀ i, w3.frozen? ⟨w1.heap.size, i, none⟩ = false := Bx.frozen X1
  have qX1 := Bx.lt X1
  have dX2 : ∀ i, w3.cell? ⟨w2.heap.size, i, none⟩ = _ := Bx.cell X2
  have eX2 : ∀ i, w3.frozen? ⟨w2.heap.size, i, none⟩ = false := Bx.frozen X2
  have qX2 := Bx.lt X2
  go_wp2_with fail
  refine (cells_ok 2 s0 s1 _ HC.out).mono ?_
  rintro e w4 ⟨rfl, hst⟩
  clear dXs eXs qXs dXt eXt qXt dX1 eX1 qX1 dX2 eX2 qX2
  replace Xs := Bx.step Xs hst
  replace Xt := Bx.step Xt hst
  replace X1 := Bx.step X1 hst
  replace X2 := Bx.step X2 hst
  replace b : Below w.heap.size w w4 := bst b hst
  clear hst
  rw [HN.out]
  have dXs : ∀ i, w4.cell? ⟨w.heap.size, i, none⟩ = _ := Bx.cell Xs
  have eXs : ∀ i, w4.frozen? ⟨w.heap.size, i, none⟩ = false := Bx.frozen Xs
  have qXs := Bx.lt Xs
  have dXt : ∀ i, w4.cell? ⟨w.heap.size + 1, i, none⟩ = _ := Bx.cell Xt
  have eXt : ∀ i, w4.frozen? ⟨w.heap.size + 1, i, none⟩ = false := Bx.frozen Xt
  have qXt := Bx.lt Xt
  have dX1 : ∀ i, w4.cell? ⟨w1.heap.size, i, none⟩ = _ := Bx.cell X1
  have eX1 : ∀ i, w4.frozen? ⟨w1.heap.size, i, none⟩ = false := Bx.frozen X1
  have qX1 := Bx.lt X1
  have dX2 : ∀ i, w4.cell? ⟨w2.heap.size, i, none⟩ = _ := Bx.cell X2
  have eX2 : ∀ i, w4.frozen? ⟨w2.heap.size, i, none⟩ = false := Bx.frozen X2
  have qX2 := Bx.lt X2
  go_wp2_with fail
  refine (rows_any 2 s0 s1 s0 s1 0 _ HR.out).mono ?_
  rintro e w5 ⟨rfl, hst⟩
  clear dXs eXs qXs dXt eXt qXt dX1 eX1 qX1 dX2 eX2 qX2
  replace Xs := Bx.step Xs hst
  replace Xt := Bx.step Xt hst
  replace X1 := Bx.step X1 hst
  replace X2 := Bx.step X2 hst
  replace b : Below w.heap.size w w5 := bst b hst
  clear hst
  have dXs : ∀ i, w5.cell? ⟨w.heap.size, i, none⟩ = _ := Bx.cell Xs
  have eXs : ∀ i, w5.frozen? ⟨w.heap.size, i, none⟩ = false := Bx.frozen Xs
  have qXs := Bx.lt Xs
  have dXt : ∀ i, w5.cell? ⟨w.heap.size + 1, i, none⟩ = _ := Bx.cell Xt
  have eXt : ∀ i, w5.frozen? ⟨w.heap.size + 1, i, none⟩ = false := Bx.frozen Xt
  have qXt := Bx.lt Xt
  have dX1 : ∀ i, w5.cell? ⟨w1.heap.size, i, none⟩ = _ := Bx.cell X1
  have eX1 : ∀ i, w5.frozen? ⟨w1.heap.size, i, none⟩ = false := Bx.frozen X1
  have qX1 := Bx.lt X1
  have dX2 : ∀ i, w5.cell? ⟨w2.heap.size, i, none⟩ = _ := Bx.cell X2
  have eX2 : ∀ i, w5.frozen? ⟨w2.heap.size, i, none⟩ = false := Bx.frozen X2
  have qX2 := Bx.lt X2
  go_wp2_with fail
  refine (fits_any 2 s0 s1 2 s0 s1 2 s0 s1 0 _ HO.out).mono ?_
  rintro e w6 ⟨rfl, hst⟩
  clear dXs eXs qXs dXt eXt qXt dX1 eX1 qX1 dX2 eX2 qX2
  replace Xs := Bx.step Xs hst
  replace Xt := Bx.step Xt hst
  replace X1 := Bx.step X1 hst
  replace X2 := Bx.step X2 hst
  replace b : Below w.heap.size w w6 := bst b hst
  clear hst
  have dXs : ∀ i, w6.cell? ⟨w.heap.size, i, none⟩ = _ := Bx.cell Xs
  have eXs : ∀ i, w6.frozen? ⟨w.heap.size, i, none⟩ = false := Bx.frozen Xs
  have qXs := Bx.lt Xs
  have dXt : ∀ i, w6.cell? ⟨w.heap.size + 1, i, none⟩ = _ := Bx.cell Xt
  have eXt : ∀ i, w6.frozen? ⟨w.heap.size + 1, i, none⟩ = false := Bx.frozen Xt
  have qXt := Bx.lt Xt
  have dX1 : ∀ i, w6.cell? ⟨w1.heap.size, i, none⟩ = _ := Bx.cell X1
  have eX1 : ∀ i, w6.frozen? ⟨w1.heap.size, i, none⟩ = false := Bx.frozen X1
  have qX1 := Bx.lt X1
  have dX2 : ∀ i, w6.cell? ⟨w2.heap.size, i, none⟩ = _ := Bx.cell X2
  have eX2 : ∀ i, w6.frozen? ⟨w2.heap.size, i, none⟩ = false := Bx.frozen X2
  have qX2 := Bx.lt X2
  go_wp2_with fail
  refine (fits_any 0 0 0 2 s0 s1 2 s0 s1 0 _ HW.out).mono ?_
  rintro e w7 ⟨rfl, hst⟩
  clear dXs eXs qXs dXt eXt qXt dX1 eX1 qX1 dX2 eX2 qX2
  obtain ⟨X3, hst⟩ := after1 hst
  replace Xs := Bx.step Xs hst
  replace Xt := Bx.step Xt hst
  replace X1 := Bx.step X1 hst
  replace X2 := Bx.step X2 hst
  replace b : Below w.heap.size w w7 := bst b hst
  clear hst
  have dXs : ∀ i, w7.cell? ⟨w.heap.size, i, none⟩ = _ := Bx.cell Xs
  have eXs : ∀ i, w7.frozen? ⟨w.heap.size, i, none⟩ = false := Bx.frozen Xs
  have qXs := Bx.lt Xs
  have dXt : ∀ i, w7.cell? ⟨w.heap.size + 1, i, none⟩ = _ := Bx.cell Xt
  have eXt : ∀ i, w7.frozen? ⟨w.heap.size + 1, i, none⟩ = false := Bx.frozen Xt
  have qXt := Bx.lt Xt
  have dX1 : ∀ i, w7.cell? ⟨w1.heap.size, i, none⟩ = _ := Bx.cell X1
  have eX1 : ∀ i, w7.frozen? ⟨w1.heap.size, i, none⟩ = false := Bx.frozen X1
  have qX1 := Bx.lt X1
  have dX2 : ∀ i, w7.cell? ⟨w2.heap.size, i, none⟩ = _ := Bx.cell X2
  have eX2 : ∀ i, w7.frozen? ⟨w2.heap.size, i, none⟩ = false := Bx.frozen X2
  have qX2 := Bx.lt X2
  have dX3 : ∀ i, w7.cell? ⟨w6.heap.size, i, none⟩ = _ := Bx.cell X3
  have eX3 : ∀ i, w7.frozen? ⟨w6.heap.size, i, none⟩ = false := Bx.frozen X3
  have qX3 := Bx.lt X3
  have hM_ := HM.out
  go_upto_region 13 with fail
  clear hM_
  have X4 := Bx.new w7 #[.int .i64 s0, .int .i64 s1] 22
  have hst := below1 w7 (.cells #[.int .i64 s0, .int .i64 s1] 22)
  obtain ⟨w8, hw_⟩ : ∃ w8, w7.alloc (.cells #[.int .i64 s0, .int .i64 s1] 22) = w8 := ⟨_, rfl⟩
  rw [hw_] at X4 hst
  rw [hw_]
  clear hw_
  clear dXs eXs qXs dXt eXt qXt dX1 eX1 qX1 dX2 eX2 qX2 dX3 eX3 qX3
  replace Xs := Bx.step Xs hst
  replace Xt := Bx.step Xt hst
  replace X1 := Bx.step X1 hst
  replace X2 := Bx.step X2 hst
  replace X3 := Bx.step X3 hst
  replace b := bst b hst
  clear hst
  go_cut [20, 7] from 160 to 175 (fun p e wx => ∃ B : Nat, p = .pointer (some ⟨B, 0, none⟩) ∧ e = .int .i64 0 ∧ Below w8.heap.size w8 wx ∧ Hid (Bx wx B #[.int .i64 s0, .int .i64 s1] 22) ∧ w8.heap.size ≤ B)
  case first =>
    have hS : ∀ u, Below w8.heap.size w8 u → (∀ i, u.cell? ⟨w.heap.size, i, none⟩ = #[.int .i64 2, .int .i64 s0, .int .i64 s1][i]?) := fun u h => Bx.cell (Bx.step Xs h)
    have P0 : Below w8.heap.size w8 w8.drew := bdr (Below.refl _ _)
    have P1 : Below w8.heap.size w8 (w8.alloc (.cells #[.int .i64 0, .int .i64 0] 22)).drew := bdr (bal (Below.refl _ _) _)
    have P2 : Below w8.heap.size w8 (w8.alloc (.cells #[.int .i64 s0, .int .i64 s1] 3)).drew := bdr (bal (Below.refl _ _) _)
    have P3 : Below w8.heap.size w8 ((w8.alloc (.cells #[.int .i64 s0, .int .i64 s1] 3)).alloc (.cells #[.int .i64 0, .int .i64 0] 22)).drew := bdr (bal (bal (Below.refl _ _) _) _)
    have P4 : Below w8.heap.size w8 ((w8.alloc (.cells #[.int .i64 0, .int .i64 0] 22)).alloc (.cells #[.int .i64 s0, .int .i64 s1] 3)).drew := bdr (bal (bal (Below.refl _ _) _) _)
    have L2 := Lib.hid (show Sl (w8.alloc (.cells #[.int .i64 s0, .int .i64 s1] 3)).drew (some ⟨w8.heap.size, 0, none⟩) 2 2 [s0, s1] from Sl.upto (q := 2) (slInts w8 [s0, s1] 2 rfl (by omega)) (by omega))
    have L3 := Lib.hid (show Sl ((w8.alloc (.cells #[.int .i64 s0, .int .i64 s1] 3)).alloc (.cells #[.int .i64 0, .int .i64 0] 22)).drew (some ⟨w8.heap.size, 0, none⟩) 2 2 [s0, s1] from Sl.upto (q := 2) (Sl.step (w := w8.alloc (.cells #[.int .i64 s0, .int .i64 s1] 3)) (slInts w8 [s0, s1] 2 rfl (by omega)) (bdr (below1 _ _))) (by omega))
    have h1_ : (w8.alloc (.cells #[.int .i64 0, .int .i64 0] 22)).heap.size = w8.heap.size + 1 := by simp
    have h2_ : (w8.alloc (.cells #[.int .i64 s0, .int .i64 s1] 3)).heap.size = w8.heap.size + 1 := by simp
    have L4 := Lib.hid (show Sl ((w8.alloc (.cells #[.int .i64 0, .int .i64 0] 22)).alloc (.cells #[.int .i64 s0, .int .i64 s1] 3)).drew (some ⟨w8.heap.size + 1, 0, none⟩) 2 2 [s0, s1] by rw [← h1_]; exact Sl.upto (q := 2) (slInts (w8.alloc (.cells #[.int .i64 0, .int .i64 0] 22)) [s0, s1] 2 rfl (by omega)) (by omega))
    have N3 : Bx ((w8.alloc (.cells #[.int .i64 s0, .int .i64 s1] 3)).alloc (.cells #[.int .i64 0, .int .i64 0] 22)).drew (w8.heap.size + 1) #[.int .i64 0, .int .i64 0] 22 := by rw [← h2_]; exact Bx.new (w8.alloc (.cells #[.int .i64 s0, .int .i64 s1] 3)) _ _
    have N4 : Bx ((w8.alloc (.cells #[.int .i64 0, .int .i64 0] 22)).alloc (.cells #[.int .i64 s0, .int .i64 s1] 3)).drew (w8.heap.size) #[.int .i64 0, .int .i64 0] 22 := Bx.alloc (Bx.new w8 _ _) _
    clear h1_ h2_
    go_region_held3 (fun w' => (∀ i, w'.cell? ⟨w.heap.size, i, none⟩ = #[.int .i64 2, .int .i64 s0, .int .i64 s1][i]?))
      (with_reducible first | exact hS _ P0 | exact hS _ P1 | exact hS _ P2 | exact hS _ P3 | exact hS _ P4 | exact hS _ R1 | exact hS _ (bal R1 _) | exact hS _ (below_set2 R1 (Nat.le_succ _) _ _) | exact hS _ (below_set2 R1 (Nat.le_refl _) _ _))
      ((go_at_call 25; (with_reducible first | refine (lens_any 2 (some ⟨w8.heap.size, 0, none⟩) 2 2 [s0, s1] s0 s1 0 _ L2.out HL.out).mono ?_ | refine (lens_any 2 (some ⟨w8.heap.size, 0, none⟩) 2 2 [s0, s1] s0 s1 0 _ L3.out HL.out).mono ?_ | refine (lens_any 2 (some ⟨w8.heap.size + 1, 0, none⟩) 2 2 [s0, s1] s0 s1 0 _ L4.out HL.out).mono ?_); rintro e y1 ⟨rfl, hb_⟩; have R1 : Below w8.heap.size w8 y1 := (by with_reducible first | exact bst P2 hb_ | exact bst P3 hb_ | exact bst P4 hb_); have ss1 := R1.size; (try (have M3 : Bx y1 (w8.heap.size + 1) #[.int .i64 0, .int .i64 0] 22 := (by with_reducible exact Bx.step N3 hb_))); (try (have M4 : Bx y1 (w8.heap.size) #[.int .i64 0, .int .i64 0] 22 := (by with_reducible exact Bx.step N4 hb_))); (first | (have gB : ∀ i, y1.cell? ⟨(w8.heap.size + 1), i, none⟩ = _ := Bx.cell M3; have kB : ∀ i, y1.frozen? ⟨(w8.heap.size + 1), i, none⟩ = false := Bx.frozen M3) | (have gB : ∀ i, y1.cell? ⟨(w8.heap.size), i, none⟩ = _ := Bx.cell M4; have kB : ∀ i, y1.frozen? ⟨(w8.heap.size), i, none⟩ = false := Bx.frozen M4) | skip)))
    all_goals go_wp2_with fail
    all_goals go_meet
    · exact ⟨y1.heap.size, rfl, rfl, bal R1 _, Lib.hid (Bx.new y1 _ _), R1.size⟩
    · exact ⟨(w8.heap.size + 1), rfl, rfl, below_set2 R1 (Nat.le_succ _) _ _, Lib.hid (Bx.set2 M3 _ _), Nat.le_succ _⟩
    · exact ⟨(w8.heap.size), rfl, rfl, below_set2 R1 (Nat.le_refl _) _ _, Lib.hid (Bx.set2 M4 _ _), Nat.le_refl _⟩
  case rest =>
  obtain ⟨B9, rfl, rfl, hst, HX_, hB9⟩ := hcut
  obtain ⟨w9, hw9⟩ : ∃ w9, wc = w9 := ⟨_, rfl⟩
  rw [hw9] at hst HX_
  rw [hw9]
  clear hw9
  replace Xs := Bx.step Xs hst
  replace Xt := Bx.step Xt hst
  replace X1 := Bx.step X1 hst
  replace X2 := Bx.step X2 hst
  replace X3 := Bx.step X3 hst
  replace X4 := Bx.step X4 hst
  replace b := bst b hst
  have X5 := HX_.out
  clear hst HX_
  have dXs : ∀ i, w9.cell? ⟨w.heap.size, i, none⟩ = _ := Bx.cell Xs
  have eXs : ∀ i, w9.frozen? ⟨w.heap.size, i, none⟩ = false := Bx.frozen Xs
  have qXs := Bx.lt Xs
  have dXt : ∀ i, w9.cell? ⟨w.heap.size + 1, i, none⟩ = _ := Bx.cell Xt
  have eXt : ∀ i, w9.frozen? ⟨w.heap.size + 1, i, none⟩ = false := Bx.frozen Xt
  have qXt := Bx.lt Xt
  have dX1 : ∀ i, w9.cell? ⟨w1.heap.size, i, none⟩ = _ := Bx.cell X1
  have eX1 : ∀ i, w9.frozen? ⟨w1.heap.size, i, none⟩ = false := Bx.frozen X1
  have qX1 := Bx.lt X1
  have dX2 : ∀ i, w9.cell? ⟨w2.heap.size, i, none⟩ = _ := Bx.cell X2
  have eX2 : ∀ i, w9.frozen? ⟨w2.heap.size, i, none⟩ = false := Bx.frozen X2
  have qX2 := Bx.lt X2
  have dX3 : ∀ i, w9.cell? ⟨w6.heap.size, i, none⟩ = _ := Bx.cell X3
  have eX3 : ∀ i, w9.frozen? ⟨w6.heap.size, i, none⟩ = false := Bx.frozen X3
  have qX3 := Bx.lt X3
  have dX4 : ∀ i, w9.cell? ⟨w7.heap.size, i, none⟩ = _ := Bx.cell X4
  have eX4 : ∀ i, w9.frozen? ⟨w7.heap.size, i, none⟩ = false := Bx.frozen X4
  have qX4 := Bx.lt X4
  have dX5 : ∀ i, w9.cell? ⟨B9, i, none⟩ = _ := Bx.cell X5
  have eX5 : ∀ i, w9.frozen? ⟨B9, i, none⟩ = false := Bx.frozen X5
  have qX5 := Bx.lt X5
  go_wp2_with fail
  refine (flip_any 2 s0 s1 s1 s0 0 _ HG.out).mono ?_
  rintro e w10 ⟨rfl, hst⟩
  clear dXs eXs qXs dXt eXt qXt dX1 eX1 qX1 dX2 eX2 qX2 dX3 eX3 qX3 dX4 eX4 qX4 dX5 eX5 qX5
  replace Xs := Bx.step Xs hst
  replace Xt := Bx.step Xt hst
  replace X1 := Bx.step X1 hst
  replace X2 := Bx.step X2 hst
  replace X3 := Bx.step X3 hst
  replace X4 := Bx.step X4 hst
  replace X5 := Bx.step X5 hst
  replace b : Below w.heap.size w w10 := bst b hst
  clear hst
  have dXs : ∀ i, w10.cell? ⟨w.heap.size, i, none⟩ = _ := Bx.cell Xs
  have eXs : ∀ i, w10.frozen? ⟨w.heap.size, i, none⟩ = false := Bx.frozen Xs
  have qXs := Bx.lt Xs
  have dXt : ∀ i, w10.cell? ⟨w.heap.size + 1, i, none⟩ = _ := Bx.cell Xt
  have eXt : ∀ i, w10.frozen? ⟨w.heap.size + 1, i, none⟩ = false := Bx.frozen Xt
  have qXt := Bx.lt Xt
  have dX1 : ∀ i, w10.cell? ⟨w1.heap.size, i, none⟩ = _ := Bx.cell X1
  have eX1 : ∀ i, w10.frozen? ⟨w1.heap.size, i, none⟩ = false := Bx.frozen X1
  have qX1 := Bx.lt X1
  have dX2 : ∀ i, w10.cell? ⟨w2.heap.size, i, none⟩ = _ := Bx.cell X2
  have eX2 : ∀ i, w10.frozen? ⟨w2.heap.size, i, none⟩ = false := Bx.frozen X2
  have qX2 := Bx.lt X2
  have dX3 : ∀ i, w10.cell? ⟨w6.heap.size, i, none⟩ = _ := Bx.cell X3
  have eX3 : ∀ i, w10.frozen? ⟨w6.heap.size, i, none⟩ = false := Bx.frozen X3
  have qX3 := Bx.lt X3
  have dX4 : ∀ i, w10.cell? ⟨w7.heap.size, i, none⟩ = _ := Bx.cell X4
  have eX4 : ∀ i, w10.frozen? ⟨w7.heap.size, i, none⟩ = false := Bx.frozen X4
  have qX4 := Bx.lt X4
  have dX5 : ∀ i, w10.cell? ⟨B9, i, none⟩ = _ := Bx.cell X5
  have eX5 : ∀ i, w10.frozen? ⟨B9, i, none⟩ = false := Bx.frozen X5
  have qX5 := Bx.lt X5
  go_wp2_with fail
  refine (flip_any 2 s1 s0 s0 s1 0 _ HG2.out).mono ?_
  rintro e w11 ⟨rfl, hst⟩
  clear dXs eXs qXs dXt eXt qXt dX1 eX1 qX1 dX2 eX2 qX2 dX3 eX3 qX3 dX4 eX4 qX4 dX5 eX5 qX5
  obtain ⟨X6, hst⟩ := after1 hst
  replace Xs := Bx.step Xs hst
  replace Xt := Bx.step Xt hst
  replace X1 := Bx.step X1 hst
  replace X2 := Bx.step X2 hst
  replace X3 := Bx.step X3 hst
  replace X4 := Bx.step X4 hst
  replace X5 := Bx.step X5 hst
  replace b : Below w.heap.size w w11 := bst b hst
  clear hst
  have dXs : ∀ i, w11.cell? ⟨w.heap.size, i, none⟩ = _ := Bx.cell Xs
  have eXs : ∀ i, w11.frozen? ⟨w.heap.size, i, none⟩ = false := Bx.frozen Xs
  have qXs := Bx.lt Xs
  have dXt : ∀ i, w11.cell? ⟨w.heap.size + 1, i, none⟩ = _ := Bx.cell Xt
  have eXt : ∀ i, w11.frozen? ⟨w.heap.size + 1, i, none⟩ = false := Bx.frozen Xt
  have qXt := Bx.lt Xt
  have dX1 : ∀ i, w11.cell? ⟨w1.heap.size, i, none⟩ = _ := Bx.cell X1
  have eX1 : ∀ i, w11.frozen? ⟨w1.heap.size, i, none⟩ = false := Bx.frozen X1
  have qX1 := Bx.lt X1
  have dX2 : ∀ i, w11.cell? ⟨w2.heap.size, i, none⟩ = _ := Bx.cell X2
  have eX2 : ∀ i, w11.frozen? ⟨w2.heap.size, i, none⟩ = false := Bx.frozen X2
  have qX2 := Bx.lt X2
  have dX3 : ∀ i, w11.cell? ⟨w6.heap.size, i, none⟩ = _ := Bx.cell X3
  have eX3 : ∀ i, w11.frozen? ⟨w6.heap.size, i, none⟩ = false := Bx.frozen X3
  have qX3 := Bx.lt X3
  have dX4 : ∀ i, w11.cell? ⟨w7.heap.size, i, none⟩ = _ := Bx.cell X4
  have eX4 : ∀ i, w11.frozen? ⟨w7.heap.size, i, none⟩ = false := Bx.frozen X4
  have qX4 := Bx.lt X4
  have dX5 : ∀ i, w11.cell? ⟨B9, i, none⟩ = _ := Bx.cell X5
  have eX5 : ∀ i, w11.frozen? ⟨B9, i, none⟩ = false := Bx.frozen X5
  have qX5 := Bx.lt X5
  have dX6 : ∀ i, w11.cell? ⟨w10.heap.size, i, none⟩ = _ := Bx.cell X6
  have eX6 : ∀ i, w11.frozen? ⟨w10.heap.size, i, none⟩ = false := Bx.frozen X6
  have qX6 := Bx.lt X6
  go_wp2_with fail
  refine (awake5 _).mono ?_
  rintro e wz ⟨rfl, hbz⟩
  go_wp2
  go_ret
  exact ⟨rfl, bst (bal b _) hbz⟩
end Go.Proofs.YteegipfgbcnfkaaDoor

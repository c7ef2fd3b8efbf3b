/-
  The law's awake: some results are as the document says.
-/
import Derived.Deep.CutRange
import Derived.Test.YtfbloddffhafdaaFpk
import Derived.Test.YtfbloddffhafdaaFgrd
import Derived.Test.YtfbloddffhafdaaFinn
import Derived.Test.YtfbloddffhafdaaFlib
namespace Go.Proofs.Ytfbloddffhafdaa
open Go.RowKit

set_option maxHeartbeats 2000000 in
theorem awake_any (w : World) : Calls Try.prog 12 #[] w fun e w' => e = .returned (.bool true) ∧ Below w.heap.size w w' := by
  go_enter Try.func12, Try.ntmps12
  go_wp2_with fail
  refine (ints_any _ 4 4 [5, 3, 5, 1] _ (show Sl (w.alloc (.cells #[.int .i64 5, .int .i64 3, .int .i64 5, .int .i64 1] 2)) (some ⟨w.heap.size, 0, none⟩) 4 4 [5, 3, 5, 1] from slLit w _ 4 rfl (by omega)) (by omega)).mono ?_
  rintro e w1 ⟨⟨A1, n1, c1, rfl, hS1, hN1⟩, hb1⟩
  obtain rfl : n1 = 4 := hS1.len.symm
  have b : Below w.heap.size w w1 := bst (below1 w _) hb1
  have Sv := Lib.hid hS1
  clear hS1 hN1 hb1
  go_wp2_with fail
  refine (fshape_any _ _ _ _ _ _ _ [5, 3, 5, 1] (⟨1, 1, 1, 0, [4]⟩, 0) _ (Sv.out.step (below1 _ _ )) rfl).mono ?_
  intro e w2 hR
  obtain ⟨A2, n2, c2, rfl, hS2, hN2, hst⟩ := RetA.flat hR
  clear hR
  obtain ⟨XV, hst⟩ := after1 hst
  replace Sv := Lib.hid (Sv.out.step hst)
  replace b : Below w.heap.size w w2 := bst b hst
  clear hst
  have S2 := Lib.hid hS2
  have NS2 := Lib.hid hN2
  clear hS2 hN2
  have dXV : ∀ i, w2.cell? ⟨w1.heap.size, i, none⟩ = _ := Bx.cell XV
  have eXV : ∀ i, w2.frozen? ⟨w1.heap.size, i, none⟩ = false := Bx.frozen XV
  have qXV := Bx.lt XV
  go_wp2_with fail
  refine (int_any 3 _).mono ?_
  rintro e w3 ⟨⟨A3, n3, c3, rfl, hS3, hN3⟩, hst⟩
  clear dXV eXV qXV
  obtain ⟨X2, hst⟩ := after1 hst
  replace XV := Bx.step XV hst
  replace Sv := Lib.hid (Sv.out.step hst)
  replace S2 := Lib.hid (S2.out.step hst)
  replace b : Below w.heap.size w w3 := bst b hst
  clear hst
  have S3 := Lib.hid hS3
  have NS3 := Lib.hid hN3
  clear hS3 hN3
  have dXV : ∀ i, w3.cell? ⟨w1.heap.size, i, none⟩ = _ := Bx.cell XV
  have eXV : ∀ i, w3.frozen? ⟨w1.heap.size, i, none⟩ = false := Bx.frozen XV
  have qXV := Bx.lt XV
  have dX2 : ∀ i, w3.cell? ⟨w2.heap.size, i, none⟩ = _ := Bx.cell X2
  have eX2 : ∀ i, w3.frozen? ⟨w2.heap.size, i, none⟩ = false := Bx.frozen X2
  have qX2 := Bx.lt X2
  go_wp2_with fail
  refine (fiota_any _ _ _ _ _ _ _ [3] (⟨1, 1, 3, 0, [0, 1, 2]⟩, 0) _ S3.out rfl).mono ?_
  intro e w4 hR
  obtain ⟨A4, n4, c4, rfl, hS4, hN4, hst⟩ := RetA.flat hR
  clear hR
  clear dXV eXV qXV dX2 eX2 qX2
  replace XV := Bx.step XV hst
  replace X2 := Bx.step X2 hst
  replace Sv := Lib.hid (Sv.out.step hst)
  replace S2 := Lib.hid (S2.out.step hst)
  replace S3 := Lib.hid (S3.out.step hst)
  replace b : Below w.heap.size w w4 := bst b hst
  clear hst
  have S4 := Lib.hid hS4
  have NS4 := Lib.hid hN4
  clear hS4 hN4
  have dXV : ∀ i, w4.cell? ⟨w1.heap.size, i, none⟩ = _ := Bx.cell XV
  have eXV : ∀ i, w4.frozen? ⟨w1.heap.size, i, none⟩ = false := Bx.frozen XV
  have qXV := Bx.lt XV
  have dX2 : ∀ i, w4.cell? ⟨w2.heap.size, i, none⟩ = _ := Bx.cell X2
  have eX2 : ∀ i, w4.frozen? ⟨w2.heap.size, i, none⟩ = false := Bx.frozen X2
  have qX2 := Bx.lt X2
  go_wp2_with fail
  refine (int_any 401 _).mono ?_
  rintro e w5 ⟨⟨A5, n5, c5, rfl, hS5, hN5⟩, hst⟩
  clear dXV eXV qXV dX2 eX2 qX2
  obtain ⟨X4, hst⟩ := after1 hst
  replace XV := Bx.step XV hst
  replace X2 := Bx.step X2 hst
  replace Sv := Lib.hid (Sv.out.step hst)
  replace S2 := Lib.hid (S2.out.step hst)
  replace S3 := Lib.hid (S3.out.step hst)
  replace S4 := Lib.hid (S4.out.step hst)
  replace b : Below w.heap.size w w5 := bst b hst
  clear hst
  have S5 := Lib.hid hS5
  have NS5 := Lib.hid hN5
  clear hS5 hN5
  have dXV : ∀ i, w5.cell? ⟨w1.heap.size, i, none⟩ = _ := Bx.cell XV
  have eXV : ∀ i, w5.frozen? ⟨w1.heap.size, i, none⟩ = false := Bx.frozen XV
  have qXV := Bx.lt XV
  have dX2 : ∀ i, w5.cell? ⟨w2.heap.size, i, none⟩ = _ := Bx.cell X2
  have eX2 : ∀ i, w5.frozen? ⟨w2.heap.size, i, none⟩ = false := Bx.frozen X2
  have qX2 := Bx.lt X2
  have dX4 : ∀ i, w5.cell? ⟨w4.heap.size, i, none⟩ = _ := Bx.cell X4
  have eX4 : ∀ i, w5.frozen? ⟨w4.heap.size, i, none⟩ = false := Bx.frozen X4
  have qX4 := Bx.lt X4
  go_wp2_with fail
  refine (fiota_any _ _ _ _ _ _ _ [401] (⟨0, 0, 0, 0, []⟩, 15) _ S5.out rfl).mono ?_
  intro e w6 hR
  obtain ⟨A6, n6, c6, rfl, hS6, hN6, hst⟩ := RetA.flat hR
  clear hR
  clear dXV eXV qXV dX2 eX2 qX2 dX4 eX4 qX4
  replace XV := Bx.step XV hst
  replace X2 := Bx.step X2 hst
  replace X4 := Bx.step X4 hst
  replace Sv := Lib.hid (Sv.out.step hst)
  replace S2 := Lib.hid (S2.out.step hst)
  replace S3 := Lib.hid (S3.out.step hst)
  replace S4 := Lib.hid (S4.out.step hst)
  replace S5 := Lib.hid (S5.out.step hst)
  replace b : Below w.heap.size w w6 := bst b hst
  clear hst
  have S6 := Lib.hid hS6
  have NS6 := Lib.hid hN6
  clear hS6 hN6
  have dXV : ∀ i, w6.cell? ⟨w1.heap.size, i, none⟩ = _ := Bx.cell XV
  have eXV : ∀ i, w6.frozen? ⟨w1.heap.size, i, none⟩ = false := Bx.frozen XV
  have qXV := Bx.lt XV
  have dX2 : ∀ i, w6.cell? ⟨w2.heap.size, i, none⟩ = _ := Bx.cell X2
  have eX2 : ∀ i, w6.frozen? ⟨w2.heap.size, i, none⟩ = false := Bx.frozen X2
  have qX2 := Bx.lt X2
  have dX4 : ∀ i, w6.cell? ⟨w4.heap.size, i, none⟩ = _ := Bx.cell X4
  have eX4 : ∀ i, w6.frozen? ⟨w4.heap.size, i, none⟩ = false := Bx.frozen X4
  have qX4 := Bx.lt X4
  go_wp2_with fail
  have X6 := Bx.new w6 #[.int .i64 0, .int .i64 0, .int .i64 0, .int .i64 0, .slice A6 n6 c6] 25
  have hst := below1 w6 (.cells #[.int .i64 0, .int .i64 0, .int .i64 0, .int .i64 0, .slice A6 n6 c6] 25)
  obtain ⟨w7, hw_⟩ : ∃ w7, w6.alloc (.cells #[.int .i64 0, .int .i64 0, .int .i64 0, .int .i64 0, .slice A6 n6 c6] 25) = w7 := ⟨_, rfl⟩
  rw [hw_] at X6 hst
  rw [hw_]
  clear hw_
  clear dXV eXV qXV dX2 eX2 qX2 dX4 eX4 qX4
  replace XV := Bx.step XV hst
  replace X2 := Bx.step X2 hst
  replace X4 := Bx.step X4 hst
  replace Sv := Lib.hid (Sv.out.step hst)
  replace S2 := Lib.hid (S2.out.step hst)
  replace S3 := Lib.hid (S3.out.step hst)
  replace S4 := Lib.hid (S4.out.step hst)
  replace S5 := Lib.hid (S5.out.step hst)
  replace S6 := Lib.hid (S6.out.step hst)
  replace b := bst b hst
  clear hst
  have hT := Lib.hid (show sFAt ⟨1, 1, 4, 0, [5, 3, 5, 1]⟩ ⟨1, 1, 2, 0, [3, 0]⟩ = (⟨1, 1, 2, 0, [1, 5]⟩, 0) from rfl)
  go_cut [8, 9] from 35 to 41 (fun p e wx => ∃ (B : Nat) (A : Option Addr) (n c : Nat), p = .pointer (some ⟨B, 0, none⟩) ∧ e = .int .i64 0 ∧ Below w7.heap.size w7 wx ∧ Hid (Bx wx B #[.int .i64 1, .int .i64 1, .int .i64 2, .int .i64 0, .slice A n c] 25) ∧ Hid (Sl wx A n c [1, 5]) ∧ w7.heap.size ≤ B ∧ Hid (New w7 A) ∧ Hid (0 < n → ∀ b o, A = some ⟨b, o, none⟩ → b ≠ B))
  case first =>
    have hS : ∀ u, Below w7.heap.size w7 u → (∀ i, u.cell? ⟨w1.heap.size, i, none⟩ = #[.int .i64 1, .int .i64 1, .int .i64 4, .int .i64 0, .slice A1 4 c1][i]?) := fun u h => Bx.cell (Bx.step XV h)
    have P0 : Below w7.heap.size w7 w7.drew := bdr (Below.refl _ _)
    have P1 : Below w7.heap.size w7 (w7.alloc (.cells #[.int .i64 0, .int .i64 0, .int .i64 0, .int .i64 0, .slice none 0 0] 25)).drew := bdr (bal (Below.refl _ _) _)
    have P2 : Below w7.heap.size w7 (w7.alloc (.cells #[.int .i64 3, .int .i64 0] 2)).drew := bdr (bal (Below.refl _ _) _)
    have P3 : Below w7.heap.size w7 ((w7.alloc (.cells #[.int .i64 3, .int .i64 0] 2)).alloc (.cells #[.int .i64 0, .int .i64 0, .int .i64 0, .int .i64 0, .slice none 0 0] 25)).drew := bdr (bal (bal (Below.refl _ _) _) _)
    have P4 : Below w7.heap.size w7 ((w7.alloc (.cells #[.int .i64 0, .int .i64 0, .int .i64 0, .int .i64 0, .slice none 0 0] 25)).alloc (.cells #[.int .i64 3, .int .i64 0] 2)).drew := bdr (bal (bal (Below.refl _ _) _) _)
    have L2 := Lib.hid (show Sl (w7.alloc (.cells #[.int .i64 3, .int .i64 0] 2)).drew (some ⟨w7.heap.size, 0, none⟩) 2 2 [3, 0] from slLit w7 _ 2 rfl (by omega))
    have L3 := Lib.hid (show Sl ((w7.alloc (.cells #[.int .i64 3, .int .i64 0] 2)).alloc (.cells #[.int .i64 0, .int .i64 0, .int .i64 0, .int .i64 0, .slice none 0 0] 25)).drew (some ⟨w7.heap.size, 0, none⟩) 2 2 [3, 0] from Sl.step (w := w7.alloc (.cells #[.int .i64 3, .int .i64 0] 2)) (slLit w7 _ 2 rfl (by omega)) (bdr (below1 _ _)))
    have h1_ : (w7.alloc (.cells #[.int .i64 0, .int .i64 0, .int .i64 0, .int .i64 0, .slice none 0 0] 25)).heap.size = w7.heap.size + 1 := by simp
    have h2_ : (w7.alloc (.cells #[.int .i64 3, .int .i64 0] 2)).heap.size = w7.heap.size + 1 := by simp
    have L4 := Lib.hid (show Sl ((w7.alloc (.cells #[.int .i64 0, .int .i64 0, .int .i64 0, .int .i64 0, .slice none 0 0] 25)).alloc (.cells #[.int .i64 3, .int .i64 0] 2)).drew (some ⟨w7.heap.size + 1, 0, none⟩) 2 2 [3, 0] by rw [← h1_]; exact slLit (w7.alloc (.cells #[.int .i64 0, .int .i64 0, .int .i64 0, .int .i64 0, .slice none 0 0] 25)) _ 2 rfl (by omega))
    have N3 : Bx ((w7.alloc (.cells #[.int .i64 3, .int .i64 0] 2)).alloc (.cells #[.int .i64 0, .int .i64 0, .int .i64 0, .int .i64 0, .slice none 0 0] 25)).drew (w7.heap.size + 1) #[.int .i64 0, .int .i64 0, .int .i64 0, .int .i64 0, .slice none 0 0] 25 := by rw [← h2_]; exact Bx.new (w7.alloc (.cells #[.int .i64 3, .int .i64 0] 2)) _ _
    have N4 : Bx ((w7.alloc (.cells #[.int .i64 0, .int .i64 0, .int .i64 0, .int .i64 0, .slice none 0 0] 25)).alloc (.cells #[.int .i64 3, .int .i64 0] 2)).drew (w7.heap.size) #[.int .i64 0, .int .i64 0, .int .i64 0, .int .i64 0, .slice none 0 0] 25 := Bx.alloc (Bx.new w7 _ _) _
    clear h1_ h2_
    go_region_held3 (fun w' => (∀ i, w'.cell? ⟨w1.heap.size, i, none⟩ = #[.int .i64 1, .int .i64 1, .int .i64 4, .int .i64 0, .slice A1 4 c1][i]?))
      (with_reducible first | exact hS _ P0 | exact hS _ P1 | exact hS _ P2 | exact hS _ P3 | exact hS _ P4 | exact hS _ R1 | exact hS _ (bal R1 _) | exact hS _ R2 | exact hS _ (bal R2 _) | exact hS _ (below_set5' R2 (Nat.le_succ _) _ _ _ _ _) | exact hS _ (below_set5' R2 (Nat.le_refl _) _ _ _ _ _) | exact hS _ (below_set5' R2 R1.size _ _ _ _ _))
      (first
        | (go_at_call 29; (with_reducible first | refine (ints_any (some ⟨w7.heap.size, 0, none⟩) 2 2 [3, 0] ((w7.alloc (.cells #[.int .i64 3, .int .i64 0] 2)).drew) L2.out (by omega)).mono ?_ | refine (ints_any (some ⟨w7.heap.size, 0, none⟩) 2 2 [3, 0] (((w7.alloc (.cells #[.int .i64 3, .int .i64 0] 2)).alloc (.cells #[.int .i64 0, .int .i64 0, .int .i64 0, .int .i64 0, .slice none 0 0] 25)).drew) L3.out (by omega)).mono ?_ | refine (ints_any (some ⟨w7.heap.size + 1, 0, none⟩) 2 2 [3, 0] (((w7.alloc (.cells #[.int .i64 0, .int .i64 0, .int .i64 0, .int .i64 0, .slice none 0 0] 25)).alloc (.cells #[.int .i64 3, .int .i64 0] 2)).drew) L4.out (by omega)).mono ?_); rintro e y1 ⟨⟨Ay1, ny1, cy1, rfl, hSy, hNy⟩, hb_⟩; have R1 : Below w7.heap.size w7 y1 := (by with_reducible first | exact bst P2 hb_ | exact bst P3 hb_ | exact bst P4 hb_); have ss1 := R1.size; have O1 : Below y1.heap.size y1 (y1.alloc (.cells #[.int .i64 0, .int .i64 0, .int .i64 0, .int .i64 0, .slice none 0 0] 25)) := below1 _ _; have NO1 : Bx (y1.alloc (.cells #[.int .i64 0, .int .i64 0, .int .i64 0, .int .i64 0, .slice none 0 0] 25)) (y1.heap.size) #[.int .i64 0, .int .i64 0, .int .i64 0, .int .i64 0, .slice none 0 0] 25 := Bx.new y1 _ _; have QSv := Lib.hid (Sv.out.step R1); have T1 := Lib.hid hSy; clear hSy; (try (have M3 : Bx y1 (w7.heap.size + 1) #[.int .i64 0, .int .i64 0, .int .i64 0, .int .i64 0, .slice none 0 0] 25 := (by with_reducible exact Bx.step N3 hb_))); (try (have M4 : Bx y1 (w7.heap.size) #[.int .i64 0, .int .i64 0, .int .i64 0, .int .i64 0, .slice none 0 0] 25 := (by with_reducible exact Bx.step N4 hb_))); (try (have LM3 := Bx.lt M3)); (try (have LM4 := Bx.lt M4)))
        | (go_at_call 18; (with_reducible first | refine (fat_any _ _ _ _ _ _ _ [5, 3, 5, 1] _ _ _ _ _ _ _ [3, 0] (⟨1, 1, 2, 0, [1, 5]⟩, 0) y1 QSv.out T1.out hT.out).mono ?_ | refine (fat_any _ _ _ _ _ _ _ [5, 3, 5, 1] _ _ _ _ _ _ _ [3, 0] (⟨1, 1, 2, 0, [1, 5]⟩, 0) _ (QSv.out.step O1) (T1.out.step O1) hT.out).mono ?_); intro e y2 hR_; obtain ⟨Ay2, ny2, cy2, rfl, hSy, hNy, hb_⟩ := RetA.flat hR_; have R2 : Below w7.heap.size w7 y2 := (by with_reducible first | exact bst R1 hb_ | exact bst (bal R1 _) hb_); have ss2 := R2.size; have O2 : Below y2.heap.size y2 (y2.alloc (.cells #[.int .i64 0, .int .i64 0, .int .i64 0, .int .i64 0, .slice none 0 0] 25)) := below1 _ _; have NO2 : Bx (y2.alloc (.cells #[.int .i64 0, .int .i64 0, .int .i64 0, .int .i64 0, .slice none 0 0] 25)) (y2.heap.size) #[.int .i64 0, .int .i64 0, .int .i64 0, .int .i64 0, .slice none 0 0] 25 := Bx.new y2 _ _; have step_ : Below y1.heap.size y1 y2 := (by with_reducible first | exact hb_ | exact bst O1 hb_); have QSv := Lib.hid (Sv.out.step R2); have T1 := Lib.hid (T1.out.step step_); (try (have M3 : Bx y2 (w7.heap.size + 1) #[.int .i64 0, .int .i64 0, .int .i64 0, .int .i64 0, .slice none 0 0] 25 := (by with_reducible exact Bx.step M3 hb_))); (try (have M4 : Bx y2 (w7.heap.size) #[.int .i64 0, .int .i64 0, .int .i64 0, .int .i64 0, .slice none 0 0] 25 := (by with_reducible exact Bx.step M4 hb_))); (try (have K1 : Bx y2 (y1.heap.size) #[.int .i64 0, .int .i64 0, .int .i64 0, .int .i64 0, .slice none 0 0] 25 := (by with_reducible exact Bx.step NO1 hb_))); (first | (have gB : ∀ i, y2.cell? ⟨(w7.heap.size + 1), i, none⟩ = _ := Bx.cell M3; have kB : ∀ i, y2.frozen? ⟨(w7.heap.size + 1), i, none⟩ = false := Bx.frozen M3) | (have gB : ∀ i, y2.cell? ⟨(w7.heap.size), i, none⟩ = _ := Bx.cell M4; have kB : ∀ i, y2.frozen? ⟨(w7.heap.size), i, none⟩ = false := Bx.frozen M4) | (have gB : ∀ i, y2.cell? ⟨(y1.heap.size), i, none⟩ = _ := Bx.cell K1; have kB : ∀ i, y2.frozen? ⟨(y1.heap.size), i, none⟩ = false := Bx.frozen K1) | skip)))
    all_goals go_wp2_with fail
    all_goals go_meet
    · exact ⟨y2.heap.size, Ay2, ny2, cy2, rfl, rfl, bal R2 _, Lib.hid (Bx.new y2 _ _), Lib.hid (hSy.step (below1 _ _)), R2.size, Lib.hid (hNy.mono ss1), Lib.hid (hSy.ne_lo (Nat.le_refl _))⟩
    · exact ⟨(y1.heap.size), Ay2, ny2, cy2, rfl, rfl, below_set5' R2 R1.size _ _ _ _ _, Lib.hid (Bx.set5 K1 _ _ _ _ _), Lib.hid (hSy.past5 _ _ _ _ _ fun b o e => by have h_ := hNy b o none e; rw [World.size_alloc] at h_; omega), R1.size, Lib.hid (hNy.mono (by rw [World.size_alloc]; omega)), Lib.hid (fun _ b o e => by have h_ := hNy b o none e; rw [World.size_alloc] at h_; omega)⟩
    · exact ⟨(w7.heap.size + 1), Ay2, ny2, cy2, rfl, rfl, below_set5' R2 (Nat.le_succ _) _ _ _ _ _, Lib.hid (Bx.set5 M3 _ _ _ _ _), Lib.hid (hSy.past5 _ _ _ _ _ fun b o e => by have h_ := hNy b o none e; have l_ := LM3; omega), (Nat.le_succ _), Lib.hid (hNy.mono ss1), Lib.hid (fun _ b o e => by have h_ := hNy b o none e; have l_ := LM3; omega)⟩
    · exact ⟨(w7.heap.size), Ay2, ny2, cy2, rfl, rfl, below_set5' R2 (Nat.le_refl _) _ _ _ _ _, Lib.hid (Bx.set5 M4 _ _ _ _ _), Lib.hid (hSy.past5 _ _ _ _ _ fun b o e => by have h_ := hNy b o none e; have l_ := LM4; omega), (Nat.le_refl _), Lib.hid (hNy.mono ss1), Lib.hid (fun _ b o e => by have h_ := hNy b o none e; have l_ := LM4; omega)⟩
  case rest =>
  obtain ⟨B8, A8, n8, c8, rfl, rfl, hst, HX_, HS_, hB8, NS8, ne_S8_X8⟩ := hcut
  obtain ⟨w8, hw8⟩ : ∃ w8, wc = w8 := ⟨_, rfl⟩
  rw [hw8] at hst HX_ HS_
  rw [hw8]
  clear hw8
  replace XV := Bx.step XV hst
  replace X2 := Bx.step X2 hst
  replace X4 := Bx.step X4 hst
  replace X6 := Bx.step X6 hst
  replace Sv := Lib.hid (Sv.out.step hst)
  replace S2 := Lib.hid (S2.out.step hst)
  replace S3 := Lib.hid (S3.out.step hst)
  replace S4 := Lib.hid (S4.out.step hst)
  replace S5 := Lib.hid (S5.out.step hst)
  replace S6 := Lib.hid (S6.out.step hst)
  replace b := bst b hst
  have X8 := HX_.out
  have S8 := HS_
  clear hst HX_ HS_
  clear hT
  have dXV : ∀ i, w8.cell? ⟨w1.heap.size, i, none⟩ = _ := Bx.cell XV
  have eXV : ∀ i, w8.frozen? ⟨w1.heap.size, i, none⟩ = false := Bx.frozen XV
  have qXV := Bx.lt XV
  have dX2 : ∀ i, w8.cell? ⟨w2.heap.size, i, none⟩ = _ := Bx.cell X2
  have eX2 : ∀ i, w8.frozen? ⟨w2.heap.size, i, none⟩ = false := Bx.frozen X2
  have qX2 := Bx.lt X2
  have dX4 : ∀ i, w8.cell? ⟨w4.heap.size, i, none⟩ = _ := Bx.cell X4
  have eX4 : ∀ i, w8.frozen? ⟨w4.heap.size, i, none⟩ = false := Bx.frozen X4
  have qX4 := Bx.lt X4
  have dX6 : ∀ i, w8.cell? ⟨w6.heap.size, i, none⟩ = _ := Bx.cell X6
  have eX6 : ∀ i, w8.frozen? ⟨w6.heap.size, i, none⟩ = false := Bx.frozen X6
  have qX6 := Bx.lt X6
  have dX8 : ∀ i, w8.cell? ⟨B8, i, none⟩ = _ := Bx.cell X8
  have eX8 : ∀ i, w8.frozen? ⟨B8, i, none⟩ = false := Bx.frozen X8
  have qX8 := Bx.lt X8
  go_wp2_with fail
  clear dXV eXV qXV dX2 eX2 qX2 dX4 eX4 qX4 dX6 eX6 qX6 dX8 eX8 qX8
  have hT := Lib.hid (show sFAt ⟨1, 1, 4, 0, [5, 3, 5, 1]⟩ ⟨1, 0, 0, 0, [4]⟩ = (⟨0, 0, 0, 0, []⟩, 14) from rfl)
  go_cut [10, 11] from 42 to 47 (fun p e wx => ∃ (B : Nat) (A : Option Addr) (n c : Nat), p = .pointer (some ⟨B, 0, none⟩) ∧ e = .int .i64 14 ∧ Below w8.heap.size w8 wx ∧ Hid (Bx wx B #[.int .i64 0, .int .i64 0, .int .i64 0, .int .i64 0, .slice A n c] 25) ∧ Hid (Sl wx A n c []) ∧ w8.heap.size ≤ B ∧ Hid (New w8 A) ∧ Hid (0 < n → ∀ b o, A = some ⟨b, o, none⟩ → b ≠ B))
  case first =>
    have hS : ∀ u, Below w8.heap.size w8 u → (∀ i, u.cell? ⟨w1.heap.size, i, none⟩ = #[.int .i64 1, .int .i64 1, .int .i64 4, .int .i64 0, .slice A1 4 c1][i]?) := fun u h => Bx.cell (Bx.step XV h)
    have P0 : Below w8.heap.size w8 w8.drew := bdr (Below.refl _ _)
    have P1 : Below w8.heap.size w8 (w8.alloc (.cells #[.int .i64 0, .int .i64 0, .int .i64 0, .int .i64 0, .slice none 0 0] 25)).drew := bdr (bal (Below.refl _ _) _)
    have N1 : Bx (w8.alloc (.cells #[.int .i64 0, .int .i64 0, .int .i64 0, .int .i64 0, .slice none 0 0] 25)).drew (w8.heap.size) #[.int .i64 0, .int .i64 0, .int .i64 0, .int .i64 0, .slice none 0 0] 25 := Bx.new w8 _ _
    go_region_held3 (fun w' => (∀ i, w'.cell? ⟨w1.heap.size, i, none⟩ = #[.int .i64 1, .int .i64 1, .int .i64 4, .int .i64 0, .slice A1 4 c1][i]?))
      (with_reducible first | exact hS _ P0 | exact hS _ P1 | exact hS _ R1 | exact hS _ (bal R1 _) | exact hS _ R2 | exact hS _ (bal R2 _) | exact hS _ (below_set5' R2 (Nat.le_refl _) _ _ _ _ _) | exact hS _ (below_set5' R2 R1.size _ _ _ _ _))
      (first
        | (go_at_call 27; (with_reducible first | refine (int_any 4 _).mono ?_ | refine (int_any 4 _).mono ?_); rintro e y1 ⟨⟨Ay1, ny1, cy1, rfl, hSy, hNy⟩, hb_⟩; have R1 : Below w8.heap.size w8 y1 := (by with_reducible first | exact bst P0 hb_ | exact bst P1 hb_); have ss1 := R1.size; have O1 : Below y1.heap.size y1 (y1.alloc (.cells #[.int .i64 0, .int .i64 0, .int .i64 0, .int .i64 0, .slice none 0 0] 25)) := below1 _ _; have NO1 : Bx (y1.alloc (.cells #[.int .i64 0, .int .i64 0, .int .i64 0, .int .i64 0, .slice none 0 0] 25)) (y1.heap.size) #[.int .i64 0, .int .i64 0, .int .i64 0, .int .i64 0, .slice none 0 0] 25 := Bx.new y1 _ _; have QSv := Lib.hid (Sv.out.step R1); have T1 := Lib.hid hSy; clear hSy; (try (have M1 : Bx y1 (w8.heap.size) #[.int .i64 0, .int .i64 0, .int .i64 0, .int .i64 0, .slice none 0 0] 25 := (by with_reducible exact Bx.step N1 hb_))); (try (have LM1 := Bx.lt M1)))
        | (go_at_call 18; (with_reducible first | refine (fat_any _ _ _ _ _ _ _ [5, 3, 5, 1] _ _ _ _ _ _ _ [4] (⟨0, 0, 0, 0, []⟩, 14) y1 QSv.out T1.out hT.out).mono ?_ | refine (fat_any _ _ _ _ _ _ _ [5, 3, 5, 1] _ _ _ _ _ _ _ [4] (⟨0, 0, 0, 0, []⟩, 14) _ (QSv.out.step O1) (T1.out.step O1) hT.out).mono ?_); intro e y2 hR_; obtain ⟨Ay2, ny2, cy2, rfl, hSy, hNy, hb_⟩ := RetA.flat hR_; have R2 : Below w8.heap.size w8 y2 := (by with_reducible first | exact bst R1 hb_ | exact bst (bal R1 _) hb_); have ss2 := R2.size; have O2 : Below y2.heap.size y2 (y2.alloc (.cells #[.int .i64 0, .int .i64 0, .int .i64 0, .int .i64 0, .slice none 0 0] 25)) := below1 _ _; have NO2 : Bx (y2.alloc (.cells #[.int .i64 0, .int .i64 0, .int .i64 0, .int .i64 0, .slice none 0 0] 25)) (y2.heap.size) #[.int .i64 0, .int .i64 0, .int .i64 0, .int .i64 0, .slice none 0 0] 25 := Bx.new y2 _ _; have step_ : Below y1.heap.size y1 y2 := (by with_reducible first | exact hb_ | exact bst O1 hb_); have QSv := Lib.hid (Sv.out.step R2); have T1 := Lib.hid (T1.out.step step_); (try (have M1 : Bx y2 (w8.heap.size) #[.int .i64 0, .int .i64 0, .int .i64 0, .int .i64 0, .slice none 0 0] 25 := (by with_reducible exact Bx.step M1 hb_))); (try (have K1 : Bx y2 (y1.heap.size) #[.int .i64 0, .int .i64 0, .int .i64 0, .int .i64 0, .slice none 0 0] 25 := (by with_reducible exact Bx.step NO1 hb_))); (first | (have gB : ∀ i, y2.cell? ⟨(w8.heap.size), i, none⟩ = _ := Bx.cell M1; have kB : ∀ i, y2.frozen? ⟨(w8.heap.size), i, none⟩ = false := Bx.frozen M1) | (have gB : ∀ i, y2.cell? ⟨(y1.heap.size), i, none⟩ = _ := Bx.cell K1; have kB : ∀ i, y2.frozen? ⟨(y1.heap.size), i, none⟩ = false := Bx.frozen K1) | skip)))
    all_goals go_wp2_with fail
    all_goals go_meet
    · exact ⟨y2.heap.size, Ay2, ny2, cy2, rfl, rfl, bal R2 _, Lib.hid (Bx.new y2 _ _), Lib.hid (hSy.step (below1 _ _)), R2.size, Lib.hid (hNy.mono ss1), Lib.hid (hSy.ne_lo (Nat.le_refl _))⟩
    · exact ⟨(y1.heap.size), Ay2, ny2, cy2, rfl, rfl, below_set5' R2 R1.size _ _ _ _ _, Lib.hid (Bx.set5 K1 _ _ _ _ _), Lib.hid (hSy.past5 _ _ _ _ _ fun b o e => by have h_ := hNy b o none e; rw [World.size_alloc] at h_; omega), R1.size, Lib.hid (hNy.mono (by rw [World.size_alloc]; omega)), Lib.hid (fun _ b o e => by have h_ := hNy b o none e; rw [World.size_alloc] at h_; omega)⟩
    · exact ⟨(w8.heap.size), Ay2, ny2, cy2, rfl, rfl, below_set5' R2 (Nat.le_refl _) _ _ _ _ _, Lib.hid (Bx.set5 M1 _ _ _ _ _), Lib.hid (hSy.past5 _ _ _ _ _ fun b o e => by have h_ := hNy b o none e; have l_ := LM1; omega), (Nat.le_refl _), Lib.hid (hNy.mono ss1), Lib.hid (fun _ b o e => by have h_ := hNy b o none e; have l_ := LM1; omega)⟩
  case rest =>
  obtain ⟨B9, A9, n9, c9, rfl, rfl, hst, HX_, HS_, hB9, NS10, ne_S10_X10⟩ := hcut
  obtain ⟨w9, hw9⟩ : ∃ w9, wc = w9 := ⟨_, rfl⟩
  rw [hw9] at hst HX_ HS_
  rw [hw9]
  clear hw9
  replace XV := Bx.step XV hst
  replace X2 := Bx.step X2 hst
  replace X4 := Bx.step X4 hst
  replace X6 := Bx.step X6 hst
  replace X8 := Bx.step X8 hst
  replace Sv := Lib.hid (Sv.out.step hst)
  replace S2 := Lib.hid (S2.out.step hst)
  replace S3 := Lib.hid (S3.out.step hst)
  replace S4 := Lib.hid (S4.out.step hst)
  replace S5 := Lib.hid (S5.out.step hst)
  replace S6 := Lib.hid (S6.out.step hst)
  replace S8 := Lib.hid (S8.out.step hst)
  replace b := bst b hst
  have X10 := HX_.out
  have S10 := HS_
  clear hst HX_ HS_
  clear hT
  have dXV : ∀ i, w9.cell? ⟨w1.heap.size, i, none⟩ = _ := Bx.cell XV
  have eXV : ∀ i, w9.frozen? ⟨w1.heap.size, i, none⟩ = false := Bx.frozen XV
  have qXV := Bx.lt XV
  have dX2 : ∀ i, w9.cell? ⟨w2.heap.size, i, none⟩ = _ := Bx.cell X2
  have eX2 : ∀ i, w9.frozen? ⟨w2.heap.size, i, none⟩ = false := Bx.frozen X2
  have qX2 := Bx.lt X2
  have dX4 : ∀ i, w9.cell? ⟨w4.heap.size, i, none⟩ = _ := Bx.cell X4
  have eX4 : ∀ i, w9.frozen? ⟨w4.heap.size, i, none⟩ = false := Bx.frozen X4
  have qX4 := Bx.lt X4
  have dX6 : ∀ i, w9.cell? ⟨w6.heap.size, i, none⟩ = _ := Bx.cell X6
  have eX6 : ∀ i, w9.frozen? ⟨w6.heap.size, i, none⟩ = false := Bx.frozen X6
  have qX6 := Bx.lt X6
  have dX8 : ∀ i, w9.cell? ⟨B8, i, none⟩ = _ := Bx.cell X8
  have eX8 : ∀ i, w9.frozen? ⟨B8, i, none⟩ = false := Bx.frozen X8
  have qX8 := Bx.lt X8
  have dX10 : ∀ i, w9.cell? ⟨B9, i, none⟩ = _ := Bx.cell X10
  have eX10 : ∀ i, w9.frozen? ⟨B9, i, none⟩ = false := Bx.frozen X10
  have qX10 := Bx.lt X10
  go_wp2_with fail
  clear dXV eXV qXV dX2 eX2 qX2 dX4 eX4 qX4 dX6 eX6 qX6 dX8 eX8 qX8 dX10 eX10 qX10
  have hT := Lib.hid (show sFIn ⟨1, 1, 4, 0, [5, 3, 5, 1]⟩ ⟨1, 1, 2, 0, [5, 9]⟩ = (⟨1, 1, 4, 0, [1, 0, 1, 0]⟩, 0) from rfl)
  go_cut [12, 13] from 48 to 54 (fun p e wx => ∃ (B : Nat) (A : Option Addr) (n c : Nat), p = .pointer (some ⟨B, 0, none⟩) ∧ e = .int .i64 0 ∧ Below w9.heap.size w9 wx ∧ Hid (Bx wx B #[.int .i64 1, .int .i64 1, .int .i64 4, .int .i64 0, .slice A n c] 25) ∧ Hid (Sl wx A n c [1, 0, 1, 0]) ∧ w9.heap.size ≤ B ∧ Hid (New w9 A) ∧ Hid (0 < n → ∀ b o, A = some ⟨b, o, none⟩ → b ≠ B))
  case first =>
    have hS : ∀ u, Below w9.heap.size w9 u → (∀ i, u.cell? ⟨w1.heap.size, i, none⟩ = #[.int .i64 1, .int .i64 1, .int .i64 4, .int .i64 0, .slice A1 4 c1][i]?) := fun u h => Bx.cell (Bx.step XV h)
    have P0 : Below w9.heap.size w9 w9.drew := bdr (Below.refl _ _)
    have P1 : Below w9.heap.size w9 (w9.alloc (.cells #[.int .i64 0, .int .i64 0, .int .i64 0, .int .i64 0, .slice none 0 0] 25)).drew := bdr (bal (Below.refl _ _) _)
    have P2 : Below w9.heap.size w9 (w9.alloc (.cells #[.int .i64 5, .int .i64 9] 2)).drew := bdr (bal (Below.refl _ _) _)
    have P3 : Below w9.heap.size w9 ((w9.alloc (.cells #[.int .i64 5, .int .i64 9] 2)).alloc (.cells #[.int .i64 0, .int .i64 0, .int .i64 0, .int .i64 0, .slice none 0 0] 25)).drew := bdr (bal (bal (Below.refl _ _) _) _)
    have P4 : Below w9.heap.size w9 ((w9.alloc (.cells #[.int .i64 0, .int .i64 0, .int .i64 0, .int .i64 0, .slice none 0 0] 25)).alloc (.cells #[.int .i64 5, .int .i64 9] 2)).drew := bdr (bal (bal (Below.refl _ _) _) _)
    have L2 := Lib.hid (show Sl (w9.alloc (.cells #[.int .i64 5, .int .i64 9] 2)).drew (some ⟨w9.heap.size, 0, none⟩) 2 2 [5, 9] from slLit w9 _ 2 rfl (by omega))
    have L3 := Lib.hid (show Sl ((w9.alloc (.cells #[.int .i64 5, .int .i64 9] 2)).alloc (.cells #[.int .i64 0, .int .i64 0, .int .i64 0, .int .i64 0, .slice none 0 0] 25)).drew (some ⟨w9.heap.size, 0, none⟩) 2 2 [5, 9] from Sl.step (w := w9.alloc (.cells #[.int .i64 5, .int .i64 9] 2)) (slLit w9 _ 2 rfl (by omega)) (bdr (below1 _ _)))
    have h1_ : (w9.alloc (.cells #[.int .i64 0, .int .i64 0, .int .i64 0, .int .i64 0, .slice none 0 0] 25)).heap.size = w9.heap.size + 1 := by simp
    have h2_ : (w9.alloc (.cells #[.int .i64 5, .int .i64 9] 2)).heap.size = w9.heap.size + 1 := by simp
    have L4 := Lib.hid (show Sl ((w9.alloc (.cells #[.int .i64 0, .int .i64 0, .int .i64 0, .int .i64 0, .slice none 0 0] 25)).alloc (.cells #[.int .i64 5, .int .i64 9] 2)).drew (some ⟨w9.heap.size + 1, 0, none⟩) 2 2 [5, 9] by rw [← h1_]; exact slLit (w9.alloc (.cells #[.int .i64 0, .int .i64 0, .int .i64 0, .int .i64 0, .slice none 0 0] 25)) _ 2 rfl (by omega))
    have N3 : Bx ((w9.alloc (.cells #[.int .i64 5, .int .i64 9] 2)).alloc (.cells #[.int .i64 0, .int .i64 0, .int .i64 0, .int .i64 0, .slice none 0 0] 25)).drew (w9.heap.size + 1) #[.int .i64 0, .int .i64 0, .int .i64 0, .int .i64 0, .slice none 0 0] 25 := by rw [← h2_]; exact Bx.new (w9.alloc (.cells #[.int .i64 5, .int .i64 9] 2)) _ _
    have N4 : Bx ((w9.alloc (.cells #[.int .i64 0, .int .i64 0, .int .i64 0, .int .i64 0, .slice none 0 0] 25)).alloc (.cells #[.int .i64 5, .int .i64 9] 2)).drew (w9.heap.size) #[.int .i64 0, .int .i64 0, .int .i64 0, .int .i64 0, .slice none 0 0] 25 := Bx.alloc (Bx.new w9 _ _) _
    clear h1_ h2_
    go_region_held3 (fun w' => (∀ i, w'.cell? ⟨w1.heap.size, i, none⟩ = #[.int .i64 1, .int .i64 1, .int .i64 4, .int .i64 0, .slice A1 4 c1][i]?))
      (with_reducible first | exact hS _ P0 | exact hS _ P1 | exact hS _ P2 | exact hS _ P3 | exact hS _ P4 | exact hS _ R1 | exact hS _ (bal R1 _) | exact hS _ R2 | exact hS _ (bal R2 _) | exact hS _ (below_set5' R2 (Nat.le_succ _) _ _ _ _ _) | exact hS _ (below_set5' R2 (Nat.le_refl _) _ _ _ _ _) | exact hS _ (below_set5' R2 R1.size _ _ _ _ _))
      (first
        | (go_at_call 29; (with_reducible first | refine (ints_any (some ⟨w9.heap.size, 0, none⟩) 2 2 [5, 9] ((w9.alloc (.cells #[.int .i64 5, .int .i64 9] 2)).drew) L2.out (by omega)).mono ?_ | refine (ints_any (some ⟨w9.heap.size, 0, none⟩) 2 2 [5, 9] (((w9.alloc (.cells #[.int .i64 5, .int .i64 9] 2)).alloc (.cells #[.int .i64 0, .int .i64 0, .int .i64 0, .int .i64 0, .slice none 0 0] 25)).drew) L3.out (by omega)).mono ?_ | refine (ints_any (some ⟨w9.heap.size + 1, 0, none⟩) 2 2 [5, 9] (((w9.alloc (.cells #[.int .i64 0, .int .i64 0, .int .i64 0, .int .i64 0, .slice none 0 0] 25)).alloc (.cells #[.int .i64 5, .int .i64 9] 2)).drew) L4.out (by omega)).mono ?_); rintro e y1 ⟨⟨Ay1, ny1, cy1, rfl, hSy, hNy⟩, hb_⟩; have R1 : Below w9.heap.size w9 y1 := (by with_reducible first | exact bst P2 hb_ | exact bst P3 hb_ | exact bst P4 hb_); have ss1 := R1.size; have O1 : Below y1.heap.size y1 (y1.alloc (.cells #[.int .i64 0, .int .i64 0, .int .i64 0, .int .i64 0, .slice none 0 0] 25)) := below1 _ _; have NO1 : Bx (y1.alloc (.cells #[.int .i64 0, .int .i64 0, .int .i64 0, .int .i64 0, .slice none 0 0] 25)) (y1.heap.size) #[.int .i64 0, .int .i64 0, .int .i64 0, .int .i64 0, .slice none 0 0] 25 := Bx.new y1 _ _; have QSv := Lib.hid (Sv.out.step R1); have T1 := Lib.hid hSy; clear hSy; (try (have M3 : Bx y1 (w9.heap.size + 1) #[.int .i64 0, .int .i64 0, .int .i64 0, .int .i64 0, .slice none 0 0] 25 := (by with_reducible exact Bx.step N3 hb_))); (try (have M4 : Bx y1 (w9.heap.size) #[.int .i64 0, .int .i64 0, .int .i64 0, .int .i64 0, .slice none 0 0] 25 := (by with_reducible exact Bx.step N4 hb_))); (try (have LM3 := Bx.lt M3)); (try (have LM4 := Bx.lt M4)))
        | (go_at_call 20; (with_reducible first | refine (fin_any _ _ _ _ _ _ _ [5, 3, 5, 1] _ _ _ _ _ _ _ [5, 9] (⟨1, 1, 4, 0, [1, 0, 1, 0]⟩, 0) y1 QSv.out T1.out (by simp) (by simp) hT.out).mono ?_ | refine (fin_any _ _ _ _ _ _ _ [5, 3, 5, 1] _ _ _ _ _ _ _ [5, 9] (⟨1, 1, 4, 0, [1, 0, 1, 0]⟩, 0) _ (QSv.out.step O1) (T1.out.step O1) (by simp) (by simp) hT.out).mono ?_); intro e y2 hR_; obtain ⟨Ay2, ny2, cy2, rfl, hSy, hNy, hb_⟩ := RetA.flat hR_; have R2 : Below w9.heap.size w9 y2 := (by with_reducible first | exact bst R1 hb_ | exact bst (bal R1 _) hb_); have ss2 := R2.size; have O2 : Below y2.heap.size y2 (y2.alloc (.cells #[.int .i64 0, .int .i64 0, .int .i64 0, .int .i64 0, .slice none 0 0] 25)) := below1 _ _; have NO2 : Bx (y2.alloc (.cells #[.int .i64 0, .int .i64 0, .int .i64 0, .int .i64 0, .slice none 0 0] 25)) (y2.heap.size) #[.int .i64 0, .int .i64 0, .int .i64 0, .int .i64 0, .slice none 0 0] 25 := Bx.new y2 _ _; have step_ : Below y1.heap.size y1 y2 := (by with_reducible first | exact hb_ | exact bst O1 hb_); have QSv := Lib.hid (Sv.out.step R2); have T1 := Lib.hid (T1.out.step step_); (try (have M3 : Bx y2 (w9.heap.size + 1) #[.int .i64 0, .int .i64 0, .int .i64 0, .int .i64 0, .slice none 0 0] 25 := (by with_reducible exact Bx.step M3 hb_))); (try (have M4 : Bx y2 (w9.heap.size) #[.int .i64 0, .int .i64 0, .int .i64 0, .int .i64 0, .slice none 0 0] 25 := (by with_reducible exact Bx.step M4 hb_))); (try (have K1 : Bx y2 (y1.heap.size) #[.int .i64 0, .int .i64 0, .int .i64 0, .int .i64 0, .slice none 0 0] 25 := (by with_reducible exact Bx.step NO1 hb_))); (first | (have gB : ∀ i, y2.cell? ⟨(w9.heap.size + 1), i, none⟩ = _ := Bx.cell M3; have kB : ∀ i, y2.frozen? ⟨(w9.heap.size + 1), i, none⟩ = false := Bx.frozen M3) | (have gB : ∀ i, y2.cell? ⟨(w9.heap.size), i, none⟩ = _ := Bx.cell M4; have kB : ∀ i, y2.frozen? ⟨(w9.heap.size), i, none⟩ = false := Bx.frozen M4) | (have gB : ∀ i, y2.cell? ⟨(y1.heap.size), i, none⟩ = _ := Bx.cell K1; have kB : ∀ i, y2.frozen? ⟨(y1.heap.size), i, none⟩ = false := Bx.frozen K1) | skip)))
    all_goals go_wp2_with fail
    all_goals go_meet
    · exact ⟨y2.heap.size, Ay2, ny2, cy2, rfl, rfl, bal R2 _, Lib.hid (Bx.new y2 _ _), Lib.hid (hSy.step (below1 _ _)), R2.size, Lib.hid (hNy.mono ss1), Lib.hid (hSy.ne_lo (Nat.le_refl _))⟩
    · exact ⟨(y1.heap.size), Ay2, ny2, cy2, rfl, rfl, below_set5' R2 R1.size _ _ _ _ _, Lib.hid (Bx.set5 K1 _ _ _ _ _), Lib.hid (hSy.past5 _ _ _ _ _ fun b o e => by have h_ := hNy b o none e; rw [World.size_alloc] at h_; omega), R1.size, Lib.hid (hNy.mono (by rw [World.size_alloc]; omega)), Lib.hid (fun _ b o e => by have h_ := hNy b o none e; rw [World.size_alloc] at h_; omega)⟩
    · exact ⟨(w9.heap.size + 1), Ay2, ny2, cy2, rfl, rfl, below_set5' R2 (Nat.le_succ _) _ _ _ _ _, Lib.hid (Bx.set5 M3 _ _ _ _ _), Lib.hid (hSy.past5 _ _ _ _ _ fun b o e => by have h_ := hNy b o none e; have l_ := LM3; omega), (Nat.le_succ _), Lib.hid (hNy.mono ss1), Lib.hid (fun _ b o e => by have h_ := hNy b o none e; have l_ := LM3; omega)⟩
    · exact ⟨(w9.heap.size), Ay2, ny2, cy2, rfl, rfl, below_set5' R2 (Nat.le_refl _) _ _ _ _ _, Lib.hid (Bx.set5 M4 _ _ _ _ _), Lib.hid (hSy.past5 _ _ _ _ _ fun b o e => by have h_ := hNy b o none e; have l_ := LM4; omega), (Nat.le_refl _), Lib.hid (hNy.mono ss1), Lib.hid (fun _ b o e => by have h_ := hNy b o none e; have l_ := LM4; omega)⟩
  case rest =>
  obtain ⟨B10, A10, n10, c10, rfl, rfl, hst, HX_, HS_, hB10, NS12, ne_S12_X12⟩ := hcut
  obtain ⟨w10, hw10⟩ : ∃ w10, wc = w10 := ⟨_, rfl⟩
  rw [hw10] at hst HX_ HS_
  rw [hw10]
  clear hw10
  replace XV := Bx.step XV hst
  replace X2 := Bx.step X2 hst
  replace X4 := Bx.step X4 hst
  replace X6 := Bx.step X6 hst
  replace X8 := Bx.step X8 hst
  replace X10 := Bx.step X10 hst
  replace Sv := Lib.hid (Sv.out.step hst)
  replace S2 := Lib.hid (S2.out.step hst)
  replace S3 := Lib.hid (S3.out.step hst)
  replace S4 := Lib.hid (S4.out.step hst)
  replace S5 := Lib.hid (S5.out.step hst)
  replace S6 := Lib.hid (S6.out.step hst)
  replace S8 := Lib.hid (S8.out.step hst)
  replace S10 := Lib.hid (S10.out.step hst)
  replace b := bst b hst
  have X12 := HX_.out
  have S12 := HS_
  clear hst HX_ HS_
  clear hT
  have dXV : ∀ i, w10.cell? ⟨w1.heap.size, i, none⟩ = _ := Bx.cell XV
  have eXV : ∀ i, w10.frozen? ⟨w1.heap.size, i, none⟩ = false := Bx.frozen XV
  have qXV := Bx.lt XV
  have dX2 : ∀ i, w10.cell? ⟨w2.heap.size, i, none⟩ = _ := Bx.cell X2
  have eX2 : ∀ i, w10.frozen? ⟨w2.heap.size, i, none⟩ = false := Bx.frozen X2
  have qX2 := Bx.lt X2
  have dX4 : ∀ i, w10.cell? ⟨w4.heap.size, i, none⟩ = _ := Bx.cell X4
  have eX4 : ∀ i, w10.frozen? ⟨w4.heap.size, i, none⟩ = false := Bx.frozen X4
  have qX4 := Bx.lt X4
  have dX6 : ∀ i, w10.cell? ⟨w6.heap.size, i, none⟩ = _ := Bx.cell X6
  have eX6 : ∀ i, w10.frozen? ⟨w6.heap.size, i, none⟩ = false := Bx.frozen X6
  have qX6 := Bx.lt X6
  have dX8 : ∀ i, w10.cell? ⟨B8, i, none⟩ = _ := Bx.cell X8
  have eX8 : ∀ i, w10.frozen? ⟨B8, i, none⟩ = false := Bx.frozen X8
  have qX8 := Bx.lt X8
  have dX10 : ∀ i, w10.cell? ⟨B9, i, none⟩ = _ := Bx.cell X10
  have eX10 : ∀ i, w10.frozen? ⟨B9, i, none⟩ = false := Bx.frozen X10
  have qX10 := Bx.lt X10
  have dX12 : ∀ i, w10.cell? ⟨B10, i, none⟩ = _ := Bx.cell X12
  have eX12 : ∀ i, w10.frozen? ⟨B10, i, none⟩ = false := Bx.frozen X12
  have qX12 := Bx.lt X12
  go_wp2_with fail
  clear dXV eXV qXV dX2 eX2 qX2 dX4 eX4 qX4 dX6 eX6 qX6 dX8 eX8 qX8 dX10 eX10 qX10 dX12 eX12 qX12
  have hT := Lib.hid (show sPick ⟨1, 1, 4, 0, [1, 0, 7, 0]⟩ ⟨1, 1, 4, 0, [5, 3, 5, 1]⟩ = (⟨1, 1, 2, 0, [5, 5]⟩, 0) from rfl)
  go_cut [14, 15] from 55 to 61 (fun p e wx => ∃ (B : Nat) (A : Option Addr) (n c : Nat), p = .pointer (some ⟨B, 0, none⟩) ∧ e = .int .i64 0 ∧ Below w10.heap.size w10 wx ∧ Hid (Bx wx B #[.int .i64 1, .int .i64 1, .int .i64 2, .int .i64 0, .slice A n c] 25) ∧ Hid (Sl wx A n c [5, 5]) ∧ w10.heap.size ≤ B ∧ Hid (New w10 A) ∧ Hid (0 < n → ∀ b o, A = some ⟨b, o, none⟩ → b ≠ B))
  case first =>
    have hS : ∀ u, Below w10.heap.size w10 u → (∀ i, u.cell? ⟨w1.heap.size, i, none⟩ = #[.int .i64 1, .int .i64 1, .int .i64 4, .int .i64 0, .slice A1 4 c1][i]?) := fun u h => Bx.cell (Bx.step XV h)
    have P0 : Below w10.heap.size w10 w10.drew := bdr (Below.refl _ _)
    have P1 : Below w10.heap.size w10 (w10.alloc (.cells #[.int .i64 0, .int .i64 0, .int .i64 0, .int .i64 0, .slice none 0 0] 25)).drew := bdr (bal (Below.refl _ _) _)
    have P2 : Below w10.heap.size w10 (w10.alloc (.cells #[.int .i64 1, .int .i64 0, .int .i64 7, .int .i64 0] 2)).drew := bdr (bal (Below.refl _ _) _)
    have P3 : Below w10.heap.size w10 ((w10.alloc (.cells #[.int .i64 1, .int .i64 0, .int .i64 7, .int .i64 0] 2)).alloc (.cells #[.int .i64 0, .int .i64 0, .int .i64 0, .int .i64 0, .slice none 0 0] 25)).drew := bdr (bal (bal (Below.refl _ _) _) _)
    have P4 : Below w10.heap.size w10 ((w10.alloc (.cells #[.int .i64 0, .int .i64 0, .int .i64 0, .int .i64 0, .slice none 0 0] 25)).alloc (.cells #[.int .i64 1, .int .i64 0, .int .i64 7, .int .i64 0] 2)).drew := bdr (bal (bal (Below.refl _ _) _) _)
    have L2 := Lib.hid (show Sl (w10.alloc (.cells #[.int .i64 1, .int .i64 0, .int .i64 7, .int .i64 0] 2)).drew (some ⟨w10.heap.size, 0, none⟩) 4 4 [1, 0, 7, 0] from slLit w10 _ 4 rfl (by omega))
    have L3 := Lib.hid (show Sl ((w10.alloc (.cells #[.int .i64 1, .int .i64 0, .int .i64 7, .int .i64 0] 2)).alloc (.cells #[.int .i64 0, .int .i64 0, .int .i64 0, .int .i64 0, .slice none 0 0] 25)).drew (some ⟨w10.heap.size, 0, none⟩) 4 4 [1, 0, 7, 0] from Sl.step (w := w10.alloc (.cells #[.int .i64 1, .int .i64 0, .int .i64 7, .int .i64 0] 2)) (slLit w10 _ 4 rfl (by omega)) (bdr (below1 _ _)))
    have h1_ : (w10.alloc (.cells #[.int .i64 0, .int .i64 0, .int .i64 0, .int .i64 0, .slice none 0 0] 25)).heap.size = w10.heap.size + 1 := by simp
    have h2_ : (w10.alloc (.cells #[.int .i64 1, .int .i64 0, .int .i64 7, .int .i64 0] 2)).heap.size = w10.heap.size + 1 := by simp
    have L4 := Lib.hid (show Sl ((w10.alloc (.cells #[.int .i64 0, .int .i64 0, .int .i64 0, .int .i64 0, .slice none 0 0] 25)).alloc (.cells #[.int .i64 1, .int .i64 0, .int .i64 7, .int .i64 0] 2)).drew (some ⟨w10.heap.size + 1, 0, none⟩) 4 4 [1, 0, 7, 0] by rw [← h1_]; exact slLit (w10.alloc (.cells #[.int .i64 0, .int .i64 0, .int .i64 0, .int .i64 0, .slice none 0 0] 25)) _ 4 rfl (by omega))
    have N3 : Bx ((w10.alloc (.cells #[.int .i64 1, .int .i64 0, .int .i64 7, .int .i64 0] 2)).alloc (.cells #[.int .i64 0, .int .i64 0, .int .i64 0, .int .i64 0, .slice none 0 0] 25)).drew (w10.heap.size + 1) #[.int .i64 0, .int .i64 0, .int .i64 0, .int .i64 0, .slice none 0 0] 25 := by rw [← h2_]; exact Bx.new (w10.alloc (.cells #[.int .i64 1, .int .i64 0, .int .i64 7, .int .i64 0] 2)) _ _
    have N4 : Bx ((w10.alloc (.cells #[.int .i64 0, .int .i64 0, .int .i64 0, .int .i64 0, .slice none 0 0] 25)).alloc (.cells #[.int .i64 1, .int .i64 0, .int .i64 7, .int .i64 0] 2)).drew (w10.heap.size) #[.int .i64 0, .int .i64 0, .int .i64 0, .int .i64 0, .slice none 0 0] 25 := Bx.alloc (Bx.new w10 _ _) _
    clear h1_ h2_
    go_region_held3 (fun w' => (∀ i, w'.cell? ⟨w1.heap.size, i, none⟩ = #[.int .i64 1, .int .i64 1, .int .i64 4, .int .i64 0, .slice A1 4 c1][i]?))
      (with_reducible first | exact hS _ P0 | exact hS _ P1 | exact hS _ P2 | exact hS _ P3 | exact hS _ P4 | exact hS _ R1 | exact hS _ (bal R1 _) | exact hS _ R2 | exact hS _ (bal R2 _) | exact hS _ (below_set5' R2 (Nat.le_succ _) _ _ _ _ _) | exact hS _ (below_set5' R2 (Nat.le_refl _) _ _ _ _ _) | exact hS _ (below_set5' R2 R1.size _ _ _ _ _))
      (first
        | (go_at_call 29; (with_reducible first | refine (ints_any (some ⟨w10.heap.size, 0, none⟩) 4 4 [1, 0, 7, 0] ((w10.alloc (.cells #[.int .i64 1, .int .i64 0, .int .i64 7, .int .i64 0] 2)).drew) L2.out (by omega)).mono ?_ | refine (ints_any (some ⟨w10.heap.size, 0, none⟩) 4 4 [1, 0, 7, 0] (((w10.alloc (.cells #[.int .i64 1, .int .i64 0, .int .i64 7, .int .i64 0] 2)).alloc (.cells #[.int .i64 0, .int .i64 0, .int .i64 0, .int .i64 0, .slice none 0 0] 25)).drew) L3.out (by omega)).mono ?_ | refine (ints_any (some ⟨w10.heap.size + 1, 0, none⟩) 4 4 [1, 0, 7, 0] (((w10.alloc (.cells #[.int .i64 0, .int .i64 0, .int .i64 0, .int .i64 0, .slice none 0 0] 25)).alloc (.cells #[.int .i64 1, .int .i64 0, .int .i64 7, .int .i64 0] 2)).drew) L4.out (by omega)).mono ?_); rintro e y1 ⟨⟨Ay1, ny1, cy1, rfl, hSy, hNy⟩, hb_⟩; have R1 : Below w10.heap.size w10 y1 := (by with_reducible first | exact bst P2 hb_ | exact bst P3 hb_ | exact bst P4 hb_); have ss1 := R1.size; have O1 : Below y1.heap.size y1 (y1.alloc (.cells #[.int .i64 0, .int .i64 0, .int .i64 0, .int .i64 0, .slice none 0 0] 25)) := below1 _ _; have NO1 : Bx (y1.alloc (.cells #[.int .i64 0, .int .i64 0, .int .i64 0, .int .i64 0, .slice none 0 0] 25)) (y1.heap.size) #[.int .i64 0, .int .i64 0, .int .i64 0, .int .i64 0, .slice none 0 0] 25 := Bx.new y1 _ _; have QSv := Lib.hid (Sv.out.step R1); have T1 := Lib.hid hSy; clear hSy; (try (have M3 : Bx y1 (w10.heap.size + 1) #[.int .i64 0, .int .i64 0, .int .i64 0, .int .i64 0, .slice none 0 0] 25 := (by with_reducible exact Bx.step N3 hb_))); (try (have M4 : Bx y1 (w10.heap.size) #[.int .i64 0, .int .i64 0, .int .i64 0, .int .i64 0, .slice none 0 0] 25 := (by with_reducible exact Bx.step N4 hb_))); (try (have LM3 := Bx.lt M3)); (try (have LM4 := Bx.lt M4)))
        | (go_at_call 22; (with_reducible first | refine (fpick_any _ _ _ _ _ _ _ [1, 0, 7, 0] _ _ _ _ _ _ _ [5, 3, 5, 1] (⟨1, 1, 2, 0, [5, 5]⟩, 0) y1 T1.out QSv.out hT.out).mono ?_ | refine (fpick_any _ _ _ _ _ _ _ [1, 0, 7, 0] _ _ _ _ _ _ _ [5, 3, 5, 1] (⟨1, 1, 2, 0, [5, 5]⟩, 0) _ (T1.out.step O1) (QSv.out.step O1) hT.out).mono ?_); intro e y2 hR_; obtain ⟨Ay2, ny2, cy2, rfl, hSy, hNy, hb_⟩ := RetA.flat hR_; have R2 : Below w10.heap.size w10 y2 := (by with_reducible first | exact bst R1 hb_ | exact bst (bal R1 _) hb_); have ss2 := R2.size; have O2 : Below y2.heap.size y2 (y2.alloc (.cells #[.int .i64 0, .int .i64 0, .int .i64 0, .int .i64 0, .slice none 0 0] 25)) := below1 _ _; have NO2 : Bx (y2.alloc (.cells #[.int .i64 0, .int .i64 0, .int .i64 0, .int .i64 0, .slice none 0 0] 25)) (y2.heap.size) #[.int .i64 0, .int .i64 0, .int .i64 0, .int .i64 0, .slice none 0 0] 25 := Bx.new y2 _ _; have step_ : Below y1.heap.size y1 y2 := (by with_reducible first | exact hb_ | exact bst O1 hb_); have QSv := Lib.hid (Sv.out.step R2); have T1 := Lib.hid (T1.out.step step_); (try (have M3 : Bx y2 (w10.heap.size + 1) #[.int .i64 0, .int .i64 0, .int .i64 0, .int .i64 0, .slice none 0 0] 25 := (by with_reducible exact Bx.step M3 hb_))); (try (have M4 : Bx y2 (w10.heap.size) #[.int .i64 0, .int .i64 0, .int .i64 0, .int .i64 0, .slice none 0 0] 25 := (by with_reducible exact Bx.step M4 hb_))); (try (have K1 : Bx y2 (y1.heap.size) #[.int .i64 0, .int .i64 0, .int .i64 0, .int .i64 0, .slice none 0 0] 25 := (by with_reducible exact Bx.step NO1 hb_))); (first | (have gB : ∀ i, y2.cell? ⟨(w10.heap.size + 1), i, none⟩ = _ := Bx.cell M3; have kB : ∀ i, y2.frozen? ⟨(w10.heap.size + 1), i, none⟩ = false := Bx.frozen M3) | (have gB : ∀ i, y2.cell? ⟨(w10.heap.size), i, none⟩ = _ := Bx.cell M4; have kB : ∀ i, y2.frozen? ⟨(w10.heap.size), i, none⟩ = false := Bx.frozen M4) | (have gB : ∀ i, y2.cell? ⟨(y1.heap.size), i, none⟩ = _ := Bx.cell K1; have kB : ∀ i, y2.frozen? ⟨(y1.heap.size), i, none⟩ = false := Bx.frozen K1) | skip)))
    all_goals go_wp2_with fail
    all_goals go_meet
    · exact ⟨y2.heap.size, Ay2, ny2, cy2, rfl, rfl, bal R2 _, Lib.hid (Bx.new y2 _ _), Lib.hid (hSy.step (below1 _ _)), R2.size, Lib.hid (hNy.mono ss1), Lib.hid (hSy.ne_lo (Nat.le_refl _))⟩
    · exact ⟨(y1.heap.size), Ay2, ny2, cy2, rfl, rfl, below_set5' R2 R1.size _ _ _ _ _, Lib.hid (Bx.set5 K1 _ _ _ _ _), Lib.hid (hSy.past5 _ _ _ _ _ fun b o e => by have h_ := hNy b o none e; rw [World.size_alloc] at h_; omega), R1.size, Lib.hid (hNy.mono (by rw [World.size_alloc]; omega)), Lib.hid (fun _ b o e => by have h_ := hNy b o none e; rw [World.size_alloc] at h_; omega)⟩
    · exact ⟨(w10.heap.size + 1), Ay2, ny2, cy2, rfl, rfl, below_set5' R2 (Nat.le_succ _) _ _ _ _ _, Lib.hid (Bx.set5 M3 _ _ _ _ _), Lib.hid (hSy.past5 _ _ _ _ _ fun b o e => by have h_ := hNy b o none e; have l_ := LM3; omega), (Nat.le_succ _), Lib.hid (hNy.mono ss1), Lib.hid (fun _ b o e => by have h_ := hNy b o none e; have l_ := LM3; omega)⟩
    · exact ⟨(w10.heap.size), Ay2, ny2, cy2, rfl, rfl, below_set5' R2 (Nat.le_refl _) _ _ _ _ _, Lib.hid (Bx.set5 M4 _ _ _ _ _), Lib.hid (hSy.past5 _ _ _ _ _ fun b o e => by have h_ := hNy b o none e; have l_ := LM4; omega), (Nat.le_refl _), Lib.hid (hNy.mono ss1), Lib.hid (fun _ b o e => by have h_ := hNy b o none e; have l_ := LM4; omega)⟩
  case rest =>
  obtain ⟨B11, A11, n11, c11, rfl, rfl, hst, HX_, HS_, hB11, NS14, ne_S14_X14⟩ := hcut
  obtain ⟨w11, hw11⟩ : ∃ w11, wc = w11 := ⟨_, rfl⟩
  rw [hw11] at hst HX_ HS_
  rw [hw11]
  clear hw11
  replace XV := Bx.step XV hst
  replace X2 := Bx.step X2 hst
  replace X4 := Bx.step X4 hst
  replace X6 := Bx.step X6 hst
  replace X8 := Bx.step X8 hst
  replace X10 := Bx.step X10 hst
  replace X12 := Bx.step X12 hst
  replace Sv := Lib.hid (Sv.out.step hst)
  replace S2 := Lib.hid (S2.out.step hst)
  replace S3 := Lib.hid (S3.out.step hst)
  replace S4 := Lib.hid (S4.out.step hst)
  replace S5 := Lib.hid (S5.out.step hst)
  replace S6 := Lib.hid (S6.out.step hst)
  replace S8 := Lib.hid (S8.out.step hst)
  replace S10 := Lib.hid (S10.out.step hst)
  replace S12 := Lib.hid (S12.out.step hst)
  replace b := bst b hst
  have X14 := HX_.out
  have S14 := HS_
  clear hst HX_ HS_
  clear hT
  have dXV : ∀ i, w11.cell? ⟨w1.heap.size, i, none⟩ = _ := Bx.cell XV
  have eXV : ∀ i, w11.frozen? ⟨w1.heap.size, i, none⟩ = false := Bx.frozen XV
  have qXV := Bx.lt XV
  have dX2 : ∀ i, w11.cell? ⟨w2.heap.size, i, none⟩ = _ := Bx.cell X2
  have eX2 : ∀ i, w11.frozen? ⟨w2.heap.size, i, none⟩ = false := Bx.frozen X2
  have qX2 := Bx.lt X2
  have dX4 : ∀ i, w11.cell? ⟨w4.heap.size, i, none⟩ = _ := Bx.cell X4
  have eX4 : ∀ i, w11.frozen? ⟨w4.heap.size, i, none⟩ = false := Bx.frozen X4
  have qX4 := Bx.lt X4
  have dX6 : ∀ i, w11.cell? ⟨w6.heap.size, i, none⟩ = _ := Bx.cell X6
  have eX6 : ∀ i, w11.frozen? ⟨w6.heap.size, i, none⟩ = false := Bx.frozen X6
  have qX6 := Bx.lt X6
  have dX8 : ∀ i, w11.cell? ⟨B8, i, none⟩ = _ := Bx.cell X8
  have eX8 : ∀ i, w11.frozen? ⟨B8, i, none⟩ = false := Bx.frozen X8
  have qX8 := Bx.lt X8
  have dX10 : ∀ i, w11.cell? ⟨B9, i, none⟩ = _ := Bx.cell X10
  have eX10 : ∀ i, w11.frozen? ⟨B9, i, none⟩ = false := Bx.frozen X10
  have qX10 := Bx.lt X10
  have dX12 : ∀ i, w11.cell? ⟨B10, i, none⟩ = _ := Bx.cell X12
  have eX12 : ∀ i, w11.frozen? ⟨B10, i, none⟩ = false := Bx.frozen X12
  have qX12 := Bx.lt X12
  have dX14 : ∀ i, w11.cell? ⟨B11, i, none⟩ = _ := Bx.cell X14
  have eX14 : ∀ i, w11.frozen? ⟨B11, i, none⟩ = false := Bx.frozen X14
  have qX14 := Bx.lt X14
  go_wp2_with fail
  clear dXV eXV qXV dX2 eX2 qX2 dX4 eX4 qX4 dX6 eX6 qX6 dX8 eX8 qX8 dX10 eX10 qX10 dX12 eX12 qX12 dX14 eX14 qX14
  have dXV : ∀ i, w11.cell? ⟨w1.heap.size, i, none⟩ = _ := Bx.cell XV
  have eXV : ∀ i, w11.frozen? ⟨w1.heap.size, i, none⟩ = false := Bx.frozen XV
  have qXV := Bx.lt XV
  have dX2 : ∀ i, w11.cell? ⟨w2.heap.size, i, none⟩ = _ := Bx.cell X2
  have eX2 : ∀ i, w11.frozen? ⟨w2.heap.size, i, none⟩ = false := Bx.frozen X2
  have qX2 := Bx.lt X2
  have dX4 : ∀ i, w11.cell? ⟨w4.heap.size, i, none⟩ = _ := Bx.cell X4
  have eX4 : ∀ i, w11.frozen? ⟨w4.heap.size, i, none⟩ = false := Bx.frozen X4
  have qX4 := Bx.lt X4
  have dX6 : ∀ i, w11.cell? ⟨w6.heap.size, i, none⟩ = _ := Bx.cell X6
  have eX6 : ∀ i, w11.frozen? ⟨w6.heap.size, i, none⟩ = false := Bx.frozen X6
  have qX6 := Bx.lt X6
  have dX8 : ∀ i, w11.cell? ⟨B8, i, none⟩ = _ := Bx.cell X8
  have eX8 : ∀ i, w11.frozen? ⟨B8, i, none⟩ = false := Bx.frozen X8
  have qX8 := Bx.lt X8
  have dX10 : ∀ i, w11.cell? ⟨B9, i, none⟩ = _ := Bx.cell X10
  have eX10 : ∀ i, w11.frozen? ⟨B9, i, none⟩ = false := Bx.frozen X10
  have qX10 := Bx.lt X10
  have dX12 : ∀ i, w11.cell? ⟨B10, i, none⟩ = _ := Bx.cell X12
  have eX12 : ∀ i, w11.frozen? ⟨B10, i, none⟩ = false := Bx.frozen X12
  have qX12 := Bx.lt X12
  have dX14 : ∀ i, w11.cell? ⟨B11, i, none⟩ = _ := Bx.cell X14
  have eX14 : ∀ i, w11.frozen? ⟨B11, i, none⟩ = false := Bx.frozen X14
  have qX14 := Bx.lt X14
  go_wp2_with fail
  refine (fgrade_any _ _ _ _ _ _ _ [5, 3, 5, 1] (⟨1, 1, 4, 0, [3, 1, 0, 2]⟩, 0) _ Sv.out rfl).mono ?_
  intro e w12 hR
  obtain ⟨A12, n12, c12, rfl, hS12, hN12, hst⟩ := RetA.flat hR
  clear hR
  clear dXV eXV qXV dX2 eX2 qX2 dX4 eX4 qX4 dX6 eX6 qX6 dX8 eX8 qX8 dX10 eX10 qX10 dX12 eX12 qX12 dX14 eX14 qX14
  replace XV := Bx.step XV hst
  replace X2 := Bx.step X2 hst
  replace X4 := Bx.step X4 hst
  replace X6 := Bx.step X6 hst
  replace X8 := Bx.step X8 hst
  replace X10 := Bx.step X10 hst
  replace X12 := Bx.step X12 hst
  replace X14 := Bx.step X14 hst
  replace Sv := Lib.hid (Sv.out.step hst)
  replace S2 := Lib.hid (S2.out.step hst)
  replace S3 := Lib.hid (S3.out.step hst)
  replace S4 := Lib.hid (S4.out.step hst)
  replace S5 := Lib.hid (S5.out.step hst)
  replace S6 := Lib.hid (S6.out.step hst)
  replace S8 := Lib.hid (S8.out.step hst)
  replace S10 := Lib.hid (S10.out.step hst)
  replace S12 := Lib.hid (S12.out.step hst)
  replace S14 := Lib.hid (S14.out.step hst)
  replace b : Below w.heap.size w w12 := bst b hst
  clear hst
  have S16 := Lib.hid hS12
  have NS16 := Lib.hid hN12
  clear hS12 hN12
  have dXV : ∀ i, w12.cell? ⟨w1.heap.size, i, none⟩ = _ := Bx.cell XV
  have eXV : ∀ i, w12.frozen? ⟨w1.heap.size, i, none⟩ = false := Bx.frozen XV
  have qXV := Bx.lt XV
  have dX2 : ∀ i, w12.cell? ⟨w2.heap.size, i, none⟩ = _ := Bx.cell X2
  have eX2 : ∀ i, w12.frozen? ⟨w2.heap.size, i, none⟩ = false := Bx.frozen X2
  have qX2 := Bx.lt X2
  have dX4 : ∀ i, w12.cell? ⟨w4.heap.size, i, none⟩ = _ := Bx.cell X4
  have eX4 : ∀ i, w12.frozen? ⟨w4.heap.size, i, none⟩ = false := Bx.frozen X4
  have qX4 := Bx.lt X4
  have dX6 : ∀ i, w12.cell? ⟨w6.heap.size, i, none⟩ = _ := Bx.cell X6
  have eX6 : ∀ i, w12.frozen? ⟨w6.heap.size, i, none⟩ = false := Bx.frozen X6
  have qX6 := Bx.lt X6
  have dX8 : ∀ i, w12.cell? ⟨B8, i, none⟩ = _ := Bx.cell X8
  have eX8 : ∀ i, w12.frozen? ⟨B8, i, none⟩ = false := Bx.frozen X8
  have qX8 := Bx.lt X8
  have dX10 : ∀ i, w12.cell? ⟨B9, i, none⟩ = _ := Bx.cell X10
  have eX10 : ∀ i, w12.frozen? ⟨B9, i, none⟩ = false := Bx.frozen X10
  have qX10 := Bx.lt X10
  have dX12 : ∀ i, w12.cell? ⟨B10, i, none⟩ = _ := Bx.cell X12
  have eX12 : ∀ i, w12.frozen? ⟨B10, i, none⟩ = false := Bx.frozen X12
  have qX12 := Bx.lt X12
  have dX14 : ∀ i, w12.cell? ⟨B11, i, none⟩ = _ := Bx.cell X14
  have eX14 : ∀ i, w12.frozen? ⟨B11, i, none⟩ = false := Bx.frozen X14
  have qX14 := Bx.lt X14
  go_wp2_with fail
  have X16 := Bx.new w12 #[.int .i64 1, .int .i64 1, .int .i64 4, .int .i64 0, .slice A12 n12 c12] 25
  have hst := below1 w12 (.cells #[.int .i64 1, .int .i64 1, .int .i64 4, .int .i64 0, .slice A12 n12 c12] 25)
  obtain ⟨w13, hw_⟩ : ∃ w13, w12.alloc (.cells #[.int .i64 1, .int .i64 1, .int .i64 4, .int .i64 0, .slice A12 n12 c12] 25) = w13 := ⟨_, rfl⟩
  rw [hw_] at X16 hst
  rw [hw_]
  clear hw_
  clear dXV eXV qXV dX2 eX2 qX2 dX4 eX4 qX4 dX6 eX6 qX6 dX8 eX8 qX8 dX10 eX10 qX10 dX12 eX12 qX12 dX14 eX14 qX14
  replace XV := Bx.step XV hst
  replace X2 := Bx.step X2 hst
  replace X4 := Bx.step X4 hst
  replace X6 := Bx.step X6 hst
  replace X8 := Bx.step X8 hst
  replace X10 := Bx.step X10 hst
  replace X12 := Bx.step X12 hst
  replace X14 := Bx.step X14 hst
  replace Sv := Lib.hid (Sv.out.step hst)
  replace S2 := Lib.hid (S2.out.step hst)
  replace S3 := Lib.hid (S3.out.step hst)
  replace S4 := Lib.hid (S4.out.step hst)
  replace S5 := Lib.hid (S5.out.step hst)
  replace S6 := Lib.hid (S6.out.step hst)
  replace S8 := Lib.hid (S8.out.step hst)
  replace S10 := Lib.hid (S10.out.step hst)
  replace S12 := Lib.hid (S12.out.step hst)
  replace S14 := Lib.hid (S14.out.step hst)
  replace S16 := Lib.hid (S16.out.step hst)
  replace b := bst b hst
  clear hst
  have hS : ∀ u, Below w13.heap.size w13 u → (∀ i, u.cell? ⟨w2.heap.size, i, none⟩ = #[.int .i64 1, .int .i64 1, .int .i64 1, .int .i64 0, .slice A2 n2 c2][i]?) ∧ (∀ i, u.cell? ⟨w4.heap.size, i, none⟩ = #[.int .i64 1, .int .i64 1, .int .i64 3, .int .i64 0, .slice A4 n4 c4][i]?) ∧ (∀ i, u.cell? ⟨B8, i, none⟩ = #[.int .i64 1, .int .i64 1, .int .i64 2, .int .i64 0, .slice A8 n8 c8][i]?) ∧ (∀ i, u.cell? ⟨B10, i, none⟩ = #[.int .i64 1, .int .i64 1, .int .i64 4, .int .i64 0, .slice A10 n10 c10][i]?) ∧ (∀ i, u.cell? ⟨B11, i, none⟩ = #[.int .i64 1, .int .i64 1, .int .i64 2, .int .i64 0, .slice A11 n11 c11][i]?) ∧ (∀ i, u.cell? ⟨w12.heap.size, i, none⟩ = #[.int .i64 1, .int .i64 1, .int .i64 4, .int .i64 0, .slice A12 n12 c12][i]?) := fun u h => ⟨Bx.cell (Bx.step X2 h), Bx.cell (Bx.step X4 h), Bx.cell (Bx.step X8 h), Bx.cell (Bx.step X12 h), Bx.cell (Bx.step X14 h), Bx.cell (Bx.step X16 h)⟩
  have P0 : Below w13.heap.size w13 w13.drew := bdr (Below.refl _ _)
  have PL0 : Below w13.heap.size w13 (w13.alloc (.cells #[.int .i64 4] 2)).drew := bdr (bal (Below.refl _ _) _)
  have SL0 := Lib.hid (show Sl (w13.alloc (.cells #[.int .i64 4] 2)).drew (some ⟨w13.heap.size, 0, none⟩) 1 1 [4] from slLit w13 _ 1 rfl (by omega))
  go_region_held3 (fun w' => (∀ i, w'.cell? ⟨w2.heap.size, i, none⟩ = #[.int .i64 1, .int .i64 1, .int .i64 1, .int .i64 0, .slice A2 n2 c2][i]?) ∧ (∀ i, w'.cell? ⟨w4.heap.size, i, none⟩ = #[.int .i64 1, .int .i64 1, .int .i64 3, .int .i64 0, .slice A4 n4 c4][i]?) ∧ (∀ i, w'.cell? ⟨B8, i, none⟩ = #[.int .i64 1, .int .i64 1, .int .i64 2, .int .i64 0, .slice A8 n8 c8][i]?) ∧ (∀ i, w'.cell? ⟨B10, i, none⟩ = #[.int .i64 1, .int .i64 1, .int .i64 4, .int .i64 0, .slice A10 n10 c10][i]?) ∧ (∀ i, w'.cell? ⟨B11, i, none⟩ = #[.int .i64 1, .int .i64 1, .int .i64 2, .int .i64 0, .slice A11 n11 c11][i]?) ∧ (∀ i, w'.cell? ⟨w12.heap.size, i, none⟩ = #[.int .i64 1, .int .i64 1, .int .i64 4, .int .i64 0, .slice A12 n12 c12][i]?))
    (with_reducible first | exact hS _ P0 | exact hS _ PL0 | exact hS _ P1 | exact hS _ P2 | exact hS _ PL2 | exact hS _ P3 | exact hS _ P4 | exact hS _ PL4 | exact hS _ P5 | exact hS _ P6 | exact hS _ PL6 | exact hS _ P7 | exact hS _ P8 | exact hS _ PL8 | exact hS _ P9 | exact hS _ P10 | exact hS _ PL10 | exact hS _ P11 | exact hS _ P12)
    (first
      | (go_at_call 29; (with_reducible refine (ints_any (some ⟨w13.heap.size, 0, none⟩) 1 1 [4] (w13.alloc (.cells #[.int .i64 4] 2)).drew SL0.out (by omega)).mono ?_); rintro e u1 ⟨⟨Am1, nm1, cm1, rfl, hSm1, hNm1⟩, hb1⟩; obtain rfl : nm1 = 1 := hSm1.len.symm; have P1 := bst PL0 hb1; have T1 := Lib.hid hSm1; have G1 := Lib.hid (S2.out.step P1); clear hSm1 hNm1)
      | (go_at_call 28; (with_reducible refine (is_true 1 1 1 0 A2 n2 c2 [4] Am1 1 cm1 u1 G1.out T1.out).mono ?_); rintro e u2 ⟨rfl, hb2⟩; have P2 := bst P1 hb2; have PL2 : Below w13.heap.size w13 (u2.alloc (.cells #[.int .i64 0, .int .i64 1, .int .i64 2] 2)) := bal P2 _; have SL2 := Lib.hid (show Sl (u2.alloc (.cells #[.int .i64 0, .int .i64 1, .int .i64 2] 2)) (some ⟨u2.heap.size, 0, none⟩) 3 3 [0, 1, 2] from slLit u2 _ 3 rfl (by omega)))
      | (go_at_call 29; (with_reducible refine (ints_any (some ⟨u2.heap.size, 0, none⟩) 3 3 [0, 1, 2] (u2.alloc (.cells #[.int .i64 0, .int .i64 1, .int .i64 2] 2)) SL2.out (by omega)).mono ?_); rintro e u3 ⟨⟨Am3, nm3, cm3, rfl, hSm3, hNm3⟩, hb3⟩; obtain rfl : nm3 = 3 := hSm3.len.symm; have P3 := bst PL2 hb3; have T3 := Lib.hid hSm3; have G3 := Lib.hid (S4.out.step P3); clear hSm3 hNm3)
      | (go_at_call 28; (with_reducible refine (is_true 1 1 3 0 A4 n4 c4 [0, 1, 2] Am3 3 cm3 u3 G3.out T3.out).mono ?_); rintro e u4 ⟨rfl, hb4⟩; have P4 := bst P3 hb4; have PL4 : Below w13.heap.size w13 (u4.alloc (.cells #[.int .i64 1, .int .i64 5] 2)) := bal P4 _; have SL4 := Lib.hid (show Sl (u4.alloc (.cells #[.int .i64 1, .int .i64 5] 2)) (some ⟨u4.heap.size, 0, none⟩) 2 2 [1, 5] from slLit u4 _ 2 rfl (by omega)))
      | (go_at_call 29; (with_reducible refine (ints_any (some ⟨u4.heap.size, 0, none⟩) 2 2 [1, 5] (u4.alloc (.cells #[.int .i64 1, .int .i64 5] 2)) SL4.out (by omega)).mono ?_); rintro e u5 ⟨⟨Am5, nm5, cm5, rfl, hSm5, hNm5⟩, hb5⟩; obtain rfl : nm5 = 2 := hSm5.len.symm; have P5 := bst PL4 hb5; have T5 := Lib.hid hSm5; have G5 := Lib.hid (S8.out.step P5); clear hSm5 hNm5)
      | (go_at_call 28; (with_reducible refine (is_true 1 1 2 0 A8 n8 c8 [1, 5] Am5 2 cm5 u5 G5.out T5.out).mono ?_); rintro e u6 ⟨rfl, hb6⟩; have P6 := bst P5 hb6; have PL6 : Below w13.heap.size w13 (u6.alloc (.cells #[.int .i64 1, .int .i64 0, .int .i64 1, .int .i64 0] 2)) := bal P6 _; have SL6 := Lib.hid (show Sl (u6.alloc (.cells #[.int .i64 1, .int .i64 0, .int .i64 1, .int .i64 0] 2)) (some ⟨u6.heap.size, 0, none⟩) 4 4 [1, 0, 1, 0] from slLit u6 _ 4 rfl (by omega)))
      | (go_at_call 29; (with_reducible refine (ints_any (some ⟨u6.heap.size, 0, none⟩) 4 4 [1, 0, 1, 0] (u6.alloc (.cells #[.int .i64 1, .int .i64 0, .int .i64 1, .int .i64 0] 2)) SL6.out (by omega)).mono ?_); rintro e u7 ⟨⟨Am7, nm7, cm7, rfl, hSm7, hNm7⟩, hb7⟩; obtain rfl : nm7 = 4 := hSm7.len.symm; have P7 := bst PL6 hb7; have T7 := Lib.hid hSm7; have G7 := Lib.hid (S12.out.step P7); clear hSm7 hNm7)
      | (go_at_call 28; (with_reducible refine (is_true 1 1 4 0 A10 n10 c10 [1, 0, 1, 0] Am7 4 cm7 u7 G7.out T7.out).mono ?_); rintro e u8 ⟨rfl, hb8⟩; have P8 := bst P7 hb8; have PL8 : Below w13.heap.size w13 (u8.alloc (.cells #[.int .i64 5, .int .i64 5] 2)) := bal P8 _; have SL8 := Lib.hid (show Sl (u8.alloc (.cells #[.int .i64 5, .int .i64 5] 2)) (some ⟨u8.heap.size, 0, none⟩) 2 2 [5, 5] from slLit u8 _ 2 rfl (by omega)))
      | (go_at_call 29; (with_reducible refine (ints_any (some ⟨u8.heap.size, 0, none⟩) 2 2 [5, 5] (u8.alloc (.cells #[.int .i64 5, .int .i64 5] 2)) SL8.out (by omega)).mono ?_); rintro e u9 ⟨⟨Am9, nm9, cm9, rfl, hSm9, hNm9⟩, hb9⟩; obtain rfl : nm9 = 2 := hSm9.len.symm; have P9 := bst PL8 hb9; have T9 := Lib.hid hSm9; have G9 := Lib.hid (S14.out.step P9); clear hSm9 hNm9)
      | (go_at_call 28; (with_reducible refine (is_true 1 1 2 0 A11 n11 c11 [5, 5] Am9 2 cm9 u9 G9.out T9.out).mono ?_); rintro e u10 ⟨rfl, hb10⟩; have P10 := bst P9 hb10; have PL10 : Below w13.heap.size w13 (u10.alloc (.cells #[.int .i64 3, .int .i64 1, .int .i64 0, .int .i64 2] 2)) := bal P10 _; have SL10 := Lib.hid (show Sl (u10.alloc (.cells #[.int .i64 3, .int .i64 1, .int .i64 0, .int .i64 2] 2)) (some ⟨u10.heap.size, 0, none⟩) 4 4 [3, 1, 0, 2] from slLit u10 _ 4 rfl (by omega)))
      | (go_at_call 29; (with_reducible refine (ints_any (some ⟨u10.heap.size, 0, none⟩) 4 4 [3, 1, 0, 2] (u10.alloc (.cells #[.int .i64 3, .int .i64 1, .int .i64 0, .int .i64 2] 2)) SL10.out (by omega)).mono ?_); rintro e u11 ⟨⟨Am11, nm11, cm11, rfl, hSm11, hNm11⟩, hb11⟩; obtain rfl : nm11 = 4 := hSm11.len.symm; have P11 := bst PL10 hb11; have T11 := Lib.hid hSm11; have G11 := Lib.hid (S16.out.step P11); clear hSm11 hNm11)
      | (go_at_call 28; (with_reducible refine (is_true 1 1 4 0 A12 n12 c12 [3, 1, 0, 2] Am11 4 cm11 u11 G11.out T11.out).mono ?_); rintro e u12 ⟨rfl, hb12⟩; have P12 := bst P11 hb12))
  all_goals go_wp2
  all_goals go_ret
  all_goals exact ⟨rfl, bst b P12⟩
end Go.Proofs.Ytfbloddffhafdaa

/-
  The law's awake: some results are as the document says.
-/
import Derived.Deep.CutRange
import Derived.Test.YtoapgknkenlcgaaLaw7
import Derived.Test.YtoapgknkenlcgaaMcate
import Derived.Test.YtoapgknkenlcgaaMflip
import Derived.Test.YtoapgknkenlcgaaMtake
import Derived.Test.YtoapgknkenlcgaaMgrid
namespace Go.Proofs.Ytoapgknkenlcgaa
open Go.RowKit

theorem slLit (w : World) (xs : List Int) (n : Nat) (hn : xs.length = n) (hm : n ≤ 1000) : Sl (w.alloc (.cells (xs.map (Value.int .i64)).toArray 2)) (some ⟨w.heap.size, 0, none⟩) n n xs :=
  Sl.of_box (Bx.new w _ _) hn (Nat.le_refl _) (by unfold maxLen; omega) (fun j hj => by
    have := map_getD (xs := xs) (j := j) (by omega)
    simpa using this)
theorem below_set5' {w0 w : World} (h : Below w0.heap.size w0 w) {B : Nat} (hB : w0.heap.size ≤ B) (v0 v1 v2 v3 v4 : Value) : Below w0.heap.size w0 (((((w.setCell ⟨B, 0, none⟩ v0).setCell ⟨B, 1, none⟩ v1).setCell ⟨B, 2, none⟩ v2).setCell ⟨B, 3, none⟩ v3).setCell ⟨B, 4, none⟩ v4) := below_set5 h hB _ _ _ _ _

set_option maxHeartbeats 16000000 in
theorem awake_any (w : World) : Calls Try.prog 12 #[] w fun e w' => e = .returned (.bool true) ∧ Below w.heap.size w w' := by
  go_enter Try.func12, Try.ntmps12
  go_wp2_with fail
  refine (ints_any _ 3 3 [1, 2, 3] _ (show Sl (w.alloc (.cells #[.int .i64 1, .int .i64 2, .int .i64 3] 2)) (some ⟨w.heap.size, 0, none⟩) 3 3 [1, 2, 3] from slLit w _ 3 rfl (by omega)) (by omega)).mono ?_
  rintro e w1 ⟨⟨A1, n1, c1, rfl, hS1, hN1⟩, hb1⟩
  obtain rfl : n1 = 3 := hS1.len.symm
  have b : Below w.heap.size w w1 := bst (below1 w _) hb1
  have S1 := Lib.hid hS1
  clear hS1 hN1 hb1
  go_wp2_with fail
  refine (rMatrix_any 1 2 3 _ 6 6 [1, 2, 3, 4, 5, 6] _ (show Sl (w1.alloc (.cells #[.int .i64 1, .int .i64 2, .int .i64 3, .int .i64 4, .int .i64 5, .int .i64 6] 2)) (some ⟨w1.heap.size, 0, none⟩) 6 6 [1, 2, 3, 4, 5, 6] from slLit w1 _ 6 rfl (by omega)) (by omega)).mono ?_
  rintro e w2 ⟨⟨A2, n2, c2, rfl, hS2, hN2⟩, hb2⟩
  obtain rfl : n2 = 6 := hS2.len.symm
  have hst := bst (bal (Below.refl _ w1) _) hb2
  replace S1 := Lib.hid (S1.out.step hst)
  replace b := bst b hst
  clear hst
  have S2 := Lib.hid hS2
  clear hS2 hN2 hb2
  go_wp2_with fail
  refine (mReverse_any _ _ _ _ _ _ _ [1, 2, 3, 4, 5, 6] (⟨1, 2, 2, 3, [3, 2, 1, 6, 5, 4]⟩, 0) _ (S2.out.step (below2 _ _ _)) rfl).mono ?_
  intro e w3 hR
  obtain ⟨A3, n3, c3, rfl, hS3, hN3, hb3⟩ := RetA.flat hR
  obtain rfl : n3 = 6 := hS3.len.symm
  obtain ⟨XV, XM, hbb⟩ := after2 hb3
  have hst := hbb
  replace S1 := Lib.hid (S1.out.step hst)
  replace S2 := Lib.hid (S2.out.step hst)
  replace b := bst b hst
  clear hst
  have S3 := Lib.hid hS3
  clear hS3 hN3 hb3 hbb
  have dXV : ∀ i, w3.cell? ⟨w2.heap.size, i, none⟩ = _ := Bx.cell XV
  have dXM : ∀ i, w3.cell? ⟨w2.heap.size + 1, i, none⟩ = _ := Bx.cell XM
  have lXM := Bx.lt XM
  go_wp2_with fail
  refine (mFlip_any _ _ _ _ _ _ _ [1, 2, 3, 4, 5, 6] (⟨1, 2, 3, 2, [1, 4, 2, 5, 3, 6]⟩, 0) _ (S2.out.step (below1 _ _)) rfl).mono ?_
  intro e w4 hR
  obtain ⟨A4, n4, c4, rfl, hS4, hN4, hb4⟩ := RetA.flat hR
  obtain rfl : n4 = 6 := hS4.len.symm
  obtain ⟨X3, hbb⟩ := after1 hb4
  clear dXV dXM
  have hst := hbb
  replace XV := Bx.step XV hst
  replace XM := Bx.step XM hst
  replace S1 := Lib.hid (S1.out.step hst)
  replace S2 := Lib.hid (S2.out.step hst)
  replace S3 := Lib.hid (S3.out.step hst)
  replace b := bst b hst
  clear hst
  have S4 := Lib.hid hS4
  clear hS4 hN4 hb4 hbb
  have dXV : ∀ i, w4.cell? ⟨w2.heap.size, i, none⟩ = _ := Bx.cell XV
  have dXM : ∀ i, w4.cell? ⟨w2.heap.size + 1, i, none⟩ = _ := Bx.cell XM
  have dX3 : ∀ i, w4.cell? ⟨w3.heap.size, i, none⟩ = _ := Bx.cell X3
  go_wp2_with fail
  have X4 := Bx.new w4 #[.int .i64 1, .int .i64 2, .int .i64 3, .int .i64 2, .slice A4 6 c4] 25
  have hst := below1 w4 (.cells #[.int .i64 1, .int .i64 2, .int .i64 3, .int .i64 2, .slice A4 6 c4] 25)
  clear dXV dXM dX3
  obtain ⟨w5, hw5⟩ : ∃ w5, w4.alloc (.cells #[.int .i64 1, .int .i64 2, .int .i64 3, .int .i64 2, .slice A4 6 c4] 25) = w5 := ⟨_, rfl⟩
  rw [hw5] at X4 hst
  rw [hw5]
  clear hw5
  have hst := hst
  replace XV := Bx.step XV hst
  replace XM := Bx.step XM hst
  replace X3 := Bx.step X3 hst
  replace S1 := Lib.hid (S1.out.step hst)
  replace S2 := Lib.hid (S2.out.step hst)
  replace S3 := Lib.hid (S3.out.step hst)
  replace S4 := Lib.hid (S4.out.step hst)
  replace b := bst b hst
  clear hst
  have hlt := Bx.lt XV
  have hT := Lib.hid (show sTake ⟨1, 0, 0, 0, [-2]⟩ ⟨1, 1, 3, 0, [1, 2, 3]⟩ = (⟨1, 1, 2, 0, [2, 3]⟩, 0) from rfl)
  have hW := Lib.hid (show ∀ x ∈ ([-2] : List Int), -9223372036854775808 ≤ x ∧ x ≤ 9223372036854775807 by simp)
  go_cut [7, 8] from 31 to 36 (fun p e wx => ∃ (B : Nat) (A : Option Addr) (c : Nat), p = .pointer (some ⟨B, 0, none⟩) ∧ e = .int .i64 0 ∧ Below w5.heap.size w5 wx ∧ Hid (Bx wx B #[.int .i64 1, .int .i64 1, .int .i64 2, .int .i64 0, .slice A 2 c] 25) ∧ Hid (Sl wx A 2 c [2, 3]))
  case first =>
    have hS : ∀ u, Below w5.heap.size w5 u → ∀ i, u.cell? ⟨w2.heap.size, i, none⟩ = #[.int .i64 1, .int .i64 1, .int .i64 3, .int .i64 0, .slice A1 3 c1][i]? := fun u h => Bx.cell (Bx.step XV h)
    have P0 : Below w5.heap.size w5 w5.drew := bdr (Below.refl _ _)
    have P1 : Below w5.heap.size w5 (w5.alloc (.cells #[.int .i64 0, .int .i64 0, .int .i64 0, .int .i64 0, .slice none 0 0] 25)).drew := bdr (bal (Below.refl _ _) _)
    have N1 : Bx (w5.alloc (.cells #[.int .i64 0, .int .i64 0, .int .i64 0, .int .i64 0, .slice none 0 0] 25)).drew w5.heap.size #[.int .i64 0, .int .i64 0, .int .i64 0, .int .i64 0, .slice none 0 0] 25 := Bx.new w5 _ _
    have ne5 : w2.heap.size ≠ w5.heap.size := by omega
    have ne4 : w2.heap.size ≠ w5.heap.size + 1 := by omega
    go_region_held3 (fun w' => ∀ i, w'.cell? ⟨w2.heap.size, i, none⟩ = #[.int .i64 1, .int .i64 1, .int .i64 3, .int .i64 0, .slice A1 3 c1][i]?)
      (with_reducible first | exact hS _ P0 | exact hS _ P1 | exact hS _ P6 | exact hS _ P7 | exact hS _ (bst P6 P8) | exact hS _ (bal (bst P6 P8) _) | exact hS _ (below_set5' (bst P6 P8) (Nat.le_refl _) _ _ _ _ _) | exact hS _ (below_set5' (bst P6 P8) (Nat.le_succ _) _ _ _ _ _) | exact hS _ (below_set5' (bst P6 P8) zz6 _ _ _ _ _))
      (first
        | (go_at_call 30; (with_reducible first | refine (int_any (-2) _).mono ?_); rintro e u6 ⟨⟨Ai, ni, ci, rfl, hS6, hN6⟩, hb6⟩; have P6 : Below w5.heap.size w5 u6 := (by with_reducible first | exact bst P0 hb6 | exact bst P1 hb6); have P7 : Below w5.heap.size w5 (u6.alloc (.cells #[.int .i64 0, .int .i64 0, .int .i64 0, .int .i64 0, .slice none 0 0] 25)) := bal P6 _; have zz6 := P6.size; have ne6 : w2.heap.size ≠ u6.heap.size := (by omega); have Q1 := Lib.hid (S1.out.step P6); have Q6 := Lib.hid hS6; clear hS6 hN6; have P9 : Below u6.heap.size u6 (u6.alloc (.cells #[.int .i64 0, .int .i64 0, .int .i64 0, .int .i64 0, .slice none 0 0] 25)) := below1 _ _; have N2 : Bx (u6.alloc (.cells #[.int .i64 0, .int .i64 0, .int .i64 0, .int .i64 0, .slice none 0 0] 25)) u6.heap.size #[.int .i64 0, .int .i64 0, .int .i64 0, .int .i64 0, .slice none 0 0] 25 := Bx.new u6 _ _; (try (have M1 : Bx u6 (w5.heap.size) #[.int .i64 0, .int .i64 0, .int .i64 0, .int .i64 0, .slice none 0 0] 25 := (by with_reducible exact Bx.step N1 hb6))))
        | (go_at_call 13; (with_reducible first | refine (mTake_any _ _ _ _ _ _ _ [-2] _ _ _ _ _ _ _ [1, 2, 3] (⟨1, 1, 2, 0, [2, 3]⟩, 0) u6 Q6.out Q1.out hW.out hT.out).mono ?_ | refine (mTake_any _ _ _ _ _ _ _ [-2] _ _ _ _ _ _ _ [1, 2, 3] (⟨1, 1, 2, 0, [2, 3]⟩, 0) _ (Q6.out.step P9) (Q1.out.step P9) hW.out hT.out).mono ?_); intro e u7 hR; obtain ⟨Ar, nr, cr, rfl, hS7, hN7, hb7⟩ := RetA.flat hR; obtain rfl : nr = 2 := hS7.len.symm; have P8 : Below u6.heap.size u6 u7 := (by with_reducible first | exact hb7 | exact bst P9 hb7); have zz7 := P8.size; (first | (have N8 : Bx u7 (w5.heap.size) #[.int .i64 0, .int .i64 0, .int .i64 0, .int .i64 0, .slice none 0 0] 25 := (by with_reducible exact Bx.step M1 hb7); have gB : ∀ i, u7.cell? ⟨w5.heap.size, i, none⟩ = _ := Bx.cell N8; have kB : ∀ i, u7.frozen? ⟨w5.heap.size, i, none⟩ = false := Bx.frozen N8) | (have N8 : Bx u7 (u6.heap.size) #[.int .i64 0, .int .i64 0, .int .i64 0, .int .i64 0, .slice none 0 0] 25 := (by with_reducible exact Bx.step N2 hb7); have gB : ∀ i, u7.cell? ⟨u6.heap.size, i, none⟩ = _ := Bx.cell N8; have kB : ∀ i, u7.frozen? ⟨u6.heap.size, i, none⟩ = false := Bx.frozen N8) | skip)))
    all_goals go_wp2_with fail
    all_goals go_meet
    · exact ⟨u7.heap.size, Ar, cr, rfl, rfl, bst P6 (bst P8 (below1 _ _)), Lib.hid (Bx.new u7 _ _), Lib.hid (hS7.step (below1 _ _))⟩
    · exact ⟨u6.heap.size, Ar, cr, rfl, rfl, below_set5' (bst P6 P8) zz6 _ _ _ _ _, Lib.hid (Bx.set5 N8 _ _ _ _ _), Lib.hid (hS7.past5 _ _ _ _ _ fun b o e => by have := hN7 b o none e; rw [World.size_alloc] at this; omega)⟩
    · exact ⟨w5.heap.size, Ar, cr, rfl, rfl, below_set5' (bst P6 P8) (Nat.le_refl _) _ _ _ _ _, Lib.hid (Bx.set5 N8 _ _ _ _ _), Lib.hid (hS7.past5 _ _ _ _ _ fun b o e => by have := hN7 b o none e; have := M1.lt; omega)⟩
  case rest =>
  obtain ⟨B6, A6, c6, rfl, rfl, hst, HX, HS⟩ := hcut
  obtain ⟨w6, hw6⟩ : ∃ w6, wc = w6 := ⟨_, rfl⟩
  rw [hw6] at hst HX HS
  rw [hw6]
  clear hlt hT hW hw6
  replace XV := Bx.step XV hst
  replace XM := Bx.step XM hst
  replace X3 := Bx.step X3 hst
  replace X4 := Bx.step X4 hst
  replace S1 := Lib.hid (S1.out.step hst)
  replace S2 := Lib.hid (S2.out.step hst)
  replace S3 := Lib.hid (S3.out.step hst)
  replace S4 := Lib.hid (S4.out.step hst)
  replace b := bst b hst
  have X6 := HX.out
  have S6 := HS
  clear hst HX HS
  go_wp2_with fail
  have hlt := Bx.lt XV
  have hT := Lib.hid (show sDrop ⟨1, 0, 0, 0, [-1]⟩ ⟨1, 1, 3, 0, [1, 2, 3]⟩ = (⟨1, 1, 2, 0, [1, 2]⟩, 0) from rfl)
  have hW := Lib.hid (show ∀ x ∈ ([-1] : List Int), -9223372036854775808 ≤ x ∧ x ≤ 9223372036854775807 by simp)
  go_cut [9, 10] from 37 to 42 (fun p e wx => ∃ (B : Nat) (A : Option Addr) (c : Nat), p = .pointer (some ⟨B, 0, none⟩) ∧ e = .int .i64 0 ∧ Below w6.heap.size w6 wx ∧ Hid (Bx wx B #[.int .i64 1, .int .i64 1, .int .i64 2, .int .i64 0, .slice A 2 c] 25) ∧ Hid (Sl wx A 2 c [1, 2]))
  case first =>
    have hS : ∀ u, Below w6.heap.size w6 u → ∀ i, u.cell? ⟨w2.heap.size, i, none⟩ = #[.int .i64 1, .int .i64 1, .int .i64 3, .int .i64 0, .slice A1 3 c1][i]? := fun u h => Bx.cell (Bx.step XV h)
    have P0 : Below w6.heap.size w6 w6.drew := bdr (Below.refl _ _)
    have P1 : Below w6.heap.size w6 (w6.alloc (.cells #[.int .i64 0, .int .i64 0, .int .i64 0, .int .i64 0, .slice none 0 0] 25)).drew := bdr (bal (Below.refl _ _) _)
    have N1 : Bx (w6.alloc (.cells #[.int .i64 0, .int .i64 0, .int .i64 0, .int .i64 0, .slice none 0 0] 25)).drew w6.heap.size #[.int .i64 0, .int .i64 0, .int .i64 0, .int .i64 0, .slice none 0 0] 25 := Bx.new w6 _ _
    have ne5 : w2.heap.size ≠ w6.heap.size := by omega
    have ne4 : w2.heap.size ≠ w6.heap.size + 1 := by omega
    go_region_held3 (fun w' => ∀ i, w'.cell? ⟨w2.heap.size, i, none⟩ = #[.int .i64 1, .int .i64 1, .int .i64 3, .int .i64 0, .slice A1 3 c1][i]?)
      (with_reducible first | exact hS _ P0 | exact hS _ P1 | exact hS _ P6 | exact hS _ P7 | exact hS _ (bst P6 P8) | exact hS _ (bal (bst P6 P8) _) | exact hS _ (below_set5' (bst P6 P8) (Nat.le_refl _) _ _ _ _ _) | exact hS _ (below_set5' (bst P6 P8) (Nat.le_succ _) _ _ _ _ _) | exact hS _ (below_set5' (bst P6 P8) zz6 _ _ _ _ _))
      (first
        | (go_at_call 30; (with_reducible first | refine (int_any (-1) _).mono ?_); rintro e u6 ⟨⟨Ai, ni, ci, rfl, hS6, hN6⟩, hb6⟩; have P6 : Below w6.heap.size w6 u6 := (by with_reducible first | exact bst P0 hb6 | exact bst P1 hb6); have P7 : Below w6.heap.size w6 (u6.alloc (.cells #[.int .i64 0, .int .i64 0, .int .i64 0, .int .i64 0, .slice none 0 0] 25)) := bal P6 _; have zz6 := P6.size; have ne6 : w2.heap.size ≠ u6.heap.size := (by omega); have Q1 := Lib.hid (S1.out.step P6); have Q6 := Lib.hid hS6; clear hS6 hN6; have P9 : Below u6.heap.size u6 (u6.alloc (.cells #[.int .i64 0, .int .i64 0, .int .i64 0, .int .i64 0, .slice none 0 0] 25)) := below1 _ _; have N2 : Bx (u6.alloc (.cells #[.int .i64 0, .int .i64 0, .int .i64 0, .int .i64 0, .slice none 0 0] 25)) u6.heap.size #[.int .i64 0, .int .i64 0, .int .i64 0, .int .i64 0, .slice none 0 0] 25 := Bx.new u6 _ _; (try (have M1 : Bx u6 (w6.heap.size) #[.int .i64 0, .int .i64 0, .int .i64 0, .int .i64 0, .slice none 0 0] 25 := (by with_reducible exact Bx.step N1 hb6))))
        | (go_at_call 15; (with_reducible first | refine (mDrop_any _ _ _ _ _ _ _ [-1] _ _ _ _ _ _ _ [1, 2, 3] (⟨1, 1, 2, 0, [1, 2]⟩, 0) u6 Q6.out Q1.out hW.out hT.out).mono ?_ | refine (mDrop_any _ _ _ _ _ _ _ [-1] _ _ _ _ _ _ _ [1, 2, 3] (⟨1, 1, 2, 0, [1, 2]⟩, 0) _ (Q6.out.step P9) (Q1.out.step P9) hW.out hT.out).mono ?_); intro e u7 hR; obtain ⟨Ar, nr, cr, rfl, hS7, hN7, hb7⟩ := RetA.flat hR; obtain rfl : nr = 2 := hS7.len.symm; have P8 : Below u6.heap.size u6 u7 := (by with_reducible first | exact hb7 | exact bst P9 hb7); have zz7 := P8.size; (first | (have N8 : Bx u7 (w6.heap.size) #[.int .i64 0, .int .i64 0, .int .i64 0, .int .i64 0, .slice none 0 0] 25 := (by with_reducible exact Bx.step M1 hb7); have gB : ∀ i, u7.cell? ⟨w6.heap.size, i, none⟩ = _ := Bx.cell N8; have kB : ∀ i, u7.frozen? ⟨w6.heap.size, i, none⟩ = false := Bx.frozen N8) | (have N8 : Bx u7 (u6.heap.size) #[.int .i64 0, .int .i64 0, .int .i64 0, .int .i64 0, .slice none 0 0] 25 := (by with_reducible exact Bx.step N2 hb7); have gB : ∀ i, u7.cell? ⟨u6.heap.size, i, none⟩ = _ := Bx.cell N8; have kB : ∀ i, u7.frozen? ⟨u6.heap.size, i, none⟩ = false := Bx.frozen N8) | skip)))
    all_goals go_wp2_with fail
    all_goals go_meet
    · exact ⟨u7.heap.size, Ar, cr, rfl, rfl, bst P6 (bst P8 (below1 _ _)), Lib.hid (Bx.new u7 _ _), Lib.hid (hS7.step (below1 _ _))⟩
    · exact ⟨u6.heap.size, Ar, cr, rfl, rfl, below_set5' (bst P6 P8) zz6 _ _ _ _ _, Lib.hid (Bx.set5 N8 _ _ _ _ _), Lib.hid (hS7.past5 _ _ _ _ _ fun b o e => by have := hN7 b o none e; rw [World.size_alloc] at this; omega)⟩
    · exact ⟨w6.heap.size, Ar, cr, rfl, rfl, below_set5' (bst P6 P8) (Nat.le_refl _) _ _ _ _ _, Lib.hid (Bx.set5 N8 _ _ _ _ _), Lib.hid (hS7.past5 _ _ _ _ _ fun b o e => by have := hN7 b o none e; have := M1.lt; omega)⟩
  case rest =>
  obtain ⟨B7, A7, c7, rfl, rfl, hst, HX, HS⟩ := hcut
  obtain ⟨w7, hw7⟩ : ∃ w7, wc = w7 := ⟨_, rfl⟩
  rw [hw7] at hst HX HS
  rw [hw7]
  clear hlt hT hW hw7
  replace XV := Bx.step XV hst
  replace XM := Bx.step XM hst
  replace X3 := Bx.step X3 hst
  replace X4 := Bx.step X4 hst
  replace X6 := Bx.step X6 hst
  replace S1 := Lib.hid (S1.out.step hst)
  replace S2 := Lib.hid (S2.out.step hst)
  replace S3 := Lib.hid (S3.out.step hst)
  replace S4 := Lib.hid (S4.out.step hst)
  replace S6 := Lib.hid (S6.out.step hst)
  replace b := bst b hst
  have X7 := HX.out
  have S7 := HS
  clear hst HX HS
  go_wp2_with fail
  have hlt := Bx.lt XV
  have hT := Lib.hid (show sGrid ⟨1, 1, 2, 0, [2, 2]⟩ ⟨1, 1, 3, 0, [1, 2, 3]⟩ = (⟨1, 2, 2, 2, [1, 2, 3, 1]⟩, 0) from rfl)
  have hW := Lib.hid (show ∀ x ∈ ([2, 2] : List Int), -9223372036854775808 ≤ x ∧ x ≤ 9223372036854775807 by simp)
  go_cut [11, 12] from 43 to 49 (fun p e wx => ∃ (B : Nat) (A : Option Addr) (c : Nat), p = .pointer (some ⟨B, 0, none⟩) ∧ e = .int .i64 0 ∧ Below w7.heap.size w7 wx ∧ Hid (Bx wx B #[.int .i64 1, .int .i64 2, .int .i64 2, .int .i64 2, .slice A 4 c] 25) ∧ Hid (Sl wx A 4 c [1, 2, 3, 1]))
  case first =>
    have hS : ∀ u, Below w7.heap.size w7 u → ∀ i, u.cell? ⟨w2.heap.size, i, none⟩ = #[.int .i64 1, .int .i64 1, .int .i64 3, .int .i64 0, .slice A1 3 c1][i]? := fun u h => Bx.cell (Bx.step XV h)
    have P0 : Below w7.heap.size w7 w7.drew := bdr (Below.refl _ _)
    have P1 : Below w7.heap.size w7 (w7.alloc (.cells #[.int .i64 0, .int .i64 0, .int .i64 0, .int .i64 0, .slice none 0 0] 25)).drew := bdr (bal (Below.refl _ _) _)
    have P2 : Below w7.heap.size w7 (w7.alloc (.cells #[.int .i64 2, .int .i64 2] 2)).drew := bdr (bal (Below.refl _ _) _)
    have P3 : Below w7.heap.size w7 ((w7.alloc (.cells #[.int .i64 2, .int .i64 2] 2)).alloc (.cells #[.int .i64 0, .int .i64 0, .int .i64 0, .int .i64 0, .slice none 0 0] 25)).drew := bdr (bal (bal (Below.refl _ _) _) _)
    have P4 : Below w7.heap.size w7 ((w7.alloc (.cells #[.int .i64 0, .int .i64 0, .int .i64 0, .int .i64 0, .slice none 0 0] 25)).alloc (.cells #[.int .i64 2, .int .i64 2] 2)).drew := bdr (bal (bal (Below.refl _ _) _) _)
    have L2 := Lib.hid (show Sl (w7.alloc (.cells #[.int .i64 2, .int .i64 2] 2)).drew (some ⟨w7.heap.size, 0, none⟩) 2 2 [2, 2] from slLit w7 _ 2 rfl (by omega))
    have L3 := Lib.hid (show Sl ((w7.alloc (.cells #[.int .i64 2, .int .i64 2] 2)).alloc (.cells #[.int .i64 0, .int .i64 0, .int .i64 0, .int .i64 0, .slice none 0 0] 25)).drew (some ⟨w7.heap.size, 0, none⟩) 2 2 [2, 2] from Sl.step (w := w7.alloc (.cells #[.int .i64 2, .int .i64 2] 2)) (slLit w7 _ 2 rfl (by omega)) (bdr (below1 _ _)))
    have e1 : (w7.alloc (.cells #[.int .i64 0, .int .i64 0, .int .i64 0, .int .i64 0, .slice none 0 0] 25)).heap.size = w7.heap.size + 1 := by simp
    have e2 : (w7.alloc (.cells #[.int .i64 2, .int .i64 2] 2)).heap.size = w7.heap.size + 1 := by simp
    have L4 := Lib.hid (show Sl ((w7.alloc (.cells #[.int .i64 0, .int .i64 0, .int .i64 0, .int .i64 0, .slice none 0 0] 25)).alloc (.cells #[.int .i64 2, .int .i64 2] 2)).drew (some ⟨w7.heap.size + 1, 0, none⟩) 2 2 [2, 2] by rw [← e1]; exact slLit (w7.alloc (.cells #[.int .i64 0, .int .i64 0, .int .i64 0, .int .i64 0, .slice none 0 0] 25)) _ 2 rfl (by omega))
    have N3 : Bx ((w7.alloc (.cells #[.int .i64 2, .int .i64 2] 2)).alloc (.cells #[.int .i64 0, .int .i64 0, .int .i64 0, .int .i64 0, .slice none 0 0] 25)).drew (w7.heap.size + 1) #[.int .i64 0, .int .i64 0, .int .i64 0, .int .i64 0, .slice none 0 0] 25 := by rw [← e2]; exact Bx.new (w7.alloc (.cells #[.int .i64 2, .int .i64 2] 2)) _ _
    have N4 : Bx ((w7.alloc (.cells #[.int .i64 0, .int .i64 0, .int .i64 0, .int .i64 0, .slice none 0 0] 25)).alloc (.cells #[.int .i64 2, .int .i64 2] 2)).drew w7.heap.size #[.int .i64 0, .int .i64 0, .int .i64 0, .int .i64 0, .slice none 0 0] 25 := Bx.alloc (Bx.new w7 _ _) _
    clear e1 e2
    have ne5 : w2.heap.size ≠ w7.heap.size := by omega
    have ne4 : w2.heap.size ≠ w7.heap.size + 1 := by omega
    go_region_held3 (fun w' => ∀ i, w'.cell? ⟨w2.heap.size, i, none⟩ = #[.int .i64 1, .int .i64 1, .int .i64 3, .int .i64 0, .slice A1 3 c1][i]?)
      (with_reducible first | exact hS _ P0 | exact hS _ P1 | exact hS _ P2 | exact hS _ P3 | exact hS _ P4 | exact hS _ P6 | exact hS _ P7 | exact hS _ (bst P6 P8) | exact hS _ (bal (bst P6 P8) _) | exact hS _ (below_set5' (bst P6 P8) (Nat.le_refl _) _ _ _ _ _) | exact hS _ (below_set5' (bst P6 P8) (Nat.le_succ _) _ _ _ _ _) | exact hS _ (below_set5' (bst P6 P8) zz6 _ _ _ _ _))
      (first
        | (go_at_call 35; (with_reducible first | refine (ints_any (some ⟨w7.heap.size, 0, none⟩) 2 2 [2, 2] (w7.alloc (.cells #[.int .i64 2, .int .i64 2] 2)).drew L2.out (by omega)).mono ?_ | refine (ints_any (some ⟨w7.heap.size, 0, none⟩) 2 2 [2, 2] ((w7.alloc (.cells #[.int .i64 2, .int .i64 2] 2)).alloc (.cells #[.int .i64 0, .int .i64 0, .int .i64 0, .int .i64 0, .slice none 0 0] 25)).drew L3.out (by omega)).mono ?_ | refine (ints_any (some ⟨w7.heap.size + 1, 0, none⟩) 2 2 [2, 2] ((w7.alloc (.cells #[.int .i64 0, .int .i64 0, .int .i64 0, .int .i64 0, .slice none 0 0] 25)).alloc (.cells #[.int .i64 2, .int .i64 2] 2)).drew L4.out (by omega)).mono ?_); rintro e u6 ⟨⟨Ai, ni, ci, rfl, hS6, hN6⟩, hb6⟩; have P6 : Below w7.heap.size w7 u6 := (by with_reducible first | exact bst P2 hb6 | exact bst P3 hb6 | exact bst P4 hb6); have P7 : Below w7.heap.size w7 (u6.alloc (.cells #[.int .i64 0, .int .i64 0, .int .i64 0, .int .i64 0, .slice none 0 0] 25)) := bal P6 _; have zz6 := P6.size; have ne6 : w2.heap.size ≠ u6.heap.size := (by omega); have Q1 := Lib.hid (S1.out.step P6); have Q6 := Lib.hid hS6; clear hS6 hN6; have P9 : Below u6.heap.size u6 (u6.alloc (.cells #[.int .i64 0, .int .i64 0, .int .i64 0, .int .i64 0, .slice none 0 0] 25)) := below1 _ _; have N2 : Bx (u6.alloc (.cells #[.int .i64 0, .int .i64 0, .int .i64 0, .int .i64 0, .slice none 0 0] 25)) u6.heap.size #[.int .i64 0, .int .i64 0, .int .i64 0, .int .i64 0, .slice none 0 0] 25 := Bx.new u6 _ _; (try (have M3 : Bx u6 (w7.heap.size + 1) #[.int .i64 0, .int .i64 0, .int .i64 0, .int .i64 0, .slice none 0 0] 25 := (by with_reducible exact Bx.step N3 hb6))); (try (have M4 : Bx u6 (w7.heap.size) #[.int .i64 0, .int .i64 0, .int .i64 0, .int .i64 0, .slice none 0 0] 25 := (by with_reducible exact Bx.step N4 hb6))))
        | (go_at_call 20; (with_reducible first | refine (mGrid_any _ _ _ _ _ _ _ [2, 2] _ _ _ _ _ _ _ [1, 2, 3] (⟨1, 2, 2, 2, [1, 2, 3, 1]⟩, 0) u6 Q6.out Q1.out hT.out).mono ?_ | refine (mGrid_any _ _ _ _ _ _ _ [2, 2] _ _ _ _ _ _ _ [1, 2, 3] (⟨1, 2, 2, 2, [1, 2, 3, 1]⟩, 0) _ (Q6.out.step P9) (Q1.out.step P9) hT.out).mono ?_); intro e u7 hR; obtain ⟨Ar, nr, cr, rfl, hS7, hN7, hb7⟩ := RetA.flat hR; obtain rfl : nr = 4 := hS7.len.symm; have P8 : Below u6.heap.size u6 u7 := (by with_reducible first | exact hb7 | exact bst P9 hb7); have zz7 := P8.size; (first | (have N8 : Bx u7 (w7.heap.size + 1) #[.int .i64 0, .int .i64 0, .int .i64 0, .int .i64 0, .slice none 0 0] 25 := (by with_reducible exact Bx.step M3 hb7); have gB : ∀ i, u7.cell? ⟨w7.heap.size + 1, i, none⟩ = _ := Bx.cell N8; have kB : ∀ i, u7.frozen? ⟨w7.heap.size + 1, i, none⟩ = false := Bx.frozen N8) | (have N8 : Bx u7 (w7.heap.size) #[.int .i64 0, .int .i64 0, .int .i64 0, .int .i64 0, .slice none 0 0] 25 := (by with_reducible exact Bx.step M4 hb7); have gB : ∀ i, u7.cell? ⟨w7.heap.size, i, none⟩ = _ := Bx.cell N8; have kB : ∀ i, u7.frozen? ⟨w7.heap.size, i, none⟩ = false := Bx.frozen N8) | (have N8 : Bx u7 (u6.heap.size) #[.int .i64 0, .int .i64 0, .int .i64 0, .int .i64 0, .slice none 0 0] 25 := (by with_reducible exact Bx.step N2 hb7); have gB : ∀ i, u7.cell? ⟨u6.heap.size, i, none⟩ = _ := Bx.cell N8; have kB : ∀ i, u7.frozen? ⟨u6.heap.size, i, none⟩ = false := Bx.frozen N8) | skip)))
    all_goals go_wp2_with fail
    all_goals go_meet
    · exact ⟨u7.heap.size, Ar, cr, rfl, rfl, bst P6 (bst P8 (below1 _ _)), Lib.hid (Bx.new u7 _ _), Lib.hid (hS7.step (below1 _ _))⟩
    · exact ⟨u6.heap.size, Ar, cr, rfl, rfl, below_set5' (bst P6 P8) zz6 _ _ _ _ _, Lib.hid (Bx.set5 N8 _ _ _ _ _), Lib.hid (hS7.past5 _ _ _ _ _ fun b o e => by have := hN7 b o none e; rw [World.size_alloc] at this; omega)⟩
    · exact ⟨w7.heap.size + 1, Ar, cr, rfl, rfl, below_set5' (bst P6 P8) (Nat.le_succ _) _ _ _ _ _, Lib.hid (Bx.set5 N8 _ _ _ _ _), Lib.hid (hS7.past5 _ _ _ _ _ fun b o e => by have := hN7 b o none e; have := M3.lt; omega)⟩
    · exact ⟨w7.heap.size, Ar, cr, rfl, rfl, below_set5' (bst P6 P8) (Nat.le_refl _) _ _ _ _ _, Lib.hid (Bx.set5 N8 _ _ _ _ _), Lib.hid (hS7.past5 _ _ _ _ _ fun b o e => by have := hN7 b o none e; have := M4.lt; omega)⟩
  case rest =>
  obtain ⟨B8, A8, c8, rfl, rfl, hst, HX, HS⟩ := hcut
  obtain ⟨w8, hw8⟩ : ∃ w8, wc = w8 := ⟨_, rfl⟩
  rw [hw8] at hst HX HS
  rw [hw8]
  clear hlt hT hW hw8
  replace XV := Bx.step XV hst
  replace XM := Bx.step XM hst
  replace X3 := Bx.step X3 hst
  replace X4 := Bx.step X4 hst
  replace X6 := Bx.step X6 hst
  replace X7 := Bx.step X7 hst
  replace S1 := Lib.hid (S1.out.step hst)
  replace S2 := Lib.hid (S2.out.step hst)
  replace S3 := Lib.hid (S3.out.step hst)
  replace S4 := Lib.hid (S4.out.step hst)
  replace S6 := Lib.hid (S6.out.step hst)
  replace S7 := Lib.hid (S7.out.step hst)
  replace b := bst b hst
  have X8 := HX.out
  have S8 := HS
  clear hst HX HS
  go_wp2_with fail
  have hlt := Bx.lt XM
  have hT := Lib.hid (show sCat ⟨1, 2, 2, 3, [1, 2, 3, 4, 5, 6]⟩ ⟨1, 2, 1, 1, [7]⟩ = (⟨0, 0, 0, 0, []⟩, 11) from rfl)
  have hW := Lib.hid (show catE ⟨1, 2, 2, 3, [1, 2, 3, 4, 5, 6]⟩ ⟨1, 2, 1, 1, [7]⟩ ≠ 0 by decide)
  go_cut [13, 14] from 50 to 56 (fun p e wx => ∃ (B : Nat) (A : Option Addr) (c : Nat), p = .pointer (some ⟨B, 0, none⟩) ∧ e = .int .i64 11 ∧ Below w8.heap.size w8 wx ∧ Hid (Bx wx B #[.int .i64 0, .int .i64 0, .int .i64 0, .int .i64 0, .slice A 0 c] 25) ∧ Hid (Sl wx A 0 c []))
  case first =>
    have hS : ∀ u, Below w8.heap.size w8 u → ∀ i, u.cell? ⟨w2.heap.size + 1, i, none⟩ = #[.int .i64 1, .int .i64 2, .int .i64 2, .int .i64 3, .slice A2 6 c2][i]? := fun u h => Bx.cell (Bx.step XM h)
    have P0 : Below w8.heap.size w8 w8.drew := bdr (Below.refl _ _)
    have P1 : Below w8.heap.size w8 (w8.alloc (.cells #[.int .i64 0, .int .i64 0, .int .i64 0, .int .i64 0, .slice none 0 0] 25)).drew := bdr (bal (Below.refl _ _) _)
    have P2 : Below w8.heap.size w8 (w8.alloc (.cells #[.int .i64 7] 2)).drew := bdr (bal (Below.refl _ _) _)
    have P3 : Below w8.heap.size w8 ((w8.alloc (.cells #[.int .i64 7] 2)).alloc (.cells #[.int .i64 0, .int .i64 0, .int .i64 0, .int .i64 0, .slice none 0 0] 25)).drew := bdr (bal (bal (Below.refl _ _) _) _)
    have P4 : Below w8.heap.size w8 ((w8.alloc (.cells #[.int .i64 0, .int .i64 0, .int .i64 0, .int .i64 0, .slice none 0 0] 25)).alloc (.cells #[.int .i64 7] 2)).drew := bdr (bal (bal (Below.refl _ _) _) _)
    have L2 := Lib.hid (show Sl (w8.alloc (.cells #[.int .i64 7] 2)).drew (some ⟨w8.heap.size, 0, none⟩) 1 1 [7] from slLit w8 _ 1 rfl (by omega))
    have L3 := Lib.hid (show Sl ((w8.alloc (.cells #[.int .i64 7] 2)).alloc (.cells #[.int .i64 0, .int .i64 0, .int .i64 0, .int .i64 0, .slice none 0 0] 25)).drew (some ⟨w8.heap.size, 0, none⟩) 1 1 [7] from Sl.step (w := w8.alloc (.cells #[.int .i64 7] 2)) (slLit w8 _ 1 rfl (by omega)) (bdr (below1 _ _)))
    have e1 : (w8.alloc (.cells #[.int .i64 0, .int .i64 0, .int .i64 0, .int .i64 0, .slice none 0 0] 25)).heap.size = w8.heap.size + 1 := by simp
    have e2 : (w8.alloc (.cells #[.int .i64 7] 2)).heap.size = w8.heap.size + 1 := by simp
    have L4 := Lib.hid (show Sl ((w8.alloc (.cells #[.int .i64 0, .int .i64 0, .int .i64 0, .int .i64 0, .slice none 0 0] 25)).alloc (.cells #[.int .i64 7] 2)).drew (some ⟨w8.heap.size + 1, 0, none⟩) 1 1 [7] by rw [← e1]; exact slLit (w8.alloc (.cells #[.int .i64 0, .int .i64 0, .int .i64 0, .int .i64 0, .slice none 0 0] 25)) _ 1 rfl (by omega))
    have N3 : Bx ((w8.alloc (.cells #[.int .i64 7] 2)).alloc (.cells #[.int .i64 0, .int .i64 0, .int .i64 0, .int .i64 0, .slice none 0 0] 25)).drew (w8.heap.size + 1) #[.int .i64 0, .int .i64 0, .int .i64 0, .int .i64 0, .slice none 0 0] 25 := by rw [← e2]; exact Bx.new (w8.alloc (.cells #[.int .i64 7] 2)) _ _
    have N4 : Bx ((w8.alloc (.cells #[.int .i64 0, .int .i64 0, .int .i64 0, .int .i64 0, .slice none 0 0] 25)).alloc (.cells #[.int .i64 7] 2)).drew w8.heap.size #[.int .i64 0, .int .i64 0, .int .i64 0, .int .i64 0, .slice none 0 0] 25 := Bx.alloc (Bx.new w8 _ _) _
    clear e1 e2
    have ne5 : w2.heap.size + 1 ≠ w8.heap.size := by omega
    have ne4 : w2.heap.size + 1 ≠ w8.heap.size + 1 := by omega
    go_region_held3 (fun w' => ∀ i, w'.cell? ⟨w2.heap.size + 1, i, none⟩ = #[.int .i64 1, .int .i64 2, .int .i64 2, .int .i64 3, .slice A2 6 c2][i]?)
      (with_reducible first | exact hS _ P0 | exact hS _ P1 | exact hS _ P2 | exact hS _ P3 | exact hS _ P4 | exact hS _ P6 | exact hS _ P7 | exact hS _ (bst P6 P8) | exact hS _ (bal (bst P6 P8) _) | exact hS _ (below_set5' (bst P6 P8) (Nat.le_refl _) _ _ _ _ _) | exact hS _ (below_set5' (bst P6 P8) (Nat.le_succ _) _ _ _ _ _) | exact hS _ (below_set5' (bst P6 P8) zz6 _ _ _ _ _))
      (first
        | (go_at_call 38; (with_reducible first | refine (rMatrix_any 1 1 1 (some ⟨w8.heap.size, 0, none⟩) 1 1 [7] (w8.alloc (.cells #[.int .i64 7] 2)).drew L2.out (by omega)).mono ?_ | refine (rMatrix_any 1 1 1 (some ⟨w8.heap.size, 0, none⟩) 1 1 [7] ((w8.alloc (.cells #[.int .i64 7] 2)).alloc (.cells #[.int .i64 0, .int .i64 0, .int .i64 0, .int .i64 0, .slice none 0 0] 25)).drew L3.out (by omega)).mono ?_ | refine (rMatrix_any 1 1 1 (some ⟨w8.heap.size + 1, 0, none⟩) 1 1 [7] ((w8.alloc (.cells #[.int .i64 0, .int .i64 0, .int .i64 0, .int .i64 0, .slice none 0 0] 25)).alloc (.cells #[.int .i64 7] 2)).drew L4.out (by omega)).mono ?_); rintro e u6 ⟨⟨Ai, ni, ci, rfl, hS6, hN6⟩, hb6⟩; have P6 : Below w8.heap.size w8 u6 := (by with_reducible first | exact bst P2 hb6 | exact bst P3 hb6 | exact bst P4 hb6); have P7 : Below w8.heap.size w8 (u6.alloc (.cells #[.int .i64 0, .int .i64 0, .int .i64 0, .int .i64 0, .slice none 0 0] 25)) := bal P6 _; have zz6 := P6.size; have ne6 : w2.heap.size + 1 ≠ u6.heap.size := (by omega); have Q1 := Lib.hid (S2.out.step P6); have Q6 := Lib.hid hS6; clear hS6 hN6; have P9 : Below u6.heap.size u6 (u6.alloc (.cells #[.int .i64 0, .int .i64 0, .int .i64 0, .int .i64 0, .slice none 0 0] 25)) := below1 _ _; have N2 : Bx (u6.alloc (.cells #[.int .i64 0, .int .i64 0, .int .i64 0, .int .i64 0, .slice none 0 0] 25)) u6.heap.size #[.int .i64 0, .int .i64 0, .int .i64 0, .int .i64 0, .slice none 0 0] 25 := Bx.new u6 _ _; (try (have M3 : Bx u6 (w8.heap.size + 1) #[.int .i64 0, .int .i64 0, .int .i64 0, .int .i64 0, .slice none 0 0] 25 := (by with_reducible exact Bx.step N3 hb6))); (try (have M4 : Bx u6 (w8.heap.size) #[.int .i64 0, .int .i64 0, .int .i64 0, .int .i64 0, .slice none 0 0] 25 := (by with_reducible exact Bx.step N4 hb6))))
        | (go_at_call 22; (with_reducible first | refine (mCat_err _ _ _ _ _ _ _ [1, 2, 3, 4, 5, 6] _ _ _ _ _ _ _ [7] (⟨0, 0, 0, 0, []⟩, 11) u6 Q1.out Q6.out hT.out hW.out).mono ?_ | refine (mCat_err _ _ _ _ _ _ _ [1, 2, 3, 4, 5, 6] _ _ _ _ _ _ _ [7] (⟨0, 0, 0, 0, []⟩, 11) _ (Q1.out.step P9) (Q6.out.step P9) hT.out hW.out).mono ?_); intro e u7 hR; obtain ⟨Ar, nr, cr, rfl, hS7, hN7, hb7⟩ := RetA.flat hR; obtain rfl : nr = 0 := hS7.len.symm; have P8 : Below u6.heap.size u6 u7 := (by with_reducible first | exact hb7 | exact bst P9 hb7); have zz7 := P8.size; (first | (have N8 : Bx u7 (w8.heap.size + 1) #[.int .i64 0, .int .i64 0, .int .i64 0, .int .i64 0, .slice none 0 0] 25 := (by with_reducible exact Bx.step M3 hb7); have gB : ∀ i, u7.cell? ⟨w8.heap.size + 1, i, none⟩ = _ := Bx.cell N8; have kB : ∀ i, u7.frozen? ⟨w8.heap.size + 1, i, none⟩ = false := Bx.frozen N8) | (have N8 : Bx u7 (w8.heap.size) #[.int .i64 0, .int .i64 0, .int .i64 0, .int .i64 0, .slice none 0 0] 25 := (by with_reducible exact Bx.step M4 hb7); have gB : ∀ i, u7.cell? ⟨w8.heap.size, i, none⟩ = _ := Bx.cell N8; have kB : ∀ i, u7.frozen? ⟨w8.heap.size, i, none⟩ = false := Bx.frozen N8) | (have N8 : Bx u7 (u6.heap.size) #[.int .i64 0, .int .i64 0, .int .i64 0, .int .i64 0, .slice none 0 0] 25 := (by with_reducible exact Bx.step N2 hb7); have gB : ∀ i, u7.cell? ⟨u6.heap.size, i, none⟩ = _ := Bx.cell N8; have kB : ∀ i, u7.frozen? ⟨u6.heap.size, i, none⟩ = false := Bx.frozen N8) | skip)))
    all_goals go_wp2_with fail
    all_goals go_meet
    · exact ⟨u7.heap.size, Ar, cr, rfl, rfl, bst P6 (bst P8 (below1 _ _)), Lib.hid (Bx.new u7 _ _), Lib.hid (hS7.step (below1 _ _))⟩
    · exact ⟨u6.heap.size, Ar, cr, rfl, rfl, below_set5' (bst P6 P8) zz6 _ _ _ _ _, Lib.hid (Bx.set5 N8 _ _ _ _ _), Lib.hid (hS7.past5 _ _ _ _ _ fun b o e => by have := hN7 b o none e; rw [World.size_alloc] at this; omega)⟩
    · exact ⟨w8.heap.size + 1, Ar, cr, rfl, rfl, below_set5' (bst P6 P8) (Nat.le_succ _) _ _ _ _ _, Lib.hid (Bx.set5 N8 _ _ _ _ _), Lib.hid (hS7.past5 _ _ _ _ _ fun b o e => by have := hN7 b o none e; have := M3.lt; omega)⟩
    · exact ⟨w8.heap.size, Ar, cr, rfl, rfl, below_set5' (bst P6 P8) (Nat.le_refl _) _ _ _ _ _, Lib.hid (Bx.set5 N8 _ _ _ _ _), Lib.hid (hS7.past5 _ _ _ _ _ fun b o e => by have := hN7 b o none e; have := M4.lt; omega)⟩
  case rest =>
  obtain ⟨B9, A9, c9, rfl, rfl, hst, HX, HS⟩ := hcut
  obtain ⟨w9, hw9⟩ : ∃ w9, wc = w9 := ⟨_, rfl⟩
  rw [hw9] at hst HX HS
  rw [hw9]
  clear hlt hT hW hw9
  replace XV := Bx.step XV hst
  replace XM := Bx.step XM hst
  replace X3 := Bx.step X3 hst
  replace X4 := Bx.step X4 hst
  replace X6 := Bx.step X6 hst
  replace X7 := Bx.step X7 hst
  replace X8 := Bx.step X8 hst
  replace S1 := Lib.hid (S1.out.step hst)
  replace S2 := Lib.hid (S2.out.step hst)
  replace S3 := Lib.hid (S3.out.step hst)
  replace S4 := Lib.hid (S4.out.step hst)
  replace S6 := Lib.hid (S6.out.step hst)
  replace S7 := Lib.hid (S7.out.step hst)
  replace S8 := Lib.hid (S8.out.step hst)
  replace b := bst b hst
  have X9 := HX.out
  have S9 := HS
  clear hst HX HS
  go_wp2_with fail
  refine (int_any (-1) _).mono ?_
  rintro e w10 ⟨⟨A10, n10, c10, rfl, hS10, hN10⟩, hb10⟩
  obtain rfl : n10 = 1 := hS10.len.symm
  have hst := hb10
  replace XV := Bx.step XV hst
  replace XM := Bx.step XM hst
  replace X3 := Bx.step X3 hst
  replace X4 := Bx.step X4 hst
  replace X6 := Bx.step X6 hst
  replace X7 := Bx.step X7 hst
  replace X8 := Bx.step X8 hst
  replace X9 := Bx.step X9 hst
  replace S1 := Lib.hid (S1.out.step hst)
  replace S2 := Lib.hid (S2.out.step hst)
  replace S3 := Lib.hid (S3.out.step hst)
  replace S4 := Lib.hid (S4.out.step hst)
  replace S6 := Lib.hid (S6.out.step hst)
  replace S7 := Lib.hid (S7.out.step hst)
  replace S8 := Lib.hid (S8.out.step hst)
  replace S9 := Lib.hid (S9.out.step hst)
  replace b := bst b hst
  clear hst
  have S10 := Lib.hid hS10
  clear hS10 hN10 hb10
  go_wp2_with fail
  refine (int_any 0 _).mono ?_
  rintro e w11 ⟨⟨A11, n11, c11, rfl, hS11, hN11⟩, hb11⟩
  obtain rfl : n11 = 1 := hS11.len.symm
  have hst := hb11
  replace XV := Bx.step XV hst
  replace XM := Bx.step XM hst
  replace X3 := Bx.step X3 hst
  replace X4 := Bx.step X4 hst
  replace X6 := Bx.step X6 hst
  replace X7 := Bx.step X7 hst
  replace X8 := Bx.step X8 hst
  replace X9 := Bx.step X9 hst
  replace S1 := Lib.hid (S1.out.step hst)
  replace S2 := Lib.hid (S2.out.step hst)
  replace S3 := Lib.hid (S3.out.step hst)
  replace S4 := Lib.hid (S4.out.step hst)
  replace S6 := Lib.hid (S6.out.step hst)
  replace S7 := Lib.hid (S7.out.step hst)
  replace S8 := Lib.hid (S8.out.step hst)
  replace S9 := Lib.hid (S9.out.step hst)
  replace S10 := Lib.hid (S10.out.step hst)
  replace b := bst b hst
  clear hst
  have S11 := Lib.hid hS11
  clear hS11 hN11 hb11
  go_wp2_with fail
  refine (mFill_any _ _ _ _ _ _ _ [-1] _ _ _ _ _ _ _ [0] (⟨0, 0, 0, 0, []⟩, 13) _ S10.out S11.out (by simp) rfl).mono ?_
  intro e w12 hR
  obtain ⟨A12, n12, c12, rfl, hS12, hN12, hb12⟩ := RetA.flat hR
  obtain rfl : n12 = 0 := hS12.len.symm
  have hst := hb12
  replace XV := Bx.step XV hst
  replace XM := Bx.step XM hst
  replace X3 := Bx.step X3 hst
  replace X4 := Bx.step X4 hst
  replace X6 := Bx.step X6 hst
  replace X7 := Bx.step X7 hst
  replace X8 := Bx.step X8 hst
  replace X9 := Bx.step X9 hst
  replace S1 := Lib.hid (S1.out.step hst)
  replace S2 := Lib.hid (S2.out.step hst)
  replace S3 := Lib.hid (S3.out.step hst)
  replace S4 := Lib.hid (S4.out.step hst)
  replace S6 := Lib.hid (S6.out.step hst)
  replace S7 := Lib.hid (S7.out.step hst)
  replace S8 := Lib.hid (S8.out.step hst)
  replace S9 := Lib.hid (S9.out.step hst)
  replace S10 := Lib.hid (S10.out.step hst)
  replace S11 := Lib.hid (S11.out.step hst)
  replace b := bst b hst
  clear hst
  clear hS12 hN12 hb12 S10 S11 S1 S2 XV XM
  go_wp2_with fail
  have X12 := Bx.new w12 #[.int .i64 0, .int .i64 0, .int .i64 0, .int .i64 0, .slice A12 0 c12] 25
  have hst := below1 w12 (.cells #[.int .i64 0, .int .i64 0, .int .i64 0, .int .i64 0, .slice A12 0 c12] 25)
  obtain ⟨w13, hw13⟩ : ∃ w13, w12.alloc (.cells #[.int .i64 0, .int .i64 0, .int .i64 0, .int .i64 0, .slice A12 0 c12] 25) = w13 := ⟨_, rfl⟩
  rw [hw13] at X12 hst
  rw [hw13]
  clear hw13
  have hst := hst
  replace X3 := Bx.step X3 hst
  replace X4 := Bx.step X4 hst
  replace X6 := Bx.step X6 hst
  replace X7 := Bx.step X7 hst
  replace X8 := Bx.step X8 hst
  replace X9 := Bx.step X9 hst
  replace S3 := Lib.hid (S3.out.step hst)
  replace S4 := Lib.hid (S4.out.step hst)
  replace S6 := Lib.hid (S6.out.step hst)
  replace S7 := Lib.hid (S7.out.step hst)
  replace S8 := Lib.hid (S8.out.step hst)
  replace S9 := Lib.hid (S9.out.step hst)
  replace b := bst b hst
  clear hst
  have hS : ∀ u, Below w13.heap.size w13 u → (∀ i, u.cell? ⟨w3.heap.size, i, none⟩ = #[.int .i64 1, .int .i64 2, .int .i64 2, .int .i64 3, .slice A3 6 c3][i]?) ∧ (∀ i, u.cell? ⟨w4.heap.size, i, none⟩ = #[.int .i64 1, .int .i64 2, .int .i64 3, .int .i64 2, .slice A4 6 c4][i]?) ∧ (∀ i, u.cell? ⟨B6, i, none⟩ = #[.int .i64 1, .int .i64 1, .int .i64 2, .int .i64 0, .slice A6 2 c6][i]?) ∧ (∀ i, u.cell? ⟨B7, i, none⟩ = #[.int .i64 1, .int .i64 1, .int .i64 2, .int .i64 0, .slice A7 2 c7][i]?) ∧ (∀ i, u.cell? ⟨B8, i, none⟩ = #[.int .i64 1, .int .i64 2, .int .i64 2, .int .i64 2, .slice A8 4 c8][i]?) ∧ (∀ i, u.cell? ⟨B9, i, none⟩ = #[.int .i64 0, .int .i64 0, .int .i64 0, .int .i64 0, .slice A9 0 c9][i]?) ∧ (∀ i, u.cell? ⟨w12.heap.size, i, none⟩ = #[.int .i64 0, .int .i64 0, .int .i64 0, .int .i64 0, .slice A12 0 c12][i]?) := fun u h => ⟨Bx.cell (Bx.step X3 h), Bx.cell (Bx.step X4 h), Bx.cell (Bx.step X6 h), Bx.cell (Bx.step X7 h), Bx.cell (Bx.step X8 h), Bx.cell (Bx.step X9 h), Bx.cell (Bx.step X12 h)⟩
  have P0 : Below w13.heap.size w13 w13.drew := bdr (Below.refl _ _)
  have PL0 : Below w13.heap.size w13 (w13.alloc (.cells #[.int .i64 3, .int .i64 2, .int .i64 1, .int .i64 6, .int .i64 5, .int .i64 4] 2)).drew := bdr (bal (Below.refl _ _) _)
  have SL0 := Lib.hid (show Sl (w13.alloc (.cells #[.int .i64 3, .int .i64 2, .int .i64 1, .int .i64 6, .int .i64 5, .int .i64 4] 2)).drew (some ⟨w13.heap.size, 0, none⟩) 6 6 [3, 2, 1, 6, 5, 4] from slLit w13 _ 6 rfl (by omega))
  go_region_held3 (fun w' => (∀ i, w'.cell? ⟨w3.heap.size, i, none⟩ = #[.int .i64 1, .int .i64 2, .int .i64 2, .int .i64 3, .slice A3 6 c3][i]?) ∧ (∀ i, w'.cell? ⟨w4.heap.size, i, none⟩ = #[.int .i64 1, .int .i64 2, .int .i64 3, .int .i64 2, .slice A4 6 c4][i]?) ∧ (∀ i, w'.cell? ⟨B6, i, none⟩ = #[.int .i64 1, .int .i64 1, .int .i64 2, .int .i64 0, .slice A6 2 c6][i]?) ∧ (∀ i, w'.cell? ⟨B7, i, none⟩ = #[.int .i64 1, .int .i64 1, .int .i64 2, .int .i64 0, .slice A7 2 c7][i]?) ∧ (∀ i, w'.cell? ⟨B8, i, none⟩ = #[.int .i64 1, .int .i64 2, .int .i64 2, .int .i64 2, .slice A8 4 c8][i]?) ∧ (∀ i, w'.cell? ⟨B9, i, none⟩ = #[.int .i64 0, .int .i64 0, .int .i64 0, .int .i64 0, .slice A9 0 c9][i]?) ∧ (∀ i, w'.cell? ⟨w12.heap.size, i, none⟩ = #[.int .i64 0, .int .i64 0, .int .i64 0, .int .i64 0, .slice A12 0 c12][i]?))
    (with_reducible first | exact hS _ P0 | exact hS _ PL0 | exact hS _ P1 | exact hS _ P2 | exact hS _ PL2 | exact hS _ P3 | exact hS _ P4 | exact hS _ PL4 | exact hS _ P5 | exact hS _ P6 | exact hS _ PL6 | exact hS _ P7 | exact hS _ P8 | exact hS _ PL8 | exact hS _ P9 | exact hS _ P10 | exact hS _ P11 | exact hS _ P12)
    (first
      | (go_at_call 38; (with_reducible refine (rMatrix_any 1 2 3 (some ⟨w13.heap.size, 0, none⟩) 6 6 [3, 2, 1, 6, 5, 4] (w13.alloc (.cells #[.int .i64 3, .int .i64 2, .int .i64 1, .int .i64 6, .int .i64 5, .int .i64 4] 2)).drew SL0.out (by omega)).mono ?_); rintro e u1 ⟨⟨Am1, nm1, cm1, rfl, hSm1, hNm1⟩, hb1⟩; obtain rfl : nm1 = 6 := hSm1.len.symm; have P1 := bst PL0 hb1; have T1 := Lib.hid hSm1; have G1 := Lib.hid (S3.out.step P1); clear hSm1 hNm1)
      | (go_at_call 27; (with_reducible refine (is_true 1 2 2 3 A3 6 c3 [3, 2, 1, 6, 5, 4] Am1 6 cm1 u1 G1.out T1.out).mono ?_); rintro e u2 ⟨rfl, hb2⟩; have P2 := bst P1 hb2; have PL2 : Below w13.heap.size w13 (u2.alloc (.cells #[.int .i64 1, .int .i64 4, .int .i64 2, .int .i64 5, .int .i64 3, .int .i64 6] 2)) := bal P2 _; have SL2 := Lib.hid (show Sl (u2.alloc (.cells #[.int .i64 1, .int .i64 4, .int .i64 2, .int .i64 5, .int .i64 3, .int .i64 6] 2)) (some ⟨u2.heap.size, 0, none⟩) 6 6 [1, 4, 2, 5, 3, 6] from slLit u2 _ 6 rfl (by omega)))
      | (go_at_call 38; (with_reducible refine (rMatrix_any 1 3 2 (some ⟨u2.heap.size, 0, none⟩) 6 6 [1, 4, 2, 5, 3, 6] (u2.alloc (.cells #[.int .i64 1, .int .i64 4, .int .i64 2, .int .i64 5, .int .i64 3, .int .i64 6] 2)) SL2.out (by omega)).mono ?_); rintro e u3 ⟨⟨Am3, nm3, cm3, rfl, hSm3, hNm3⟩, hb3⟩; obtain rfl : nm3 = 6 := hSm3.len.symm; have P3 := bst PL2 hb3; have T3 := Lib.hid hSm3; have G3 := Lib.hid (S4.out.step P3); clear hSm3 hNm3)
      | (go_at_call 27; (with_reducible refine (is_true 1 2 3 2 A4 6 c4 [1, 4, 2, 5, 3, 6] Am3 6 cm3 u3 G3.out T3.out).mono ?_); rintro e u4 ⟨rfl, hb4⟩; have P4 := bst P3 hb4; have PL4 : Below w13.heap.size w13 (u4.alloc (.cells #[.int .i64 2, .int .i64 3] 2)) := bal P4 _; have SL4 := Lib.hid (show Sl (u4.alloc (.cells #[.int .i64 2, .int .i64 3] 2)) (some ⟨u4.heap.size, 0, none⟩) 2 2 [2, 3] from slLit u4 _ 2 rfl (by omega)))
      | (go_at_call 35; (with_reducible refine (ints_any (some ⟨u4.heap.size, 0, none⟩) 2 2 [2, 3] (u4.alloc (.cells #[.int .i64 2, .int .i64 3] 2)) SL4.out (by omega)).mono ?_); rintro e u5 ⟨⟨Am5, nm5, cm5, rfl, hSm5, hNm5⟩, hb5⟩; obtain rfl : nm5 = 2 := hSm5.len.symm; have P5 := bst PL4 hb5; have T5 := Lib.hid hSm5; have G5 := Lib.hid (S6.out.step P5); clear hSm5 hNm5)
      | (go_at_call 27; (with_reducible refine (is_true 1 1 2 0 A6 2 c6 [2, 3] Am5 2 cm5 u5 G5.out T5.out).mono ?_); rintro e u6 ⟨rfl, hb6⟩; have P6 := bst P5 hb6; have PL6 : Below w13.heap.size w13 (u6.alloc (.cells #[.int .i64 1, .int .i64 2] 2)) := bal P6 _; have SL6 := Lib.hid (show Sl (u6.alloc (.cells #[.int .i64 1, .int .i64 2] 2)) (some ⟨u6.heap.size, 0, none⟩) 2 2 [1, 2] from slLit u6 _ 2 rfl (by omega)))
      | (go_at_call 35; (with_reducible refine (ints_any (some ⟨u6.heap.size, 0, none⟩) 2 2 [1, 2] (u6.alloc (.cells #[.int .i64 1, .int .i64 2] 2)) SL6.out (by omega)).mono ?_); rintro e u7 ⟨⟨Am7, nm7, cm7, rfl, hSm7, hNm7⟩, hb7⟩; obtain rfl : nm7 = 2 := hSm7.len.symm; have P7 := bst PL6 hb7; have T7 := Lib.hid hSm7; have G7 := Lib.hid (S7.out.step P7); clear hSm7 hNm7)
      | (go_at_call 27; (with_reducible refine (is_true 1 1 2 0 A7 2 c7 [1, 2] Am7 2 cm7 u7 G7.out T7.out).mono ?_); rintro e u8 ⟨rfl, hb8⟩; have P8 := bst P7 hb8; have PL8 : Below w13.heap.size w13 (u8.alloc (.cells #[.int .i64 1, .int .i64 2, .int .i64 3, .int .i64 1] 2)) := bal P8 _; have SL8 := Lib.hid (show Sl (u8.alloc (.cells #[.int .i64 1, .int .i64 2, .int .i64 3, .int .i64 1] 2)) (some ⟨u8.heap.size, 0, none⟩) 4 4 [1, 2, 3, 1] from slLit u8 _ 4 rfl (by omega)))
      | (go_at_call 38; (with_reducible refine (rMatrix_any 1 2 2 (some ⟨u8.heap.size, 0, none⟩) 4 4 [1, 2, 3, 1] (u8.alloc (.cells #[.int .i64 1, .int .i64 2, .int .i64 3, .int .i64 1] 2)) SL8.out (by omega)).mono ?_); rintro e u9 ⟨⟨Am9, nm9, cm9, rfl, hSm9, hNm9⟩, hb9⟩; obtain rfl : nm9 = 4 := hSm9.len.symm; have P9 := bst PL8 hb9; have T9 := Lib.hid hSm9; have G9 := Lib.hid (S8.out.step P9); clear hSm9 hNm9)
      | (go_at_call 27; (with_reducible refine (is_true 1 2 2 2 A8 4 c8 [1, 2, 3, 1] Am9 4 cm9 u9 G9.out T9.out).mono ?_); rintro e u10 ⟨rfl, hb10⟩; have P10 := bst P9 hb10)
      | (go_at_call 26; (with_reducible refine (fails_true 11 A9 c9 u10).mono ?_); rintro e u11 ⟨rfl, hb11⟩; have P11 := bst P10 hb11)
      | (go_at_call 26; (with_reducible refine (fails_true 13 A12 c12 u11).mono ?_); rintro e u12 ⟨rfl, hb12⟩; have P12 := bst P11 hb12))
  all_goals go_wp2
  all_goals go_ret
  all_goals exact ⟨rfl, bst b P12⟩
end Go.Proofs.Ytoapgknkenlcgaa

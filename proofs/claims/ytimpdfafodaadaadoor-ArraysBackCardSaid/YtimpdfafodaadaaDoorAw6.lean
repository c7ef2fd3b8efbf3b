/-
  The law's awake: it returns true.
-/
import Derived.Test.YtimpdfafodaadaaDoorMat
import Derived.Test.YtimpdfafodaadaaDoorWi
import Derived.Test.YtimpdfafodaadaaDoorPtx
import Derived.Test.YtimpdfafodaadaaDoorCmq
import Derived.Test.YtimpdfafodaadaaDoorAz
import Derived.Test.YtimpdfafodaadaaDoorEq
import Derived.Deep.CutRange
namespace Go.Proofs.YtimpdfafodaadaaDoor
open Go.RowKit
attribute [local go_sem] Oper.semAt_some

theorem slLit (w : World) (cs : Array Value) (n : Nat) {xs : List Int} (h : cs = (xs.map (Value.int .i64)).toArray) (hn : xs.length = n) (hb : n ≤ 100) : Sl (w.alloc (.cells cs 2)) (some ⟨w.heap.size, 0, none⟩) n n xs := by
  subst h
  refine Sl.of_box (Bx.new w _ 2) hn (Nat.le_refl _) (by unfold maxLen; omega) fun j hj => ?_
  have := map_getD (xs := xs) (j := j) (by omega)
  simpa using this
def Tab8 (w : World) : Prop := Lib.Utf8Tabs 0 1 w
theorem Tab8.step {w w' : World} (h : Tab8 w) (hb : Below w.heap.size w w') : Tab8 w' := Utf8Tabs_below h hb
set_option maxHeartbeats 8000000 in
theorem awake_any (w : World) (hT : Tab8 w) : Calls Tryd.prog 12 #[] w fun e w' => e = .returned (.bool true) ∧ Below w.heap.size w w' := by
  have HT := Lib.hid hT
  clear hT
  go_enter Tryd.func12, Tryd.ntmps12
  go_wp2_with fail
  obtain ⟨w0, hw0⟩ : ∃ w0, ((w.alloc (.cells #[.int .i64 1, .int .i64 2] 2)).alloc (.cells #[.int .i64 3, .int .i64 4] 2)).alloc (.cells #[.slice (some ⟨w.heap.size, 0, none⟩) 2 2, .slice (some ⟨w.heap.size + 1, 0, none⟩) 2 2] 23) = w0 := ⟨_, rfl⟩
  have b0 : Below w.heap.size w w0 := by rw [← hw0]; exact below3 _ _ _ _
  have hR : SlR w0 (some ⟨w.heap.size + 1 + 1, 0, none⟩) 2 2 [⟨some ⟨w.heap.size, 0, none⟩, 2, [1, 2]⟩, ⟨some ⟨w.heap.size + 1, 0, none⟩, 2, [3, 4]⟩] := by
    rw [← hw0]
    have h1 := slLit w #[.int .i64 1, .int .i64 2] 2 (xs := [1, 2]) rfl rfl (by omega)
    have h2 := slLit (w.alloc (.cells #[.int .i64 1, .int .i64 2] 2)) #[.int .i64 3, .int .i64 4] 2 (xs := [3, 4]) rfl rfl (by omega)
    rw [World.size_alloc] at h2
    have h3 := Bx.new ((w.alloc (.cells #[.int .i64 1, .int .i64 2] 2)).alloc (.cells #[.int .i64 3, .int .i64 4] 2)) #[.slice (some ⟨w.heap.size, 0, none⟩) 2 2, .slice (some ⟨w.heap.size + 1, 0, none⟩) 2 2] 23
    rw [World.size_alloc, World.size_alloc] at h3
    refine ⟨rfl, Nat.le_refl _, by decide, fun _ => ⟨_, 0, rfl, h3.lt, fun j hj => ?_⟩, ?_⟩
    · rw [h3.cell]
      have : j = 0 ∨ j = 1 := by omega
      rcases this with rfl | rfl <;> rfl
    · intro r hr
      simp only [List.mem_cons, List.not_mem_nil, or_false] at hr
      rcases hr with rfl | rfl
      · exact (h1.step (below1 _ _)).step (below1 _ _)
      · exact h2.step (below1 _ _)
  have HRR := Lib.hid hR
  rw [hw0]
  clear hw0 hR
  refine (aMatrix_any _ 2 2 _ (⟨1, 2, 2, 2, [1, 2, 3, 4]⟩, 0) w0 HRR.out (by rfl)).mono ?_
  intro e w1 hR
  obtain ⟨A1, n1, c1, rfl, hS1, hN1, hb1⟩ := RetA.flat hR
  obtain rfl : n1 = 4 := hS1.len.symm
  have S1 := Lib.hid hS1
  have b1 := bst b0 hb1
  clear hR hS1 hN1 hb1 HRR b0
  go_wp2_with fail
  -- With
  obtain ⟨w2, hw2⟩ : ∃ w2, (w1.alloc (.cells #[.int .i64 1, .int .i64 2, .int .i64 2, .int .i64 2, .slice A1 4 c1] 25)).alloc (.cells #[.int .i64 5, .int .i64 6, .int .i64 7] 2) = w2 := ⟨_, rfl⟩
  have hb2 : Below w1.heap.size w1 w2 := by rw [← hw2]; exact below2 _ _ _
  have X1 : Bx w2 w1.heap.size #[.int .i64 1, .int .i64 2, .int .i64 2, .int .i64 2, .slice A1 4 c1] 25 := by rw [← hw2]; exact (Bx.new _ _ _).alloc _
  have L2 : Sl w2 (some ⟨w1.heap.size + 1, 0, none⟩) 3 3 [5, 6, 7] := by
    rw [← hw2]
    have := slLit (w1.alloc (.cells #[.int .i64 1, .int .i64 2, .int .i64 2, .int .i64 2, .slice A1 4 c1] 25)) #[.int .i64 5, .int .i64 6, .int .i64 7] 3 (xs := [5, 6, 7]) rfl rfl (by omega)
    rwa [World.size_alloc] at this
  have S1 := Lib.hid (S1.out.step hb2)
  have HL2 := Lib.hid L2
  have b2 := bst b1 hb2
  rw [hw2]
  clear hw2 L2 hb2 b1
  refine (lvec_any _ 3 3 [5, 6, 7] w2 HL2.out).mono ?_
  rintro e w3 ⟨rfl, hb3⟩
  have X1 := X1.step hb3
  have S1 := Lib.hid (S1.out.step hb3)
  have L2 := Lib.hid (HL2.out.step hb3)
  have b3 := bst b2 hb3
  clear hb3 b2 HL2
  go_wp2_with fail
  refine (aWith_any 1 1 3 0 _ 3 3 [5, 6, 7] 1 0 9 (⟨1, 1, 3, 0, [5, 9, 7]⟩, 0) w3 L2.out (by rfl)).mono ?_
  intro e w4 hR
  obtain ⟨A4, n4, c4, rfl, hS4, hN4, hb4⟩ := RetA.flat hR
  obtain rfl : n4 = 3 := hS4.len.symm
  have X1 := X1.step hb4
  have S1 := Lib.hid (S1.out.step hb4)
  have S4 := Lib.hid hS4
  have b4 := bst b3 hb4
  clear hR hS4 hN4 hb4 b3 L2
  go_wp2_with fail
  -- Text
  obtain ⟨w5, hw5⟩ : ∃ w5, w4.alloc (.cells #[.int .i64 1, .int .i64 1, .int .i64 3, .int .i64 0, .slice A4 3 c4] 25) = w5 := ⟨_, rfl⟩
  have hb5 : Below w4.heap.size w4 w5 := by rw [← hw5]; exact below1 _ _
  have X4 : Bx w5 w4.heap.size #[.int .i64 1, .int .i64 1, .int .i64 3, .int .i64 0, .slice A4 3 c4] 25 := by rw [← hw5]; exact Bx.new _ _ _
  have X1 := X1.step hb5
  have S1 := Lib.hid (S1.out.step hb5)
  have S4 := Lib.hid (S4.out.step hb5)
  have b5 := bst b4 hb5
  rw [hw5]
  clear hw5 hb5 b4
  refine (aText_any ⟨#[195, 169, 33]⟩ (⟨2, 1, 2, 0, [233, 33]⟩, 0) w5 (by decide) (Utf8Tabs_below HT.out b5) (by rfl)).mono ?_
  intro e w6 hR
  obtain ⟨A6, n6, c6, rfl, hS6, hN6, hb6⟩ := RetA.flat hR
  obtain rfl : n6 = 2 := hS6.len.symm
  have X1 := X1.step hb6
  have X4 := X4.step hb6
  have S1 := Lib.hid (S1.out.step hb6)
  have S4 := Lib.hid (S4.out.step hb6)
  have S6 := Lib.hid hS6
  have b6 := bst b5 hb6
  clear hR hS6 hN6 hb6 b5
  go_wp2_with fail
  -- Compare
  obtain ⟨w7, hw7⟩ : ∃ w7, w6.alloc (.cells #[.int .i64 2, .int .i64 1, .int .i64 2, .int .i64 0, .slice A6 2 c6] 25) = w7 := ⟨_, rfl⟩
  have hb7 : Below w6.heap.size w6 w7 := by rw [← hw7]; exact below1 _ _
  have X6 : Bx w7 w6.heap.size #[.int .i64 2, .int .i64 1, .int .i64 2, .int .i64 0, .slice A6 2 c6] 25 := by rw [← hw7]; exact Bx.new _ _ _
  have X1 := X1.step hb7
  have X4 := X4.step hb7
  have S1 := Lib.hid (S1.out.step hb7)
  have S4 := Lib.hid (S4.out.step hb7)
  have S6 := Lib.hid (S6.out.step hb7)
  have b7 := bst b6 hb7
  rw [hw7]
  clear hw7 hb7 b6
  refine (aInt_any 5 w7).mono ?_
  rintro e w8 ⟨⟨A8, n8, c8, rfl, hS8, _⟩, hb8⟩
  obtain rfl : n8 = 1 := hS8.len.symm
  have X1 := X1.step hb8
  have X4 := X4.step hb8
  have X6 := X6.step hb8
  have S1 := Lib.hid (S1.out.step hb8)
  have S4 := Lib.hid (S4.out.step hb8)
  have S6 := Lib.hid (S6.out.step hb8)
  have S8 := Lib.hid hS8
  have b8 := bst b7 hb8
  clear hS8 hb8 b7
  go_wp2_with fail
  have L9 := Lib.hid (slLit w8 #[.int .i64 1] 1 (xs := [1]) rfl rfl (by omega))
  refine (lvec_any _ 1 1 [1] _ L9.out).mono ?_
  rintro e w9 ⟨rfl, hb9⟩
  have L9 := Lib.hid (L9.out.step hb9)
  have hb9 := bst (below1 w8 (.cells #[.int .i64 1] 2)) hb9
  have X1 := X1.step hb9
  have X4 := X4.step hb9
  have X6 := X6.step hb9
  have S1 := Lib.hid (S1.out.step hb9)
  have S4 := Lib.hid (S4.out.step hb9)
  have S6 := Lib.hid (S6.out.step hb9)
  have S8 := Lib.hid (S8.out.step hb9)
  have b9 := bst b8 hb9
  clear hb9 b8
  go_wp2_with fail
  refine (aCompare_any 1 0 0 0 A8 1 c8 [5] 1 1 1 0 _ 1 1 [1] (-1) 0 w9 S8.out L9.out (by rfl)).mono ?_
  rintro e w10 ⟨rfl, hb10⟩
  have X1 := X1.step hb10
  have X4 := X4.step hb10
  have X6 := X6.step hb10
  have S1 := Lib.hid (S1.out.step hb10)
  have S4 := Lib.hid (S4.out.step hb10)
  have S6 := Lib.hid (S6.out.step hb10)
  have b10 := bst b9 hb10
  clear hb10 b9 S8 L9
  go_wp2_with fail
  have hS : ∀ u, Below w10.heap.size w10 u → (∀ i, u.cell? ⟨w1.heap.size, i, none⟩ = #[.int .i64 1, .int .i64 2, .int .i64 2, .int .i64 2, .slice A1 4 c1][i]?) ∧ (∀ i, u.cell? ⟨w4.heap.size, i, none⟩ = #[.int .i64 1, .int .i64 1, .int .i64 3, .int .i64 0, .slice A4 3 c4][i]?) ∧ (∀ i, u.cell? ⟨w6.heap.size, i, none⟩ = #[.int .i64 2, .int .i64 1, .int .i64 2, .int .i64 0, .slice A6 2 c6][i]?) := fun u h => ⟨Bx.cell (Bx.step X1 h), Bx.cell (Bx.step X4 h), Bx.cell (Bx.step X6 h)⟩
  have P0 : Below w10.heap.size w10 w10.drew := bdr (Below.refl _ _)
  have PL0 : Below w10.heap.size w10 (w10.alloc (.cells #[.int .i64 1, .int .i64 2, .int .i64 3, .int .i64 4] 2)).drew := bdr (bal (Below.refl _ _) _)
  have SL0 := Lib.hid (show Sl (w10.alloc (.cells #[.int .i64 1, .int .i64 2, .int .i64 3, .int .i64 4] 2)).drew (some ⟨w10.heap.size, 0, none⟩) 4 4 [1, 2, 3, 4] from slLit w10 _ 4 rfl rfl (by omega))
  have G0 := Lib.hid (S1.out.step PL0)
  go_region_held3 (fun u => (∀ i, u.cell? ⟨w1.heap.size, i, none⟩ = #[.int .i64 1, .int .i64 2, .int .i64 2, .int .i64 2, .slice A1 4 c1][i]?) ∧ (∀ i, u.cell? ⟨w4.heap.size, i, none⟩ = #[.int .i64 1, .int .i64 1, .int .i64 3, .int .i64 0, .slice A4 3 c4][i]?) ∧ (∀ i, u.cell? ⟨w6.heap.size, i, none⟩ = #[.int .i64 2, .int .i64 1, .int .i64 2, .int .i64 0, .slice A6 2 c6][i]?))
    (with_reducible first | exact hS _ P0 | exact hS _ PL0 | exact hS _ P1 | exact hS _ PL1 | exact hS _ P2 | exact hS _ P3 | exact hS _ PL3 | exact hS _ P4)
    (first
      | (go_at_call 19; (with_reducible refine (rsame_any 1 2 2 2 A1 4 c1 [1, 2, 3, 4] 1 2 2 2 (some ⟨w10.heap.size, 0, none⟩) 4 4 [1, 2, 3, 4] true _ G0.out SL0.out (by simp)).mono ?_); rintro e u1 ⟨rfl, hb1⟩; have P1 := bst PL0 hb1; have PL1 : Below w10.heap.size w10 (u1.alloc (.cells #[.int .i64 5, .int .i64 9, .int .i64 7] 2)) := bal P1 _; have SL1 := Lib.hid (show Sl (u1.alloc (.cells #[.int .i64 5, .int .i64 9, .int .i64 7] 2)) (some ⟨u1.heap.size, 0, none⟩) 3 3 [5, 9, 7] from slLit u1 _ 3 rfl rfl (by omega)))
      | (go_at_call 35; (with_reducible refine (lvec_any (some ⟨u1.heap.size, 0, none⟩) 3 3 [5, 9, 7] _ SL1.out).mono ?_); rintro e u2 ⟨rfl, hb2⟩; have P2 := bst PL1 hb2; have G2 := Lib.hid (S4.out.step P2); have SL2 := Lib.hid (SL1.out.step hb2))
      | (go_at_call 19; (with_reducible refine (rsame_any 1 1 3 0 A4 3 c4 [5, 9, 7] 1 1 3 0 (some ⟨u1.heap.size, 0, none⟩) 3 3 [5, 9, 7] true _ G2.out SL2.out (by simp)).mono ?_); rintro e u3 ⟨rfl, hb3⟩; have P3 := bst P2 hb3; have PL3 : Below w10.heap.size w10 (u3.alloc (.cells #[.int .i64 233, .int .i64 33] 2)) := bal P3 _; have SL3 := Lib.hid (show Sl (u3.alloc (.cells #[.int .i64 233, .int .i64 33] 2)) (some ⟨u3.heap.size, 0, none⟩) 2 2 [233, 33] from slLit u3 _ 2 rfl rfl (by omega)); have G3 := Lib.hid (S6.out.step PL3))
      | (go_at_call 19; (with_reducible refine (rsame_any 2 1 2 0 A6 2 c6 [233, 33] 2 1 2 0 (some ⟨u3.heap.size, 0, none⟩) 2 2 [233, 33] true _ G3.out SL3.out (by simp)).mono ?_); rintro e u4 ⟨rfl, hb4⟩; have P4 := bst PL3 hb4))
  all_goals go_wp2
  all_goals go_ret
  all_goals exact ⟨rfl, bst b10 P4⟩
end Go.Proofs.YtimpdfafodaadaaDoor

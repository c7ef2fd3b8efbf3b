/-
  The law ArraysKnown: it returns true.
-/
import Derived.Test.YtimpdfafodaadaaDoorAw6
namespace Go.Proofs.YtimpdfafodaadaaDoor
open Go.RowKit
attribute [local go_sem] Oper.semAt_some

set_option maxHeartbeats 8000000 in
theorem lawKnown6 (w : World) (hT : Tab8 w) : Calls Tryd.prog 7 #[] w fun e w' => e = .returned (.bool true) ∧ Below w.heap.size w w' := by
  have HT := Lib.hid hT
  clear hT
  go_enter Tryd.func7, Tryd.ntmps7
  go_wp2_with fail
  refine (aZero_any 2 2 (⟨2, 2, 0, 0, []⟩, 0) w (by rfl)).mono ?_
  intro e w1 hR
  obtain ⟨A1, n1, c1, rfl, hS1, hN1, b1⟩ := RetA.flat hR
  obtain rfl : n1 = 0 := hS1.len.symm
  have S1 := Lib.hid hS1
  clear hR hS1 hN1
  go_wp2_with fail
  refine (aZero_any 1 0 (⟨1, 0, 0, 0, [0]⟩, 0) _ (by rfl)).mono ?_
  intro e w2 hR
  obtain ⟨A2, n2, c2, rfl, hS2, hN2, hb2⟩ := RetA.flat hR
  obtain rfl : n2 = 1 := hS2.len.symm
  have S2 := Lib.hid hS2
  have S1 := Lib.hid ((S1.out.step (below1 _ _)).step hb2)
  obtain ⟨X1, hst⟩ := after1 hb2
  have b2 := bst b1 hst
  clear hR hS2 hN2 hb2 hst b1
  go_wp2_with fail
  -- Matrix
  obtain ⟨v0, hv0⟩ : ∃ v0, w2.alloc (.cells #[.int .i64 1, .int .i64 0, .int .i64 0, .int .i64 0, .slice A2 1 c2] 25) = v0 := ⟨_, rfl⟩
  have hbv : Below w2.heap.size w2 v0 := by rw [← hv0]; exact below1 _ _
  have X2 : Bx v0 w2.heap.size #[.int .i64 1, .int .i64 0, .int .i64 0, .int .i64 0, .slice A2 1 c2] 25 := by rw [← hv0]; exact Bx.new _ _ _
  have X1 := Bx.step X1 hbv
  have S1 := Lib.hid (S1.out.step hbv)
  have S2 := Lib.hid (S2.out.step hbv)
  have b3 := bst b2 hbv
  have hsz : v0.heap.size = w2.heap.size + 1 := by rw [← hv0, World.size_alloc]
  rw [hv0]
  rw [← hsz]
  clear hv0 hbv b2 hsz
  obtain ⟨w3, hw3⟩ : ∃ w3, ((v0.alloc (.cells #[.int .i64 1, .int .i64 2] 2)).alloc (.cells #[.int .i64 3] 2)).alloc (.cells #[.slice (some ⟨v0.heap.size, 0, none⟩) 2 2, .slice (some ⟨v0.heap.size + 1, 0, none⟩) 1 1] 23) = w3 := ⟨_, rfl⟩
  have hb3 : Below v0.heap.size v0 w3 := by rw [← hw3]; exact below3 _ _ _ _
  have hR : SlR w3 (some ⟨v0.heap.size + 1 + 1, 0, none⟩) 2 2 [⟨some ⟨v0.heap.size, 0, none⟩, 2, [1, 2]⟩, ⟨some ⟨v0.heap.size + 1, 0, none⟩, 1, [3]⟩] := by
    rw [← hw3]
    have h1 := slLit v0 #[.int .i64 1, .int .i64 2] 2 (xs := [1, 2]) rfl rfl (by omega)
    have h2 := slLit (v0.alloc (.cells #[.int .i64 1, .int .i64 2] 2)) #[.int .i64 3] 1 (xs := [3]) rfl rfl (by omega)
    rw [World.size_alloc] at h2
    have h3 := Bx.new ((v0.alloc (.cells #[.int .i64 1, .int .i64 2] 2)).alloc (.cells #[.int .i64 3] 2)) #[.slice (some ⟨v0.heap.size, 0, none⟩) 2 2, .slice (some ⟨v0.heap.size + 1, 0, none⟩) 1 1] 23
    rw [World.size_alloc, World.size_alloc] at h3
    refine ⟨rfl, Nat.le_refl _, by decide, fun _ => ⟨_, 0, rfl, h3.lt, fun j hj => ?_⟩, ?_⟩
    · rw [h3.cell]
      have : j = 0 ∨ j = 1 := by omega
      rcases this with rfl | rfl <;> rfl
    · intro r hr
      simp only [List.mem_cons, List.not_mem_nil, or_false] at hr
      rcases hr with rfl | rfl
      · exact (h1.step (below1 _ _)).step (below1 _ _)
      · exact h2.step (below1 _ _)
  have HRR := Lib.hid hR
  rw [hw3]
  have X1 := Bx.step X1 hb3
  have X2 := Bx.step X2 hb3
  have S1 := Lib.hid (S1.out.step hb3)
  have S2 := Lib.hid (S2.out.step hb3)
  have b3 := bst b3 hb3
  clear hw3 hR hb3
  refine (aMatrix_any _ 2 2 _ (⟨0, 0, 0, 0, []⟩, 11) w3 HRR.out (by rfl)).mono ?_
  intro e w4 hR
  obtain ⟨A4, n4, c4, rfl, _, _, hb4⟩ := RetA.flat hR
  have X1 := Bx.step X1 hb4
  have X2 := Bx.step X2 hb4
  have S1 := Lib.hid (S1.out.step hb4)
  have S2 := Lib.hid (S2.out.step hb4)
  have b4 := bst b3 hb4
  clear hR hb4 HRR b3
  go_wp2_with fail
  refine (aText_any ⟨#[255]⟩ (⟨0, 0, 0, 0, []⟩, 6) _ (by decide) (Utf8Tabs_below HT.out (bal b4 _)) (by rfl)).mono ?_
  intro e w5 hR
  obtain ⟨A5, n5, c5, rfl, _, _, hb5⟩ := RetA.flat hR
  have hb5 := bst (below1 w4 (.cells #[.int .i64 0, .int .i64 0, .int .i64 0, .int .i64 0, .slice A4 n4 c4] 25)) hb5
  have X1 := Bx.step X1 hb5
  have X2 := Bx.step X2 hb5
  have S1 := Lib.hid (S1.out.step hb5)
  have S2 := Lib.hid (S2.out.step hb5)
  have b5 := bst b4 hb5
  clear hR hb5 b4
  go_wp2_with fail
  obtain ⟨w6, hw6⟩ : ∃ w6, w5.alloc (.cells #[.int .i64 0, .int .i64 0, .int .i64 0, .int .i64 0, .slice A5 n5 c5] 25) = w6 := ⟨_, rfl⟩
  have hb6 : Below w5.heap.size w5 w6 := by rw [← hw6]; exact below1 _ _
  have hsz : w6.heap.size = w5.heap.size + 1 := by rw [← hw6, World.size_alloc]
  rw [hw6, ← hsz]
  have X1 := Bx.step X1 hb6
  have X2 := Bx.step X2 hb6
  have S1 := Lib.hid (S1.out.step hb6)
  have S2 := Lib.hid (S2.out.step hb6)
  have b6 := bst b5 hb6
  clear hw6 hb6 b5 hsz
  have L6 := Lib.hid (slLit w6 #[.int .i64 1, .int .i64 2] 2 (xs := [1, 2]) rfl rfl (by omega))
  refine (lvec_any _ 2 2 [1, 2] _ L6.out).mono ?_
  rintro e w7 ⟨rfl, hb7⟩
  have L6 := Lib.hid (L6.out.step hb7)
  have hb7 := bst (below1 w6 (.cells #[.int .i64 1, .int .i64 2] 2)) hb7
  have X1 := Bx.step X1 hb7
  have X2 := Bx.step X2 hb7
  have S1 := Lib.hid (S1.out.step hb7)
  have S2 := Lib.hid (S2.out.step hb7)
  have b7 := bst b6 hb7
  clear hb7 b6
  go_wp2_with fail
  have L7 := Lib.hid (slLit w7 #[.int .i64 1, .int .i64 3] 2 (xs := [1, 3]) rfl rfl (by omega))
  refine (lvec_any _ 2 2 [1, 3] _ L7.out).mono ?_
  rintro e w8 ⟨rfl, hb8⟩
  have L7 := Lib.hid (L7.out.step hb8)
  have hb8 := bst (below1 w7 (.cells #[.int .i64 1, .int .i64 3] 2)) hb8
  have L6 := Lib.hid (L6.out.step hb8)
  have X1 := Bx.step X1 hb8
  have X2 := Bx.step X2 hb8
  have S1 := Lib.hid (S1.out.step hb8)
  have S2 := Lib.hid (S2.out.step hb8)
  have b8 := bst b7 hb8
  clear hb8 b7
  go_wp2_with fail
  refine (aCompare_any 1 1 2 0 _ 2 2 [1, 2] 1 1 2 0 _ 2 2 [1, 3] (-1) 0 w8 L6.out L7.out (by rfl)).mono ?_
  rintro e w9 ⟨rfl, hb9⟩
  have X1 := Bx.step X1 hb9
  have X2 := Bx.step X2 hb9
  have S1 := Lib.hid (S1.out.step hb9)
  have S2 := Lib.hid (S2.out.step hb9)
  have b9 := bst b8 hb9
  clear hb9 b8 L6 L7
  go_wp2_with fail
  have L9 := Lib.hid (slLit w9 #[.int .i64 5] 1 (xs := [5]) rfl rfl (by omega))
  refine (acheck_any 1 1 2 0 _ 1 1 [5] 6 _ L9.out (by rfl)).mono ?_
  rintro e w10 ⟨rfl, hb10⟩
  have hb10 := bst (below1 w9 (.cells #[.int .i64 5] 2)) hb10
  have X1 := Bx.step X1 hb10
  have X2 := Bx.step X2 hb10
  have S1 := Lib.hid (S1.out.step hb10)
  have S2 := Lib.hid (S2.out.step hb10)
  have b10 := bst b9 hb10
  clear hb10 b9 L9
  go_wp2_with fail
  have L10 := Lib.hid (slLit w10 #[.int .i64 55296] 1 (xs := [55296]) rfl rfl (by omega))
  refine (acheck_any 2 0 0 0 _ 1 1 [55296] 7 _ L10.out (by rfl)).mono ?_
  rintro e w11 ⟨rfl, hb11⟩
  have hb11 := bst (below1 w10 (.cells #[.int .i64 55296] 2)) hb11
  have X1 := Bx.step X1 hb11
  have X2 := Bx.step X2 hb11
  have S1 := Lib.hid (S1.out.step hb11)
  have S2 := Lib.hid (S2.out.step hb11)
  have b11 := bst b10 hb11
  clear hb11 b10 L10
  go_wp2_with fail
  have L11 := Lib.hid (slLit w11 #[.int .i64 65] 1 (xs := [65]) rfl rfl (by omega))
  refine (acheck_any 2 0 0 0 _ 1 1 [65] 0 _ L11.out (by rfl)).mono ?_
  rintro e w12 ⟨rfl, hb12⟩
  have hb12 := bst (below1 w11 (.cells #[.int .i64 65] 2)) hb12
  have X1 := Bx.step X1 hb12
  have X2 := Bx.step X2 hb12
  have S1 := Lib.hid (S1.out.step hb12)
  have S2 := Lib.hid (S2.out.step hb12)
  have b12 := bst b11 hb12
  clear hb12 b11 L11
  have d1 : ∀ i, w12.cell? ⟨w1.heap.size, i, none⟩ = _ := Bx.cell X1
  have d2 : ∀ i, w12.cell? ⟨w2.heap.size, i, none⟩ = _ := Bx.cell X2
  go_wp2_with fail
  refine (rsame_any 2 2 0 0 A1 0 c1 [] 2 2 0 0 none 0 0 [] true _ S1.out (Sl.nil _) (by simp)).mono ?_
  rintro e w13 ⟨rfl, hb13⟩
  have X2 := Bx.step X2 hb13
  have S2 := Lib.hid (S2.out.step hb13)
  have b13 := bst b12 hb13
  clear hb13 b12 d1 d2
  have d2 : ∀ i, w13.cell? ⟨w2.heap.size, i, none⟩ = _ := Bx.cell X2
  have q2 := Bx.lt X2
  go_wp2_with fail
  have L13 := Lib.hid (slLit w13 #[.int .i64 0] 1 (xs := [0]) rfl rfl (by omega))
  refine (rsame_any 1 0 0 0 A2 1 c2 [0] 1 0 0 0 _ 1 1 [0] true _ (S2.out.step (below1 _ _)) L13.out (by simp)).mono ?_
  rintro e w14 ⟨rfl, hb14⟩
  have hb14 := bst (below1 w13 (.cells #[.int .i64 0] 2)) hb14
  have b14 := bst b13 hb14
  clear hb14 b13 d2 q2
  go_wp2_with fail
  refine (awake_any _ (Tab8.step HT.out b14)).mono ?_
  rintro e wz ⟨rfl, hbz⟩
  go_wp2
  go_ret
  exact ⟨rfl, bst b14 hbz⟩
end Go.Proofs.YtimpdfafodaadaaDoor

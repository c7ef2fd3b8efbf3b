/-
  The laws MovesTakes and MovesFills.
-/
import Derived.Test.YtoapgknkenlcgaaAwk
import Derived.Test.YtoapgknkenlcgaaRgrid
import Derived.Test.YtoapgknkenlcgaaRsca
namespace Go.Proofs.Ytoapgknkenlcgaa
open Go.RowKit

set_option maxHeartbeats 8000000 in
theorem lawTakes_any (k r l0 l1 : Int) (A : Option Addr) (n c : Nat) (xs : List Int) (k' r' l0' l1' : Int) (A' : Option Addr) (n' c' : Nat) (ys : List Int) (w : World)
    (hs : Sl w A n c xs) (hs' : Sl w A' n' c' ys) (hwf : ∀ x ∈ xs, -9223372036854775808 ≤ x ∧ x ≤ 9223372036854775807) :
    Calls Try.prog 3 #[.agg #[.int .i64 k, .int .i64 r, .int .i64 l0, .int .i64 l1, .slice A n c], .agg #[.int .i64 k', .int .i64 r', .int .i64 l0', .int .i64 l1', .slice A' n' c']] w fun e w' => e = .returned (.bool true) ∧ Below w.heap.size w w' := by
  have HS := Lib.hid hs
  have HS' := Lib.hid hs'
  have HW := Lib.hid hwf
  clear hs hs' hwf
  by_cases hf : 405 < n
  · go_enter Try.func3, Try.ntmps3
    go_wp2_with fail
    refine (far_any _ _ _ _ _ _ _ _).mono ?_
    rintro e w1 ⟨rfl, hb1⟩
    obtain ⟨X0, X1, b1⟩ := after2 hb1
    clear hb1
    have c0 : ∀ i, w1.cell? ⟨w.heap.size, i, none⟩ = _ := Bx.cell X0
    have c1 : ∀ i, w1.cell? ⟨w.heap.size + 1, i, none⟩ = _ := Bx.cell X1
    rw [decide_eq_true hf]
    go_wp2_with fail
    refine (awake_any _).mono ?_
    rintro e w2 ⟨rfl, hbz⟩
    go_wp2
    go_ret
    exact ⟨rfl, bst b1 hbz⟩
  · by_cases hf' : 405 < n'
    · go_enter Try.func3, Try.ntmps3
      go_wp2_with fail
      refine (far_any _ _ _ _ _ _ _ _).mono ?_
      rintro e w1 ⟨rfl, hb1⟩
      obtain ⟨X0, X1, b1⟩ := after2 hb1
      clear hb1
      have c0 : ∀ i, w1.cell? ⟨w.heap.size, i, none⟩ = _ := Bx.cell X0
      have c1 : ∀ i, w1.cell? ⟨w.heap.size + 1, i, none⟩ = _ := Bx.cell X1
      rw [decide_eq_false hf]
      go_wp2_with fail
      refine (far_any _ _ _ _ _ _ _ _).mono ?_
      rintro e w2 ⟨rfl, hb2⟩
      have b2 := bst b1 hb2
      rw [decide_eq_true hf']
      go_wp2_with fail
      refine (awake_any _).mono ?_
      rintro e w3 ⟨rfl, hbz⟩
      go_wp2
      go_ret
      exact ⟨rfl, bst b2 hbz⟩
    · obtain ⟨⟨⟨k3, r3, u3, v3, zs3⟩, e3⟩, hT1⟩ : ∃ R, sTake ⟨k, r, l0, l1, xs⟩ ⟨k', r', l0', l1', ys⟩ = R := ⟨_, rfl⟩
      obtain ⟨⟨⟨k5, r5, u5, v5, zs5⟩, e5⟩, hT2⟩ : ∃ R, sDrop ⟨k, r, l0, l1, xs⟩ ⟨k', r', l0', l1', ys⟩ = R := ⟨_, rfl⟩
      have HT1 := Lib.hid hT1
      have HT2 := Lib.hid hT2
      clear hT1 hT2
      go_enter Try.func3, Try.ntmps3
      go_wp2_with fail
      refine (far_any _ _ _ _ _ _ _ _).mono ?_
      rintro e w1 ⟨rfl, hb1⟩
      obtain ⟨X0, X1, b1⟩ := after2 hb1
      clear hb1
      have c0 : ∀ i, w1.cell? ⟨w.heap.size, i, none⟩ = _ := Bx.cell X0
      have c1 : ∀ i, w1.cell? ⟨w.heap.size + 1, i, none⟩ = _ := Bx.cell X1
      rw [decide_eq_false hf]
      go_wp2_with fail
      refine (far_any _ _ _ _ _ _ _ _).mono ?_
      rintro e w2 ⟨rfl, hb2⟩
      rw [decide_eq_false hf']
      have b2 := bst b1 hb2
      replace X0 := Bx.step X0 hb2
      replace X1 := Bx.step X1 hb2
      clear c0 c1 hb2
      have c0 : ∀ i, w2.cell? ⟨w.heap.size, i, none⟩ = _ := Bx.cell X0
      have c1 : ∀ i, w2.cell? ⟨w.heap.size + 1, i, none⟩ = _ := Bx.cell X1
      go_wp2_with fail
      refine (mTake_any _ _ _ _ _ _ _ xs _ _ _ _ _ _ _ ys _ _ (HS.out.step b2) (HS'.out.step b2) HW.out HT1.out).mono ?_
      intro e w3 hR
      obtain ⟨A3, n3, c3, rfl, hS3, hN3, hb3⟩ := RetA.flat hR
      have b3 := bst b2 hb3
      have S3 := Lib.hid hS3
      replace X0 := Bx.step X0 hb3
      replace X1 := Bx.step X1 hb3
      clear c0 c1 hb3 hS3 hN3 hR
      have c0 : ∀ i, w3.cell? ⟨w.heap.size, i, none⟩ = _ := Bx.cell X0
      have c1 : ∀ i, w3.cell? ⟨w.heap.size + 1, i, none⟩ = _ := Bx.cell X1
      have q1 := Bx.lt X1
      have q0 := Bx.lt X0
      go_wp2_with fail
      refine (rTake_any _ _ _ _ _ _ _ xs _ _ _ _ _ _ _ ys _ _ (HS.out.step (bal b3 _)) (HS'.out.step (bal b3 _)) HW.out HT1.out).mono ?_
      intro e w4 hR
      obtain ⟨A4, n4, c4, rfl, hS4, hN4, hb4⟩ := RetA.flat hR
      obtain ⟨X3, hst⟩ := after1 hb4
      have b4 := bst b3 hst
      have S4 := Lib.hid hS4
      replace S3 := Lib.hid (S3.out.step hst)
      replace X0 := Bx.step X0 hst
      replace X1 := Bx.step X1 hst
      clear c0 c1 hb4 hS4 hN4 hst hR
      have c0 : ∀ i, w4.cell? ⟨w.heap.size, i, none⟩ = _ := Bx.cell X0
      have c1 : ∀ i, w4.cell? ⟨w.heap.size + 1, i, none⟩ = _ := Bx.cell X1
      have q3 := Bx.lt X3
      have q0 := Bx.lt X0
      have q1 := Bx.lt X1
      go_wp2_with fail
      refine (mDrop_any _ _ _ _ _ _ _ xs _ _ _ _ _ _ _ ys _ _ (HS.out.step (bal b4 _)) (HS'.out.step (bal b4 _)) HW.out HT2.out).mono ?_
      intro e w5 hR
      obtain ⟨A5, n5, c5, rfl, hS5, hN5, hb5⟩ := RetA.flat hR
      obtain ⟨X4, hst⟩ := after1 hb5
      have b5 := bst b4 hst
      have S5 := Lib.hid hS5
      replace S3 := Lib.hid (S3.out.step hst)
      replace S4 := Lib.hid (S4.out.step hst)
      replace X0 := Bx.step X0 hst
      replace X1 := Bx.step X1 hst
      replace X3 := Bx.step X3 hst
      clear c0 c1 hb5 hS5 hN5 hst hR
      have c0 : ∀ i, w5.cell? ⟨w.heap.size, i, none⟩ = _ := Bx.cell X0
      have c1 : ∀ i, w5.cell? ⟨w.heap.size + 1, i, none⟩ = _ := Bx.cell X1
      have q4 := Bx.lt X4
      have q0 := Bx.lt X0
      have q1 := Bx.lt X1
      go_wp2_with fail
      refine (rDrop_any _ _ _ _ _ _ _ xs _ _ _ _ _ _ _ ys _ _ (HS.out.step (bal b5 _)) (HS'.out.step (bal b5 _)) HW.out HT2.out).mono ?_
      intro e w6 hR
      obtain ⟨A6, n6, c6, rfl, hS6, hN6, hb6⟩ := RetA.flat hR
      obtain ⟨X5, hst⟩ := after1 hb6
      have b6 := bst b5 hst
      have S6 := Lib.hid hS6
      replace S3 := Lib.hid (S3.out.step hst)
      replace S4 := Lib.hid (S4.out.step hst)
      replace S5 := Lib.hid (S5.out.step hst)
      replace X3 := Bx.step X3 hst
      replace X4 := Bx.step X4 hst
      clear c0 c1 hb6 hS6 hN6 hst hR X0 X1
      have c3 : ∀ i, w6.cell? ⟨w3.heap.size, i, none⟩ = _ := Bx.cell X3
      have c4 : ∀ i, w6.cell? ⟨w4.heap.size, i, none⟩ = _ := Bx.cell X4
      have q5 := Bx.lt X5
      have q3 := Bx.lt X3
      have q4 := Bx.lt X4
      go_wp2_with fail
      refine (alike_true _ _ _ _ _ _ _ _ zs3 _ _ _ _ (S3.out.step (below1 _ _)) (S4.out.step (below1 _ _))).mono ?_
      rintro e w7 ⟨rfl, hb7⟩
      obtain ⟨X6, hst⟩ := after1 hb7
      have b7 := bst b6 hst
      replace S5 := Lib.hid (S5.out.step hst)
      replace S6 := Lib.hid (S6.out.step hst)
      replace X5 := Bx.step X5 hst
      clear c3 c4 hb7 hst
      have c5 : ∀ i, w7.cell? ⟨w5.heap.size, i, none⟩ = _ := Bx.cell X5
      have c6 : ∀ i, w7.cell? ⟨w6.heap.size, i, none⟩ = _ := Bx.cell X6
      go_wp2_with fail
      refine (alike_true _ _ _ _ _ _ _ _ zs5 _ _ _ _ S5.out S6.out).mono ?_
      rintro e w8 ⟨rfl, hb8⟩
      have b8 := bst b7 hb8
      clear c5 c6
      go_wp2_with fail
      refine (awake_any _).mono ?_
      rintro e w9 ⟨rfl, hbz⟩
      go_wp2
      go_ret
      exact ⟨rfl, bst b8 hbz⟩
set_option maxHeartbeats 8000000 in
theorem lawFills_any (k r l0 l1 : Int) (A : Option Addr) (n c : Nat) (xs : List Int) (k' r' l0' l1' : Int) (A' : Option Addr) (n' c' : Nat) (ys : List Int) (w : World)
    (hs : Sl w A n c xs) (hs' : Sl w A' n' c' ys) (hwf : ∀ x ∈ xs, -9223372036854775808 ≤ x ∧ x ≤ 9223372036854775807) :
    Calls Try.prog 4 #[.agg #[.int .i64 k, .int .i64 r, .int .i64 l0, .int .i64 l1, .slice A n c], .agg #[.int .i64 k', .int .i64 r', .int .i64 l0', .int .i64 l1', .slice A' n' c']] w fun e w' => e = .returned (.bool true) ∧ Below w.heap.size w w' := by
  have HS := Lib.hid hs
  have HS' := Lib.hid hs'
  have HW := Lib.hid hwf
  clear hs hs' hwf
  by_cases hf : 405 < n
  · go_enter Try.func4, Try.ntmps4
    go_wp2_with fail
    refine (far_any _ _ _ _ _ _ _ _).mono ?_
    rintro e w1 ⟨rfl, hb1⟩
    obtain ⟨X0, X1, b1⟩ := after2 hb1
    clear hb1
    have c0 : ∀ i, w1.cell? ⟨w.heap.size, i, none⟩ = _ := Bx.cell X0
    have c1 : ∀ i, w1.cell? ⟨w.heap.size + 1, i, none⟩ = _ := Bx.cell X1
    rw [decide_eq_true hf]
    go_wp2_with fail
    refine (awake_any _).mono ?_
    rintro e w2 ⟨rfl, hbz⟩
    go_wp2
    go_ret
    exact ⟨rfl, bst b1 hbz⟩
  · by_cases hf' : 405 < n'
    · go_enter Try.func4, Try.ntmps4
      go_wp2_with fail
      refine (far_any _ _ _ _ _ _ _ _).mono ?_
      rintro e w1 ⟨rfl, hb1⟩
      obtain ⟨X0, X1, b1⟩ := after2 hb1
      clear hb1
      have c0 : ∀ i, w1.cell? ⟨w.heap.size, i, none⟩ = _ := Bx.cell X0
      have c1 : ∀ i, w1.cell? ⟨w.heap.size + 1, i, none⟩ = _ := Bx.cell X1
      rw [decide_eq_false hf]
      go_wp2_with fail
      refine (far_any _ _ _ _ _ _ _ _).mono ?_
      rintro e w2 ⟨rfl, hb2⟩
      have b2 := bst b1 hb2
      rw [decide_eq_true hf']
      go_wp2_with fail
      refine (awake_any _).mono ?_
      rintro e w3 ⟨rfl, hbz⟩
      go_wp2
      go_ret
      exact ⟨rfl, bst b2 hbz⟩
    · obtain ⟨⟨⟨k3, r3, u3, v3, zs3⟩, e3⟩, hT1⟩ : ∃ R, sFill ⟨k, r, l0, l1, xs⟩ ⟨k', r', l0', l1', ys⟩ = R := ⟨_, rfl⟩
      obtain ⟨⟨⟨k5, r5, u5, v5, zs5⟩, e5⟩, hT2⟩ : ∃ R, sGrid ⟨k, r, l0, l1, xs⟩ ⟨k', r', l0', l1', ys⟩ = R := ⟨_, rfl⟩
      have HT1 := Lib.hid hT1
      have HT2 := Lib.hid hT2
      clear hT1 hT2
      go_enter Try.func4, Try.ntmps4
      go_wp2_with fail
      refine (far_any _ _ _ _ _ _ _ _).mono ?_
      rintro e w1 ⟨rfl, hb1⟩
      obtain ⟨X0, X1, b1⟩ := after2 hb1
      clear hb1
      have c0 : ∀ i, w1.cell? ⟨w.heap.size, i, none⟩ = _ := Bx.cell X0
      have c1 : ∀ i, w1.cell? ⟨w.heap.size + 1, i, none⟩ = _ := Bx.cell X1
      rw [decide_eq_false hf]
      go_wp2_with fail
      refine (far_any _ _ _ _ _ _ _ _).mono ?_
      rintro e w2 ⟨rfl, hb2⟩
      rw [decide_eq_false hf']
      have b2 := bst b1 hb2
      replace X0 := Bx.step X0 hb2
      replace X1 := Bx.step X1 hb2
      clear c0 c1 hb2
      have c0 : ∀ i, w2.cell? ⟨w.heap.size, i, none⟩ = _ := Bx.cell X0
      have c1 : ∀ i, w2.cell? ⟨w.heap.size + 1, i, none⟩ = _ := Bx.cell X1
      go_wp2_with fail
      refine (mFill_any _ _ _ _ _ _ _ xs _ _ _ _ _ _ _ ys _ _ (HS.out.step b2) (HS'.out.step b2) HW.out HT1.out).mono ?_
      intro e w3 hR
      obtain ⟨A3, n3, c3, rfl, hS3, hN3, hb3⟩ := RetA.flat hR
      have b3 := bst b2 hb3
      have S3 := Lib.hid hS3
      replace X0 := Bx.step X0 hb3
      replace X1 := Bx.step X1 hb3
      clear c0 c1 hb3 hS3 hN3 hR
      have c0 : ∀ i, w3.cell? ⟨w.heap.size, i, none⟩ = _ := Bx.cell X0
      have c1 : ∀ i, w3.cell? ⟨w.heap.size + 1, i, none⟩ = _ := Bx.cell X1
      have q1 := Bx.lt X1
      have q0 := Bx.lt X0
      go_wp2_with fail
      refine (rFill_any _ _ _ _ _ _ _ xs _ _ _ _ _ _ _ ys _ _ (HS.out.step (bal b3 _)) (HS'.out.step (bal b3 _)) HW.out HT1.out).mono ?_
      intro e w4 hR
      obtain ⟨A4, n4, c4, rfl, hS4, hN4, hb4⟩ := RetA.flat hR
      obtain ⟨X3, hst⟩ := after1 hb4
      have b4 := bst b3 hst
      have S4 := Lib.hid hS4
      replace S3 := Lib.hid (S3.out.step hst)
      replace X0 := Bx.step X0 hst
      replace X1 := Bx.step X1 hst
      clear c0 c1 hb4 hS4 hN4 hst hR
      have c0 : ∀ i, w4.cell? ⟨w.heap.size, i, none⟩ = _ := Bx.cell X0
      have c1 : ∀ i, w4.cell? ⟨w.heap.size + 1, i, none⟩ = _ := Bx.cell X1
      have q3 := Bx.lt X3
      have q0 := Bx.lt X0
      have q1 := Bx.lt X1
      go_wp2_with fail
      refine (mGrid_any _ _ _ _ _ _ _ xs _ _ _ _ _ _ _ ys _ _ (HS.out.step (bal b4 _)) (HS'.out.step (bal b4 _))  HT2.out).mono ?_
      intro e w5 hR
      obtain ⟨A5, n5, c5, rfl, hS5, hN5, hb5⟩ := RetA.flat hR
      obtain ⟨X4, hst⟩ := after1 hb5
      have b5 := bst b4 hst
      have S5 := Lib.hid hS5
      replace S3 := Lib.hid (S3.out.step hst)
      replace S4 := Lib.hid (S4.out.step hst)
      replace X0 := Bx.step X0 hst
      replace X1 := Bx.step X1 hst
      replace X3 := Bx.step X3 hst
      clear c0 c1 hb5 hS5 hN5 hst hR
      have c0 : ∀ i, w5.cell? ⟨w.heap.size, i, none⟩ = _ := Bx.cell X0
      have c1 : ∀ i, w5.cell? ⟨w.heap.size + 1, i, none⟩ = _ := Bx.cell X1
      have q4 := Bx.lt X4
      have q0 := Bx.lt X0
      have q1 := Bx.lt X1
      go_wp2_with fail
      refine (rGrid_any _ _ _ _ _ _ _ xs _ _ _ _ _ _ _ ys _ _ (HS.out.step (bal b5 _)) (HS'.out.step (bal b5 _)) HW.out HT2.out).mono ?_
      intro e w6 hR
      obtain ⟨A6, n6, c6, rfl, hS6, hN6, hb6⟩ := RetA.flat hR
      obtain ⟨X5, hst⟩ := after1 hb6
      have b6 := bst b5 hst
      have S6 := Lib.hid hS6
      replace S3 := Lib.hid (S3.out.step hst)
      replace S4 := Lib.hid (S4.out.step hst)
      replace S5 := Lib.hid (S5.out.step hst)
      replace X3 := Bx.step X3 hst
      replace X4 := Bx.step X4 hst
      clear c0 c1 hb6 hS6 hN6 hst hR X0 X1
      have c3 : ∀ i, w6.cell? ⟨w3.heap.size, i, none⟩ = _ := Bx.cell X3
      have c4 : ∀ i, w6.cell? ⟨w4.heap.size, i, none⟩ = _ := Bx.cell X4
      have q5 := Bx.lt X5
      have q3 := Bx.lt X3
      have q4 := Bx.lt X4
      go_wp2_with fail
      refine (alike_true _ _ _ _ _ _ _ _ zs3 _ _ _ _ (S3.out.step (below1 _ _)) (S4.out.step (below1 _ _))).mono ?_
      rintro e w7 ⟨rfl, hb7⟩
      obtain ⟨X6, hst⟩ := after1 hb7
      have b7 := bst b6 hst
      replace S5 := Lib.hid (S5.out.step hst)
      replace S6 := Lib.hid (S6.out.step hst)
      replace X5 := Bx.step X5 hst
      clear c3 c4 hb7 hst
      have c5 : ∀ i, w7.cell? ⟨w5.heap.size, i, none⟩ = _ := Bx.cell X5
      have c6 : ∀ i, w7.cell? ⟨w6.heap.size, i, none⟩ = _ := Bx.cell X6
      go_wp2_with fail
      refine (alike_true _ _ _ _ _ _ _ _ zs5 _ _ _ _ S5.out S6.out).mono ?_
      rintro e w8 ⟨rfl, hb8⟩
      have b8 := bst b7 hb8
      clear c5 c6
      go_wp2_with fail
      refine (awake_any _).mono ?_
      rintro e w9 ⟨rfl, hbz⟩
      go_wp2
      go_ret
      exact ⟨rfl, bst b8 hbz⟩
end Go.Proofs.Ytoapgknkenlcgaa

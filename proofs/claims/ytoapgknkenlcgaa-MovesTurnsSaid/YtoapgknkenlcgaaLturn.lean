/-
  The law MovesTurns.
-/
import Derived.Test.YtoapgknkenlcgaaLback
import Derived.Test.YtoapgknkenlcgaaRflip
namespace Go.Proofs.Ytoapgknkenlcgaa
open Go.RowKit

set_option maxHeartbeats 8000000 in
theorem turns_far (k r l0 l1 : Int) (A : Option Addr) (n c : Nat) (xs : List Int) (w : World) (hs : Sl w A n c xs) (hf : 405 < n) :
    Calls Try.prog 9 #[.agg #[.int .i64 k, .int .i64 r, .int .i64 l0, .int .i64 l1, .slice A n c]] w fun e w' => e = .returned (.bool true) ∧ Below w.heap.size w w' := by
  have HS := Lib.hid hs
  have SA := Lib.hid hs
  clear hs
  go_enter Try.func9, Try.ntmps9
  go_wp2_with fail
  refine (far_any _ _ _ _ _ _ _ _).mono ?_
  rintro e w1 ⟨rfl, hst⟩
  obtain ⟨XA, hst⟩ := after1 hst
  replace SA := Lib.hid (SA.out.step hst)
  have b : Below w.heap.size w w1 := hst
  clear hst
  rw [decide_eq_true hf]
  have dXA : ∀ i, w1.cell? ⟨w.heap.size, i, none⟩ = _ := Bx.cell XA
  have eXA : ∀ i, w1.frozen? ⟨w.heap.size, i, none⟩ = false := Bx.frozen XA
  have qXA := Bx.lt XA
  go_wp2_with fail
  refine (awake_any _).mono ?_
  rintro e wz ⟨rfl, hbz⟩
  go_wp2
  go_ret
  exact ⟨rfl, bst b hbz⟩
set_option maxHeartbeats 8000000 in
theorem turns_near (k r l0 l1 : Int) (A : Option Addr) (n c : Nat) (xs : List Int) (w : World) (hs : Sl w A n c xs) (hf : ¬ 405 < n) :
    Calls Try.prog 9 #[.agg #[.int .i64 k, .int .i64 r, .int .i64 l0, .int .i64 l1, .slice A n c]] w fun e w' => e = .returned (.bool true) ∧ Below w.heap.size w w' := by
  have HS := Lib.hid hs
  have SA := Lib.hid hs
  clear hs
  obtain ⟨⟨⟨k1, r1, u1, v1, zs1⟩, ec1⟩, hT1⟩ : ∃ R, sRavel ⟨k, r, l0, l1, xs⟩ = R := ⟨_, rfl⟩
  have HT1 := Lib.hid hT1
  clear hT1
  obtain ⟨⟨⟨k2, r2, u2, v2, zs2⟩, ec2⟩, hT2⟩ : ∃ R, sReverse ⟨k, r, l0, l1, xs⟩ = R := ⟨_, rfl⟩
  have HT2 := Lib.hid hT2
  clear hT2
  obtain ⟨⟨⟨k3, r3, u3, v3, zs3⟩, ec3⟩, hT3⟩ : ∃ R, sFlip ⟨k, r, l0, l1, xs⟩ = R := ⟨_, rfl⟩
  have HT3 := Lib.hid hT3
  clear hT3
  go_enter Try.func9, Try.ntmps9
  go_wp2_with fail
  refine (far_any _ _ _ _ _ _ _ _).mono ?_
  rintro e w1 ⟨rfl, hst⟩
  obtain ⟨XA, hst⟩ := after1 hst
  replace SA := Lib.hid (SA.out.step hst)
  have b : Below w.heap.size w w1 := hst
  clear hst
  rw [decide_eq_false hf]
  have dXA : ∀ i, w1.cell? ⟨w.heap.size, i, none⟩ = _ := Bx.cell XA
  have eXA : ∀ i, w1.frozen? ⟨w.heap.size, i, none⟩ = false := Bx.frozen XA
  have qXA := Bx.lt XA
  go_wp2_with fail
  refine (mRavel_any _ _ _ _ _ _ _ xs _ _ SA.out HT1.out).mono ?_
  intro e w2 hR
  obtain ⟨A2, n2, c2, rfl, hS2, hN2, hst⟩ := RetA.flat hR
  clear hR
  clear dXA eXA qXA
  replace XA := Bx.step XA hst
  replace SA := Lib.hid (SA.out.step hst)
  replace b : Below w.heap.size w w2 := bst b hst
  clear hst
  have S1 := Lib.hid hS2
  have NS1 := Lib.hid hN2
  clear hS2 hN2
  have zXB := b.size
  have nx_XA_XB := Nat.ne_of_lt (Bx.lt XA)
  have dXA : ∀ i, w2.cell? ⟨w.heap.size, i, none⟩ = _ := Bx.cell XA
  have eXA : ∀ i, w2.frozen? ⟨w.heap.size, i, none⟩ = false := Bx.frozen XA
  have qXA := Bx.lt XA
  go_wp2_with fail
  refine (rRavel_any _ _ _ _ _ _ _ xs _ _ (SA.out.step (below1 _ _ )) HT1.out).mono ?_
  intro e w3 hR
  obtain ⟨A3, n3, c3, rfl, hS3, hN3, hst⟩ := RetA.flat hR
  clear hR
  clear dXA eXA qXA
  obtain ⟨XB, hst⟩ := after1 hst
  replace XA := Bx.step XA hst
  replace SA := Lib.hid (SA.out.step hst)
  replace S1 := Lib.hid (S1.out.step hst)
  replace b : Below w.heap.size w w3 := bst b hst
  clear hst
  have S2 := Lib.hid hS3
  have NS2 := Lib.hid hN3
  clear hS3 hN3
  have zXC := b.size
  have nx_XA_XC := Nat.ne_of_lt (Bx.lt XA)
  have nx_XB_XC := Nat.ne_of_lt (Bx.lt XB)
  have nx_XC_XB := Ne.symm nx_XB_XC
  have ne_SA_XB := Lib.hid (HS.out.ne_lo zXB)
  have ne_SA_XC := Lib.hid (HS.out.ne_lo zXC)
  have dXA : ∀ i, w3.cell? ⟨w.heap.size, i, none⟩ = _ := Bx.cell XA
  have eXA : ∀ i, w3.frozen? ⟨w.heap.size, i, none⟩ = false := Bx.frozen XA
  have qXA := Bx.lt XA
  have dXB : ∀ i, w3.cell? ⟨w2.heap.size, i, none⟩ = _ := Bx.cell XB
  have eXB : ∀ i, w3.frozen? ⟨w2.heap.size, i, none⟩ = false := Bx.frozen XB
  have qXB := Bx.lt XB
  go_wp2_with fail
  refine (alike_true _ _ _ _ _ _ _ _ zs1 _ _ _ _ (S1.out.step (below1 _ _ )) (S2.out.step (below1 _ _ ))).mono ?_
  rintro e w4 ⟨rfl, hst⟩
  clear dXA eXA qXA dXB eXB qXB
  obtain ⟨XC, hst⟩ := after1 hst
  replace XA := Bx.step XA hst
  replace XB := Bx.step XB hst
  replace SA := Lib.hid (SA.out.step hst)
  replace S1 := Lib.hid (S1.out.step hst)
  replace S2 := Lib.hid (S2.out.step hst)
  replace b : Below w.heap.size w w4 := bst b hst
  clear hst
  have dXA : ∀ i, w4.cell? ⟨w.heap.size, i, none⟩ = _ := Bx.cell XA
  have eXA : ∀ i, w4.frozen? ⟨w.heap.size, i, none⟩ = false := Bx.frozen XA
  have qXA := Bx.lt XA
  have dXB : ∀ i, w4.cell? ⟨w2.heap.size, i, none⟩ = _ := Bx.cell XB
  have eXB : ∀ i, w4.frozen? ⟨w2.heap.size, i, none⟩ = false := Bx.frozen XB
  have qXB := Bx.lt XB
  have dXC : ∀ i, w4.cell? ⟨w3.heap.size, i, none⟩ = _ := Bx.cell XC
  have eXC : ∀ i, w4.frozen? ⟨w3.heap.size, i, none⟩ = false := Bx.frozen XC
  have qXC := Bx.lt XC
  go_wp2_with fail
  clear S1
  clear S2
  clear NS1 NS2
  have hiB2 := Bx.lt XB
  have hiC2 := Bx.lt XC
  refine (mReverse_any _ _ _ _ _ _ _ xs _ _ SA.out HT2.out).mono ?_
  intro e w5 hR
  obtain ⟨A5, n5, c5, rfl, hS5, hN5, hst⟩ := RetA.flat hR
  clear hR
  clear dXA eXA qXA dXB eXB qXB dXC eXC qXC
  replace XA := Bx.step XA hst
  replace XB := Bx.step XB hst
  replace XC := Bx.step XC hst
  replace SA := Lib.hid (SA.out.step hst)
  replace b : Below w.heap.size w w5 := bst b hst
  clear hst
  have S3 := Lib.hid hS5
  have NS3 := Lib.hid hN5
  clear hS5 hN5
  have ne_S3_XB := Lib.hid (New.ne_hi (n := n5) NS3.out hiB2)
  have ne_S3_XC := Lib.hid (New.ne_hi (n := n5) NS3.out hiC2)
  have dXA : ∀ i, w5.cell? ⟨w.heap.size, i, none⟩ = _ := Bx.cell XA
  have eXA : ∀ i, w5.frozen? ⟨w.heap.size, i, none⟩ = false := Bx.frozen XA
  have qXA := Bx.lt XA
  have dXB : ∀ i, w5.cell? ⟨w2.heap.size, i, none⟩ = _ := Bx.cell XB
  have eXB : ∀ i, w5.frozen? ⟨w2.heap.size, i, none⟩ = false := Bx.frozen XB
  have qXB := Bx.lt XB
  have dXC : ∀ i, w5.cell? ⟨w3.heap.size, i, none⟩ = _ := Bx.cell XC
  have eXC : ∀ i, w5.frozen? ⟨w3.heap.size, i, none⟩ = false := Bx.frozen XC
  have qXC := Bx.lt XC
  go_wp2_with fail
  have hiD2 := Bx.lt XC
  refine (rReverse_any _ _ _ _ _ _ _ xs _ _ (Sl.past5z SA.out _ _ _ _ _ (ne_SA_XB).out) HT2.out).mono ?_
  intro e w6 hR
  obtain ⟨A6, n6, c6, rfl, hS6, hN6, hst⟩ := RetA.flat hR
  clear hR
  clear dXA eXA qXA dXB eXB qXB dXC eXC qXC
  have hsz_XB := zXB
  replace XA := Bx.step (Bx.past5 XA _ _ _ _ _ nx_XA_XB) hst
  replace XB := Bx.step (Bx.set5 XB _ _ _ _ _) hst
  replace XC := Bx.step (Bx.past5 XC _ _ _ _ _ nx_XC_XB) hst
  replace SA := Lib.hid ((Sl.past5z SA.out _ _ _ _ _ (ne_SA_XB).out).step hst)
  replace S3 := Lib.hid ((Sl.past5z S3.out _ _ _ _ _ (ne_S3_XB).out).step hst)
  replace b : Below w.heap.size w w6 := bst (below_set5 b zXB _ _ _ _ _) hst
  clear hst
  have S4 := Lib.hid hS6
  have NS4 := Lib.hid hN6
  clear hS6 hN6
  have ne_S4_XC := Lib.hid (New.ne_hi (n := n6) NS4.out (by have := hiD2; simpa [World.setCell] using this))
  have dXA : ∀ i, w6.cell? ⟨w.heap.size, i, none⟩ = _ := Bx.cell XA
  have eXA : ∀ i, w6.frozen? ⟨w.heap.size, i, none⟩ = false := Bx.frozen XA
  have qXA := Bx.lt XA
  have dXB : ∀ i, w6.cell? ⟨w2.heap.size, i, none⟩ = _ := Bx.cell XB
  have eXB : ∀ i, w6.frozen? ⟨w2.heap.size, i, none⟩ = false := Bx.frozen XB
  have qXB := Bx.lt XB
  have dXC : ∀ i, w6.cell? ⟨w3.heap.size, i, none⟩ = _ := Bx.cell XC
  have eXC : ∀ i, w6.frozen? ⟨w3.heap.size, i, none⟩ = false := Bx.frozen XC
  have qXC := Bx.lt XC
  go_wp2_with fail
  refine (alike_true _ _ _ _ _ _ _ _ zs2 _ _ _ _ (Sl.past5z S3.out _ _ _ _ _ (ne_S3_XC).out) (Sl.past5z S4.out _ _ _ _ _ (ne_S4_XC).out)).mono ?_
  rintro e w7 ⟨rfl, hst⟩
  clear dXA eXA qXA dXB eXB qXB dXC eXC qXC
  have hsz_XC := zXC
  replace XA := Bx.step (Bx.past5 XA _ _ _ _ _ nx_XA_XC) hst
  replace XB := Bx.step (Bx.past5 XB _ _ _ _ _ nx_XB_XC) hst
  replace XC := Bx.step (Bx.set5 XC _ _ _ _ _) hst
  replace SA := Lib.hid ((Sl.past5z SA.out _ _ _ _ _ (ne_SA_XC).out).step hst)
  replace S3 := Lib.hid ((Sl.past5z S3.out _ _ _ _ _ (ne_S3_XC).out).step hst)
  replace S4 := Lib.hid ((Sl.past5z S4.out _ _ _ _ _ (ne_S4_XC).out).step hst)
  replace b : Below w.heap.size w w7 := bst (below_set5 b zXC _ _ _ _ _) hst
  clear hst
  have dXA : ∀ i, w7.cell? ⟨w.heap.size, i, none⟩ = _ := Bx.cell XA
  have eXA : ∀ i, w7.frozen? ⟨w.heap.size, i, none⟩ = false := Bx.frozen XA
  have qXA := Bx.lt XA
  have dXB : ∀ i, w7.cell? ⟨w2.heap.size, i, none⟩ = _ := Bx.cell XB
  have eXB : ∀ i, w7.frozen? ⟨w2.heap.size, i, none⟩ = false := Bx.frozen XB
  have qXB := Bx.lt XB
  have dXC : ∀ i, w7.cell? ⟨w3.heap.size, i, none⟩ = _ := Bx.cell XC
  have eXC : ∀ i, w7.frozen? ⟨w3.heap.size, i, none⟩ = false := Bx.frozen XC
  have qXC := Bx.lt XC
  go_wp2_with fail
  clear S3
  clear S4
  clear NS3 NS4
  have hiB3 := Bx.lt XB
  have hiC3 := Bx.lt XC
  refine (mFlip_any _ _ _ _ _ _ _ xs _ _ SA.out HT3.out).mono ?_
  intro e w8 hR
  obtain ⟨A8, n8, c8, rfl, hS8, hN8, hst⟩ := RetA.flat hR
  clear hR
  clear dXA eXA qXA dXB eXB qXB dXC eXC qXC
  replace XA := Bx.step XA hst
  replace XB := Bx.step XB hst
  replace XC := Bx.step XC hst
  replace SA := Lib.hid (SA.out.step hst)
  replace b : Below w.heap.size w w8 := bst b hst
  clear hst
  have S5 := Lib.hid hS8
  have NS5 := Lib.hid hN8
  clear hS8 hN8
  have ne_S5_XB := Lib.hid (New.ne_hi (n := n8) NS5.out hiB3)
  have ne_S5_XC := Lib.hid (New.ne_hi (n := n8) NS5.out hiC3)
  have dXA : ∀ i, w8.cell? ⟨w.heap.size, i, none⟩ = _ := Bx.cell XA
  have eXA : ∀ i, w8.frozen? ⟨w.heap.size, i, none⟩ = false := Bx.frozen XA
  have qXA := Bx.lt XA
  have dXB : ∀ i, w8.cell? ⟨w2.heap.size, i, none⟩ = _ := Bx.cell XB
  have eXB : ∀ i, w8.frozen? ⟨w2.heap.size, i, none⟩ = false := Bx.frozen XB
  have qXB := Bx.lt XB
  have dXC : ∀ i, w8.cell? ⟨w3.heap.size, i, none⟩ = _ := Bx.cell XC
  have eXC : ∀ i, w8.frozen? ⟨w3.heap.size, i, none⟩ = false := Bx.frozen XC
  have qXC := Bx.lt XC
  go_wp2_with fail
  have hiD3 := Bx.lt XC
  refine (rFlip_any _ _ _ _ _ _ _ xs _ _ (Sl.past5z SA.out _ _ _ _ _ (ne_SA_XB).out) HT3.out).mono ?_
  intro e w9 hR
  obtain ⟨A9, n9, c9, rfl, hS9, hN9, hst⟩ := RetA.flat hR
  clear hR
  clear dXA eXA qXA dXB eXB qXB dXC eXC qXC
  have hsz_XB := zXB
  replace XA := Bx.step (Bx.past5 XA _ _ _ _ _ nx_XA_XB) hst
  replace XB := Bx.step (Bx.set5 XB _ _ _ _ _) hst
  replace XC := Bx.step (Bx.past5 XC _ _ _ _ _ nx_XC_XB) hst
  replace SA := Lib.hid ((Sl.past5z SA.out _ _ _ _ _ (ne_SA_XB).out).step hst)
  replace S5 := Lib.hid ((Sl.past5z S5.out _ _ _ _ _ (ne_S5_XB).out).step hst)
  replace b : Below w.heap.size w w9 := bst (below_set5 b zXB _ _ _ _ _) hst
  clear hst
  have S6 := Lib.hid hS9
  have NS6 := Lib.hid hN9
  clear hS9 hN9
  have ne_S6_XC := Lib.hid (New.ne_hi (n := n9) NS6.out (by have := hiD3; simpa [World.setCell] using this))
  have dXA : ∀ i, w9.cell? ⟨w.heap.size, i, none⟩ = _ := Bx.cell XA
  have eXA : ∀ i, w9.frozen? ⟨w.heap.size, i, none⟩ = false := Bx.frozen XA
  have qXA := Bx.lt XA
  have dXB : ∀ i, w9.cell? ⟨w2.heap.size, i, none⟩ = _ := Bx.cell XB
  have eXB : ∀ i, w9.frozen? ⟨w2.heap.size, i, none⟩ = false := Bx.frozen XB
  have qXB := Bx.lt XB
  have dXC : ∀ i, w9.cell? ⟨w3.heap.size, i, none⟩ = _ := Bx.cell XC
  have eXC : ∀ i, w9.frozen? ⟨w3.heap.size, i, none⟩ = false := Bx.frozen XC
  have qXC := Bx.lt XC
  go_wp2_with fail
  refine (alike_true _ _ _ _ _ _ _ _ zs3 _ _ _ _ (Sl.past5z S5.out _ _ _ _ _ (ne_S5_XC).out) (Sl.past5z S6.out _ _ _ _ _ (ne_S6_XC).out)).mono ?_
  rintro e w10 ⟨rfl, hst⟩
  clear dXA eXA qXA dXB eXB qXB dXC eXC qXC
  have hsz_XC := zXC
  replace XA := Bx.step (Bx.past5 XA _ _ _ _ _ nx_XA_XC) hst
  replace XB := Bx.step (Bx.past5 XB _ _ _ _ _ nx_XB_XC) hst
  replace XC := Bx.step (Bx.set5 XC _ _ _ _ _) hst
  replace SA := Lib.hid ((Sl.past5z SA.out _ _ _ _ _ (ne_SA_XC).out).step hst)
  replace S5 := Lib.hid ((Sl.past5z S5.out _ _ _ _ _ (ne_S5_XC).out).step hst)
  replace S6 := Lib.hid ((Sl.past5z S6.out _ _ _ _ _ (ne_S6_XC).out).step hst)
  replace b : Below w.heap.size w w10 := bst (below_set5 b zXC _ _ _ _ _) hst
  clear hst
  have dXA : ∀ i, w10.cell? ⟨w.heap.size, i, none⟩ = _ := Bx.cell XA
  have eXA : ∀ i, w10.frozen? ⟨w.heap.size, i, none⟩ = false := Bx.frozen XA
  have qXA := Bx.lt XA
  have dXB : ∀ i, w10.cell? ⟨w2.heap.size, i, none⟩ = _ := Bx.cell XB
  have eXB : ∀ i, w10.frozen? ⟨w2.heap.size, i, none⟩ = false := Bx.frozen XB
  have qXB := Bx.lt XB
  have dXC : ∀ i, w10.cell? ⟨w3.heap.size, i, none⟩ = _ := Bx.cell XC
  have eXC : ∀ i, w10.frozen? ⟨w3.heap.size, i, none⟩ = false := Bx.frozen XC
  have qXC := Bx.lt XC
  go_wp2_with fail
  clear S5
  clear S6
  clear NS5 NS6
  refine (awake_any _).mono ?_
  rintro e wz ⟨rfl, hbz⟩
  go_wp2
  go_ret
  exact ⟨rfl, bst b hbz⟩
theorem lawTurns_any (k r l0 l1 : Int) (A : Option Addr) (n c : Nat) (xs : List Int) (w : World) (hs : Sl w A n c xs) :
    Calls Try.prog 9 #[.agg #[.int .i64 k, .int .i64 r, .int .i64 l0, .int .i64 l1, .slice A n c]] w fun e w' => e = .returned (.bool true) ∧ Below w.heap.size w w' := by
  by_cases hf : 405 < n
  · exact turns_far k r l0 l1 A n c xs w hs hf
  · exact turns_near k r l0 l1 A n c xs w hs hf
end Go.Proofs.Ytoapgknkenlcgaa

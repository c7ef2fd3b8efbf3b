/-
  The laws ArraysChecks, ArraysCells, ArraysOrders: they return true.
-/
import Derived.Test.YtimpdfafodaadaaDoorAw6
namespace Go.Proofs.YtimpdfafodaadaaDoor
open Go.RowKit
attribute [local go_sem] Oper.semAt_some

set_option maxHeartbeats 4000000 in
theorem lawChecks6 (k r l0 l1 : Int) (A : Option Addr) (n c : Nat) (xs : List Int) (kd rk : Int) (w : World) (hs : Sl w A n c xs) (hT : Tab8 w) :
    Calls Tryd.prog 10 #[.agg #[.int .i64 k, .int .i64 r, .int .i64 l0, .int .i64 l1, .slice A n c], .int .i64 kd, .int .i64 rk] w fun e w' => e = .returned (.bool true) ∧ Below w.heap.size w w' := by
  have HS := Lib.hid hs
  have HT := Lib.hid hT
  have hcap := hs.cap
  have hmost := hs.most
  clear hs hT
  by_cases hf : 500 < n
  · have HF := Lib.hid (decide_eq_true hf)
    go_enter Tryd.func10, Tryd.ntmps10
    go_wp2_with fail
    refine (far6_any _ _ _ _ _ _ _ xs _ (HS.out.step (below1 _ _))).mono ?_
    rintro e w1 ⟨rfl, hb1⟩
    obtain ⟨X0, b1⟩ := after1 hb1
    rw [HF.out]
    go_wp2_with fail
    refine (awake_any _ (Tab8.step HT.out b1)).mono ?_
    rintro e wz ⟨rfl, hbz⟩
    go_wp2
    go_ret
    exact ⟨rfl, bst b1 hbz⟩
  · have HF := Lib.hid (decide_eq_false hf)
    have hn5 : n ≤ 1000000 := by omega
    obtain ⟨⟨⟨mk, mr, ml0, ml1, ms⟩, me⟩, hm⟩ : ∃ R, sMake ⟨k, r, l0, l1, xs⟩ = R := ⟨_, rfl⟩
    obtain ⟨⟨⟨zk, zr, zl0, zl1, zs⟩, ze⟩, hz⟩ : ∃ R, sZero kd rk = R := ⟨_, rfl⟩
    obtain ⟨ec, hec⟩ : ∃ ec, achk k r l0 l1 xs = ec := ⟨_, rfl⟩
    have HM := Lib.hid hm
    have HZ := Lib.hid hz
    have HC := Lib.hid hec
    clear hm hz hec hf
    go_enter Tryd.func10, Tryd.ntmps10
    go_wp2_with fail
    refine (far6_any _ _ _ _ _ _ _ xs _ (HS.out.step (below1 _ _))).mono ?_
    rintro e w1 ⟨rfl, hb1⟩
    obtain ⟨X0, b1⟩ := after1 hb1
    rw [HF.out]
    have c0 : ∀ i, w1.cell? ⟨w.heap.size, i, none⟩ = _ := Bx.cell X0
    have q0 := Bx.lt X0
    go_wp2_with fail
    refine (aMake_any k r l0 l1 A n c xs _ _ (HS.out.step b1) hn5 HM.out).mono ?_
    intro e w2 hR
    obtain ⟨A2, n2, c2, rfl, hS2, hN2, hb2⟩ := RetA.flat hR
    have S2 := Lib.hid hS2
    have b2 := bst b1 hb2
    replace X0 := Bx.step X0 hb2
    clear c0 q0 hR hS2 hN2 hb2
    have c0 : ∀ i, w2.cell? ⟨w.heap.size, i, none⟩ = _ := Bx.cell X0
    have q0 := Bx.lt X0
    go_wp2_with fail
    refine (rMake_any k r l0 l1 A n c xs _ _ (HS.out.step (bal b2 _)) hn5 HM.out).mono ?_
    intro e w3 hR
    obtain ⟨A3, n3, c3, rfl, hS3, hN3, hb3⟩ := RetA.flat hR
    have S3 := Lib.hid hS3
    replace X0 := Bx.step (Bx.alloc X0 _) hb3
    have S2 := Lib.hid ((S2.out.step (below1 _ _)).step hb3)
    obtain ⟨X2, hb3⟩ := after1 hb3
    have b3 := bst b2 hb3
    clear c0 q0 hR hS3 hN3 hb3
    have c0 : ∀ i, w3.cell? ⟨w.heap.size, i, none⟩ = _ := Bx.cell X0
    have q0 := Bx.lt X0
    have c2' : ∀ i, w3.cell? ⟨w2.heap.size, i, none⟩ = _ := Bx.cell X2
    have q2 := Bx.lt X2
    go_wp2_with fail
    refine (aZero_any kd rk _ _ HZ.out).mono ?_
    intro e w4 hR
    obtain ⟨A4, n4, c4, rfl, hS4, hN4, hb4⟩ := RetA.flat hR
    have S4 := Lib.hid hS4
    replace X0 := Bx.step (Bx.alloc X0 _) hb4
    replace X2 := Bx.step (Bx.alloc X2 _) hb4
    have S2 := Lib.hid ((S2.out.step (below1 _ _)).step hb4)
    have S3 := Lib.hid ((S3.out.step (below1 _ _)).step hb4)
    obtain ⟨X3, hb4⟩ := after1 hb4
    have b4 := bst b3 hb4
    clear c0 q0 c2' q2 hR hS4 hN4 hb4
    go_wp2_with fail
    refine (rZero_any kd rk _ _ HZ.out).mono ?_
    intro e w5 hR
    obtain ⟨A5, n5, c5, rfl, hS5, hN5, hb5⟩ := RetA.flat hR
    have S5 := Lib.hid hS5
    replace X0 := Bx.step (Bx.alloc X0 _) hb5
    replace X2 := Bx.step (Bx.alloc X2 _) hb5
    replace X3 := Bx.step (Bx.alloc X3 _) hb5
    have S2 := Lib.hid ((S2.out.step (below1 _ _)).step hb5)
    have S3 := Lib.hid ((S3.out.step (below1 _ _)).step hb5)
    have S4 := Lib.hid ((S4.out.step (below1 _ _)).step hb5)
    obtain ⟨X4, hb5⟩ := after1 hb5
    have b5 := bst b4 hb5
    clear hR hS5 hN5 hb5
    go_wp2_with fail
    obtain ⟨w6, hw6⟩ : ∃ w6, w5.alloc (.cells #[.int .i64 zk, .int .i64 zr, .int .i64 zl0, .int .i64 zl1, .slice A5 n5 c5] 25) = w6 := ⟨_, rfl⟩
    have hb6 : Below w5.heap.size w5 w6 := by rw [← hw6]; exact below1 _ _
    have X5 : Bx w6 w5.heap.size #[.int .i64 zk, .int .i64 zr, .int .i64 zl0, .int .i64 zl1, .slice A5 n5 c5] 25 := by rw [← hw6]; exact Bx.new _ _ _
    replace X0 := Bx.step X0 hb6
    replace X2 := Bx.step X2 hb6
    replace X3 := Bx.step X3 hb6
    replace X4 := Bx.step X4 hb6
    have S2 := Lib.hid (S2.out.step hb6)
    have S3 := Lib.hid (S3.out.step hb6)
    have S4 := Lib.hid (S4.out.step hb6)
    have S5 := Lib.hid (S5.out.step hb6)
    have b6 := bst b5 hb6
    rw [hw6]
    clear hw6 hb6
    have hee : (ec == ec) = true := by simp
    have hmm : (me == me) = true := by simp
    have hzz : (ze == ze) = true := by simp
    have hS : ∀ u, Below w6.heap.size w6 u → (∀ i, u.cell? ⟨w.heap.size, i, none⟩ = #[.int .i64 k, .int .i64 r, .int .i64 l0, .int .i64 l1, .slice A n c][i]?) ∧ (∀ i, u.cell? ⟨w2.heap.size, i, none⟩ = #[.int .i64 mk, .int .i64 mr, .int .i64 ml0, .int .i64 ml1, .slice A2 n2 c2][i]?) ∧ (∀ i, u.cell? ⟨w3.heap.size, i, none⟩ = #[.int .i64 mk, .int .i64 mr, .int .i64 ml0, .int .i64 ml1, .slice A3 n3 c3][i]?) ∧ (∀ i, u.cell? ⟨w4.heap.size, i, none⟩ = #[.int .i64 zk, .int .i64 zr, .int .i64 zl0, .int .i64 zl1, .slice A4 n4 c4][i]?) ∧ (∀ i, u.cell? ⟨w5.heap.size, i, none⟩ = #[.int .i64 zk, .int .i64 zr, .int .i64 zl0, .int .i64 zl1, .slice A5 n5 c5][i]?) := fun u h => ⟨Bx.cell (Bx.step X0 h), Bx.cell (Bx.step X2 h), Bx.cell (Bx.step X3 h), Bx.cell (Bx.step X4 h), Bx.cell (Bx.step X5 h)⟩
    have P0 : Below w6.heap.size w6 w6.drew := bdr (Below.refl _ _)
    have G0 := Lib.hid (HS.out.step (bst b6 P0))
    go_region_held3 (fun u => (∀ i, u.cell? ⟨w.heap.size, i, none⟩ = #[.int .i64 k, .int .i64 r, .int .i64 l0, .int .i64 l1, .slice A n c][i]?) ∧ (∀ i, u.cell? ⟨w2.heap.size, i, none⟩ = #[.int .i64 mk, .int .i64 mr, .int .i64 ml0, .int .i64 ml1, .slice A2 n2 c2][i]?) ∧ (∀ i, u.cell? ⟨w3.heap.size, i, none⟩ = #[.int .i64 mk, .int .i64 mr, .int .i64 ml0, .int .i64 ml1, .slice A3 n3 c3][i]?) ∧ (∀ i, u.cell? ⟨w4.heap.size, i, none⟩ = #[.int .i64 zk, .int .i64 zr, .int .i64 zl0, .int .i64 zl1, .slice A4 n4 c4][i]?) ∧ (∀ i, u.cell? ⟨w5.heap.size, i, none⟩ = #[.int .i64 zk, .int .i64 zr, .int .i64 zl0, .int .i64 zl1, .slice A5 n5 c5][i]?))
      (with_reducible first | exact hS _ P0 | exact hS _ P1 | exact hS _ P2 | exact hS _ P3 | exact hS _ P4 | exact hS _ P5)
      (first
        | (go_at_call 30; (with_reducible refine (acheck_any k r l0 l1 A n c xs ec _ G0.out HC.out).mono ?_); rintro e u1 ⟨rfl, hb1⟩; have P1 := bst P0 hb1; have G1 := Lib.hid (G0.out.step hb1))
        | (go_at_call 42; (with_reducible refine (racheck_any k r l0 l1 A n c xs ec _ G1.out HC.out).mono ?_); rintro e u2 ⟨rfl, hb2⟩; have P2 := bst P1 hb2; have G2 := Lib.hid (S2.out.step P2); have G3 := Lib.hid (S3.out.step P2))
        | (go_at_call 19; (with_reducible refine (rsame_any mk mr ml0 ml1 A2 n2 c2 ms mk mr ml0 ml1 A3 n3 c3 ms true _ G2.out G3.out (by simp)).mono ?_); rintro e u3 ⟨rfl, hb3⟩; have P3 := bst P2 hb3; have G4 := Lib.hid (S4.out.step P3); have G5 := Lib.hid (S5.out.step P3))
        | (go_at_call 19; (with_reducible refine (rsame_any zk zr zl0 zl1 A4 n4 c4 zs zk zr zl0 zl1 A5 n5 c5 zs true _ G4.out G5.out (by simp)).mono ?_); rintro e u4 ⟨rfl, hb4⟩; have P4 := bst P3 hb4)
        | (go_at_call 12; (with_reducible refine (awake_any _ (Tab8.step HT.out (bst b6 P4))).mono ?_); rintro e u5 ⟨rfl, hb5⟩; have P5 := bst P4 hb5))
    all_goals go_wp2
    all_goals go_ret
    all_goals exact ⟨rfl, bst b6 P5⟩
end Go.Proofs.YtimpdfafodaadaaDoor

/-
  The laws ArraysCells, ArraysOrders: they return true.
-/
import Derived.Test.YtimpdfafodaadaaDoorAw6
namespace Go.Proofs.YtimpdfafodaadaaDoor
open Go.RowKit
attribute [local go_sem] Oper.semAt_some

set_option maxHeartbeats 4000000 in
theorem lawCells6 (k r l0 l1 : Int) (A : Option Addr) (n c : Nat) (xs : List Int) (i0 i1 v : Int) (w : World) (hs : Sl w A n c xs) (hT : Tab8 w) :
    Calls Tryd.prog 5 #[.agg #[.int .i64 k, .int .i64 r, .int .i64 l0, .int .i64 l1, .slice A n c], .agg #[.int .i64 i0, .int .i64 i1], .int .i64 v] w fun e w' => e = .returned (.bool true) ∧ Below w.heap.size w w' := by
  have HS := Lib.hid hs
  have HT := Lib.hid hT
  have hcap := hs.cap
  have hmost := hs.most
  clear hs hT
  by_cases hf : 500 < n
  · have HF := Lib.hid (decide_eq_true hf)
    go_enter Tryd.func5, Tryd.ntmps5
    go_wp2_with fail
    refine (far6_any _ _ _ _ _ _ _ xs _ (HS.out.step (below2 _ _ _))).mono ?_
    rintro e w1 ⟨rfl, hb1⟩
    obtain ⟨X0, X1, b1⟩ := after2 hb1
    rw [HF.out]
    go_wp2_with fail
    refine (awake_any _ (Tab8.step HT.out b1)).mono ?_
    rintro e wz ⟨rfl, hbz⟩
    go_wp2
    go_ret
    exact ⟨rfl, bst b1 hbz⟩
  · have HF := Lib.hid (decide_eq_false hf)
    obtain ⟨⟨y, ye⟩, hy⟩ : ∃ R, sAt ⟨k, r, l0, l1, xs⟩ i0 i1 = R := ⟨_, rfl⟩
    obtain ⟨⟨⟨mk, mr, ml0, ml1, ms⟩, me⟩, hm⟩ : ∃ R, sWith ⟨k, r, l0, l1, xs⟩ i0 i1 v = R := ⟨_, rfl⟩
    have HY := Lib.hid hy
    have HM := Lib.hid hm
    clear hm hy hf
    go_enter Tryd.func5, Tryd.ntmps5
    go_wp2_with fail
    refine (far6_any _ _ _ _ _ _ _ xs _ (HS.out.step (below2 _ _ _))).mono ?_
    rintro e w1 ⟨rfl, hb1⟩
    obtain ⟨X0, X1, b1⟩ := after2 hb1
    rw [HF.out]
    have c0 : ∀ i, w1.cell? ⟨w.heap.size, i, none⟩ = _ := Bx.cell X0
    have c1 : ∀ i, w1.cell? ⟨w.heap.size + 1, i, none⟩ = _ := Bx.cell X1
    clear hb1
    go_wp2_with fail
    refine (aAt_any k r l0 l1 A n c xs i0 i1 y ye _ (HS.out.step b1) HY.out).mono ?_
    rintro e w2 ⟨rfl, hb2⟩
    have b2 := bst b1 hb2
    replace X0 := Bx.step X0 hb2
    replace X1 := Bx.step X1 hb2
    clear c0 c1 hb2
    have c0 : ∀ i, w2.cell? ⟨w.heap.size, i, none⟩ = _ := Bx.cell X0
    have c1 : ∀ i, w2.cell? ⟨w.heap.size + 1, i, none⟩ = _ := Bx.cell X1
    go_wp2_with fail
    refine (rAt_any k r l0 l1 A n c xs i0 i1 y ye _ (HS.out.step b2) HY.out).mono ?_
    rintro e w3 ⟨rfl, hb3⟩
    have b3 := bst b2 hb3
    replace X0 := Bx.step X0 hb3
    replace X1 := Bx.step X1 hb3
    clear c0 c1 hb3
    have c0 : ∀ i, w3.cell? ⟨w.heap.size, i, none⟩ = _ := Bx.cell X0
    have c1 : ∀ i, w3.cell? ⟨w.heap.size + 1, i, none⟩ = _ := Bx.cell X1
    go_wp2_with fail
    refine (aWith_any k r l0 l1 A n c xs i0 i1 v _ _ (HS.out.step b3) HM.out).mono ?_
    intro e w4 hR
    obtain ⟨A4, n4, c4, rfl, hS4, hN4, hb4⟩ := RetA.flat hR
    have S4 := Lib.hid hS4
    have b4 := bst b3 hb4
    replace X0 := Bx.step X0 hb4
    replace X1 := Bx.step X1 hb4
    clear c0 c1 hb4 hR hS4 hN4
    have c0 : ∀ i, w4.cell? ⟨w.heap.size, i, none⟩ = _ := Bx.cell X0
    have c1 : ∀ i, w4.cell? ⟨w.heap.size + 1, i, none⟩ = _ := Bx.cell X1
    have q0 := Bx.lt X0
    have q1 := Bx.lt X1
    go_wp2_with fail
    refine (rWith_any k r l0 l1 A n c xs i0 i1 v _ _ (HS.out.step (bal b4 _)) HM.out).mono ?_
    intro e w5 hR
    obtain ⟨A5, n5, c5, rfl, hS5, hN5, hb5⟩ := RetA.flat hR
    have S4 := Lib.hid ((S4.out.step (below1 _ _)).step hb5)
    obtain ⟨X4, hst⟩ := after1 hb5
    have S5 := Lib.hid hS5
    have b5 := bst b4 hst
    clear c0 c1 q0 q1 X0 X1 hb5 hst hR hS5 hN5
    have d4 : ∀ i, w5.cell? ⟨w4.heap.size, i, none⟩ = _ := Bx.cell X4
    have q4 := Bx.lt X4
    have hyy : (y == y) = true := by simp
    have hye : (ye == ye) = true := by simp
    have hmm : (me == me) = true := by simp
    go_wp2_with fail
    refine (rsame_any mk mr ml0 ml1 A4 n4 c4 ms mk mr ml0 ml1 A5 n5 c5 ms true _ (S4.out.step (below1 _ _)) (S5.out.step (below1 _ _)) (by simp)).mono ?_
    rintro e w6 ⟨rfl, hb6⟩
    have b6 := bst (bal b5 _) hb6
    clear d4 q4
    go_wp2_with fail
    refine (awake_any _ (Tab8.step HT.out b6)).mono ?_
    rintro e wz ⟨rfl, hbz⟩
    go_wp2
    go_ret
    exact ⟨rfl, bst b6 hbz⟩
set_option maxHeartbeats 4000000 in
theorem lawOrders6 (k r l0 l1 : Int) (A : Option Addr) (n c : Nat) (xs : List Int) (k' r' l0' l1' : Int) (A' : Option Addr) (n' c' : Nat) (ys : List Int) (w : World) (hs : Sl w A n c xs) (hs' : Sl w A' n' c' ys) (hT : Tab8 w) :
    Calls Tryd.prog 8 #[.agg #[.int .i64 k, .int .i64 r, .int .i64 l0, .int .i64 l1, .slice A n c], .agg #[.int .i64 k', .int .i64 r', .int .i64 l0', .int .i64 l1', .slice A' n' c']] w fun e w' => e = .returned (.bool true) ∧ Below w.heap.size w w' := by
  have HS := Lib.hid hs
  have HS' := Lib.hid hs'
  have HT := Lib.hid hT
  clear hs hs' hT
  by_cases hf : 500 < n
  · have HF := Lib.hid (decide_eq_true hf)
    clear hf
    go_enter Tryd.func8, Tryd.ntmps8
    go_wp2_with fail
    refine (far6_any _ _ _ _ _ _ _ xs _ (HS.out.step (below2 _ _ _))).mono ?_
    rintro e w1 ⟨rfl, hb1⟩
    obtain ⟨X0, X1, b1⟩ := after2 hb1
    rw [HF.out]
    go_wp2_with fail
    refine (awake_any _ (Tab8.step HT.out b1)).mono ?_
    rintro e wz ⟨rfl, hbz⟩
    go_wp2
    go_ret
    exact ⟨rfl, bst b1 hbz⟩
  · have HF := Lib.hid (decide_eq_false hf)
    clear hf
    by_cases hf' : 500 < n'
    · have HF' := Lib.hid (decide_eq_true hf')
      clear hf'
      go_enter Tryd.func8, Tryd.ntmps8
      go_wp2_with fail
      refine (far6_any _ _ _ _ _ _ _ xs _ (HS.out.step (below2 _ _ _))).mono ?_
      rintro e w1 ⟨rfl, hb1⟩
      obtain ⟨X0, X1, b1⟩ := after2 hb1
      have c1 : ∀ i, w1.cell? ⟨w.heap.size + 1, i, none⟩ = _ := Bx.cell X1
      rw [HF.out]
      go_wp2_with fail
      refine (far6_any _ _ _ _ _ _ _ ys _ (HS'.out.step b1)).mono ?_
      rintro e w2 ⟨rfl, hb2⟩
      have b2 := bst b1 hb2
      rw [HF'.out]
      clear c1
      go_wp2_with fail
      refine (awake_any _ (Tab8.step HT.out b2)).mono ?_
      rintro e wz ⟨rfl, hbz⟩
      go_wp2
      go_ret
      exact ⟨rfl, bst b2 hbz⟩
    · have HF' := Lib.hid (decide_eq_false hf')
      clear hf'
      obtain ⟨⟨y, ye⟩, hy⟩ : ∃ R, sCompare ⟨k, r, l0, l1, xs⟩ ⟨k', r', l0', l1', ys⟩ = R := ⟨_, rfl⟩
      have HY := Lib.hid hy
      clear hy
      go_enter Tryd.func8, Tryd.ntmps8
      go_wp2_with fail
      refine (far6_any _ _ _ _ _ _ _ xs _ (HS.out.step (below2 _ _ _))).mono ?_
      rintro e w1 ⟨rfl, hb1⟩
      obtain ⟨X0, X1, b1⟩ := after2 hb1
      have c1 : ∀ i, w1.cell? ⟨w.heap.size + 1, i, none⟩ = _ := Bx.cell X1
      rw [HF.out]
      go_wp2_with fail
      refine (far6_any _ _ _ _ _ _ _ ys _ (HS'.out.step b1)).mono ?_
      rintro e w2 ⟨rfl, hb2⟩
      have b2 := bst b1 hb2
      rw [HF'.out]
      replace X0 := Bx.step X0 hb2
      replace X1 := Bx.step X1 hb2
      clear c1 hb1 hb2
      have c0 : ∀ i, w2.cell? ⟨w.heap.size, i, none⟩ = _ := Bx.cell X0
      have c1 : ∀ i, w2.cell? ⟨w.heap.size + 1, i, none⟩ = _ := Bx.cell X1
      go_wp2_with fail
      refine (aCompare_any k r l0 l1 A n c xs k' r' l0' l1' A' n' c' ys y ye _ (HS.out.step b2) (HS'.out.step b2) HY.out).mono ?_
      rintro e w3 ⟨rfl, hb3⟩
      have b3 := bst b2 hb3
      replace X0 := Bx.step X0 hb3
      replace X1 := Bx.step X1 hb3
      clear c0 c1 hb3
      have c0 : ∀ i, w3.cell? ⟨w.heap.size, i, none⟩ = _ := Bx.cell X0
      have c1 : ∀ i, w3.cell? ⟨w.heap.size + 1, i, none⟩ = _ := Bx.cell X1
      go_wp2_with fail
      refine (rCompare_any k r l0 l1 A n c xs k' r' l0' l1' A' n' c' ys y ye _ (HS.out.step b3) (HS'.out.step b3) HY.out).mono ?_
      rintro e w4 ⟨rfl, hb4⟩
      have b4 := bst b3 hb4
      replace X0 := Bx.step X0 hb4
      replace X1 := Bx.step X1 hb4
      clear c0 c1 hb4
      go_wp2_with fail
      obtain ⟨t, ht⟩ : ∃ t, decide (k = k' ∧ r = r' ∧ l0 = l0' ∧ l1 = l1' ∧ xs = ys) = t := ⟨_, rfl⟩
      obtain ⟨t2, ht2⟩ : ∃ t, decide (k = k' ∧ r = r' ∧ l0 = l0' ∧ l1 = l1') = t := ⟨_, rfl⟩
      have HT1 := Lib.hid ht
      have HT2 := Lib.hid ht2
      clear ht ht2
      have htt : (t == t) = true := by simp
      have htt2 : (t2 == t2) = true := by simp
      have hyy : (y == y) = true := by simp
      have hye : (ye == ye) = true := by simp
      have hS : ∀ u, Below w4.heap.size w4 u → (∀ i, u.cell? ⟨w.heap.size, i, none⟩ = #[.int .i64 k, .int .i64 r, .int .i64 l0, .int .i64 l1, .slice A n c][i]?) ∧ (∀ i, u.cell? ⟨w.heap.size + 1, i, none⟩ = #[.int .i64 k', .int .i64 r', .int .i64 l0', .int .i64 l1', .slice A' n' c'][i]?) := fun u h => ⟨Bx.cell (Bx.step X0 h), Bx.cell (Bx.step X1 h)⟩
      have P0 : Below w4.heap.size w4 w4.drew := bdr (Below.refl _ _)
      have G0 := Lib.hid (HS.out.step (bst b4 P0))
      have G0' := Lib.hid (HS'.out.step (bst b4 P0))
      have C1 := asame_any k r l0 l1 A n c xs k' r' l0' l1' A' n' c' ys w4.drew G0.out G0'.out
      rw [HT1.out] at C1
      have D1 := Lib.hid C1
      clear C1
      go_region_held3 (fun u => (∀ i, u.cell? ⟨w.heap.size, i, none⟩ = #[.int .i64 k, .int .i64 r, .int .i64 l0, .int .i64 l1, .slice A n c][i]?) ∧ (∀ i, u.cell? ⟨w.heap.size + 1, i, none⟩ = #[.int .i64 k', .int .i64 r', .int .i64 l0', .int .i64 l1', .slice A' n' c'][i]?))
        (with_reducible first | exact hS _ P0 | exact hS _ P1 | exact hS _ P2 | exact hS _ P3 | exact hS _ P4 | exact hS _ P5)
        (first
          | (go_at_call 37; (with_reducible refine D1.out.mono ?_); rintro e u1 ⟨rfl, hb1⟩; have P1 := bst P0 hb1; have G1 := Lib.hid (G0.out.step hb1); have G1' := Lib.hid (G0'.out.step hb1))
          | (go_at_call 19; (with_reducible refine (rsame_any k r l0 l1 A n c xs k' r' l0' l1' A' n' c' ys t _ G1.out G1'.out HT1.out).mono ?_); rintro e u2 ⟨rfl, hb2⟩; have P2 := bst P1 hb2; have D3 := Lib.hid (HT2.out ▸ alike_any k r l0 l1 A n c k' r' l0' l1' A' n' c' u2))
          | (go_at_call 32; (with_reducible refine D3.out.mono ?_); rintro e u3 ⟨rfl, hb3⟩; have P3 := bst P2 hb3; have D4 := Lib.hid (HT2.out ▸ rlike_any k r l0 l1 A n c k' r' l0' l1' A' n' c' u3))
          | (go_at_call 38; (with_reducible refine D4.out.mono ?_); rintro e u4 ⟨rfl, hb4⟩; have P4 := bst P3 hb4)
          | (go_at_call 12; (with_reducible refine (awake_any _ (Tab8.step HT.out (bst b4 P4))).mono ?_); rintro e u5 ⟨rfl, hb5⟩; have P5 := bst P4 hb5))
      all_goals go_wp2
      all_goals go_ret
      all_goals exact ⟨rfl, bst b4 P5⟩
end Go.Proofs.YtimpdfafodaadaaDoor

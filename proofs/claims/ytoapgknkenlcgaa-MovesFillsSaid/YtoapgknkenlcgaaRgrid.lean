/-
  The reference's Grid.
-/
import Derived.Test.YtoapgknkenlcgaaRlen
import Derived.Test.YtoapgknkenlcgaaApp2
namespace Go.Proofs.Ytoapgknkenlcgaa
open Go.RowKit

theorem lensE_ok {l : List Int} (h : lensE l = 0) : ∃ x z, l = [x, z] ∧ 0 ≤ x ∧ 0 ≤ z ∧ x ≤ 400 ∧ z ≤ 400 ∧ x * z ≤ 400 := by
  by_cases hl : l.length = 2
  · match l, hl with
    | [x, z], _ =>
      rw [lensE_two] at h
      split at h
      · cases h
      split at h
      · cases h
      exact ⟨x, z, rfl, by omega, by omega, by omega, by omega, by omega⟩
  · rw [lensE_len hl] at h; cases h

set_option maxHeartbeats 8000000 in
theorem rGrid_any (k r l0 l1 : Int) (A : Option Addr) (n c : Nat) (xs : List Int) (k' r' l0' l1' : Int) (A' : Option Addr) (n' c' : Nat) (ys : List Int) (R : Arr × Int) (w : World)
    (hs : Sl w A n c xs) (hs' : Sl w A' n' c' ys) (hwf : ∀ x ∈ xs, -9223372036854775808 ≤ x ∧ x ≤ 9223372036854775807) (h : sGrid ⟨k, r, l0, l1, xs⟩ ⟨k', r', l0', l1', ys⟩ = R) :
    Calls Try.prog 21 #[.agg #[.int .i64 k, .int .i64 r, .int .i64 l0, .int .i64 l1, .slice A n c], .agg #[.int .i64 k', .int .i64 r', .int .i64 l0', .int .i64 l1', .slice A' n' c']] w (RetA w R) := by
  by_cases h0 : twoE ⟨k, r, l0, l1, xs⟩ ⟨k', r', l0', l1', ys⟩ 1 1 = 0
  · have H0 := Lib.hid h0
    have HS := Lib.hid hs
    have HS' := Lib.hid hs'
    have HW := Lib.hid hwf
    by_cases hl : lensE xs = 0
    · obtain ⟨x, z, rfl, hx0, hz0, hx4, hz4, hxz⟩ := lensE_ok hl
      obtain rfl : n = 2 := hs.len.symm
      obtain ⟨b, o, rfl, hbl, hcx⟩ := hs.at_ (k := 0) (by omega)
      have hcz := hs.cells 1 (by omega)
      rw [sGrid_two h0 rfl, if_neg (fun h' => h' hl)] at h
      have HCX := Lib.hid hcx
      have HCZ := Lib.hid hcz
      have hly := hs'.len
      have HLY := Lib.hid hly
      have HL := Lib.hid hl
      obtain ⟨N, hN⟩ : ∃ N : Nat, x * z = (N : Int) := ⟨(x * z).toNat, (Int.toNat_of_nonneg (Int.mul_nonneg (by omega) (by omega))).symm⟩
      have hlN : N ≤ 400 := by omega
      have e2 : IntKind.i64.wrap (x * z) = (N : Int) := by rw [hN]; exact IntWalk.i64_in _ (by omega)
      have e3 : IntKind.i64.wrap (N : Int) = (N : Int) := IntWalk.i64_in _ (by omega)
      rw [hN] at h
      clear hs hs' hcx hcz h0 hl hly hwf hxz hN
      by_cases hn0 : n' = 0
      · subst hn0
        by_cases hq : 0 < (N : Int)
        · have hR : R = (zA, 13) := by rw [← h]; exact if_pos ⟨HLY.out, hq⟩
          have HR := Lib.hid hR
          clear hR h
          go_enter Try.func21, Try.ntmps21
          go_wp2_with fail
          refine (rtwo_any _ _ _ _ _ _ _ [x, z] _ _ _ _ _ _ _ ys _ _ _ _ (HS.out.step (below3 _ _ _ _)) (HS'.out.step (below3 _ _ _ _)) H0.out).mono ?_
          rintro e w1 ⟨rfl, hb1⟩
          obtain ⟨X0, X1, X2, b1⟩ := after3 hb1
          clear hb1
          have q2 := Bx.lt X2
          have c0 : ∀ i, w1.cell? ⟨w.heap.size, i, none⟩ = _ := Bx.cell X0
          have c1 : ∀ i, w1.cell? ⟨w.heap.size + 1, i, none⟩ = _ := Bx.cell X1
          have c2 : ∀ i, w1.cell? ⟨w.heap.size + 1 + 1, i, none⟩ = _ := Bx.cell X2
          have f2 : ∀ i, w1.frozen? ⟨w.heap.size + 1 + 1, i, none⟩ = false := Bx.frozen X2
          go_wp2_with fail
          refine (lengths_any _ _ _ [x, z] _ (HS.out.step b1) HW.out).mono ?_
          rintro e w2 ⟨rfl, hb2⟩
          rw [HL.out]
          have d0 : ∀ i, w2.cell? ⟨w.heap.size, i, none⟩ = _ := (Bx.step X0 hb2).cell
          have d1 : ∀ i, w2.cell? ⟨w.heap.size + 1, i, none⟩ = _ := (Bx.step X1 hb2).cell
          have d2 : ∀ i, w2.cell? ⟨w.heap.size + 1 + 1, i, none⟩ = _ := (Bx.step X2 hb2).cell
          have k2 : ∀ i, w2.frozen? ⟨w.heap.size + 1 + 1, i, none⟩ = false := (Bx.step X2 hb2).frozen
          have b2 : Below w.heap.size w w2 := bst b1 hb2
          have Y0 := Bx.step X0 hb2
          have Y1 := Bx.step X1 hb2
          have Y2 := Bx.step X2 hb2
          clear c0 c1 c2 f2 X0 X1 X2 hb2
          have ex : w2.cell? ⟨b, o, none⟩ = some (.int .i64 x) := (b2.cell (p := ⟨b, o, none⟩) hbl).trans HCX.out
          have ez : w2.cell? ⟨b, o + 1, none⟩ = some (.int .i64 z) := (b2.cell (p := ⟨b, o + 1, none⟩) hbl).trans HCZ.out
          go_wp2
          go_quiet (fail)
          go_wp2
          refine retAE (B := w.heap.size + 1 + 1) rfl rfl rfl rfl (Bx.set5 (w := w2.drewN nq) Y2 _ _ _ _ _) ?_
          exact RetA.mk HR.out (Sl.nil _) (fun _ _ _ h => by cases h) (below_set5 (bdn b2 _) (by omega) _ _ _ _ _)
        · have hR : R = (⟨k', 2, x, z, again ys N⟩, 0) := by rw [← h, if_neg (fun h' => hq h'.2)]; rfl
          have hN0 : N = 0 ∨ 0 < 0 := .inl (by omega)
          have HR := Lib.hid hR
          have HN := Lib.hid hN0
          clear hR h hN0
          have HXZ := Lib.hid (show (Sl w (some ⟨b, o, none⟩) 2 c [x, z]) from HS.out)
          go_enter Try.func21, Try.ntmps21
          go_wp2_with fail
          refine (rtwo_any _ _ _ _ _ _ _ [x, z] _ _ _ _ _ _ _ ys _ _ _ _ (HS.out.step (below3 _ _ _ _)) (HS'.out.step (below3 _ _ _ _)) H0.out).mono ?_
          rintro e w1 ⟨rfl, hb1⟩
          obtain ⟨X0, X1, X2, b1⟩ := after3 hb1
          clear hb1
          have q2 := Bx.lt X2
          have c0 : ∀ i, w1.cell? ⟨w.heap.size, i, none⟩ = _ := Bx.cell X0
          have c1 : ∀ i, w1.cell? ⟨w.heap.size + 1, i, none⟩ = _ := Bx.cell X1
          have c2 : ∀ i, w1.cell? ⟨w.heap.size + 1 + 1, i, none⟩ = _ := Bx.cell X2
          have f2 : ∀ i, w1.frozen? ⟨w.heap.size + 1 + 1, i, none⟩ = false := Bx.frozen X2
          go_wp2_with fail
          refine (lengths_any _ _ _ [x, z] _ (HS.out.step b1) HW.out).mono ?_
          rintro e w2 ⟨rfl, hb2⟩
          rw [HL.out]
          have d0 : ∀ i, w2.cell? ⟨w.heap.size, i, none⟩ = _ := (Bx.step X0 hb2).cell
          have d1 : ∀ i, w2.cell? ⟨w.heap.size + 1, i, none⟩ = _ := (Bx.step X1 hb2).cell
          have d2 : ∀ i, w2.cell? ⟨w.heap.size + 1 + 1, i, none⟩ = _ := (Bx.step X2 hb2).cell
          have k2 : ∀ i, w2.frozen? ⟨w.heap.size + 1 + 1, i, none⟩ = false := (Bx.step X2 hb2).frozen
          have b2 : Below w.heap.size w w2 := bst b1 hb2
          have Y0 := Bx.step X0 hb2
          have Y1 := Bx.step X1 hb2
          have Y2 := Bx.step X2 hb2
          clear c0 c1 c2 f2 X0 X1 X2 hb2
          have ex : w2.cell? ⟨b, o, none⟩ = some (.int .i64 x) := (b2.cell (p := ⟨b, o, none⟩) hbl).trans HCX.out
          have ez : w2.cell? ⟨b, o + 1, none⟩ = some (.int .i64 z) := (b2.cell (p := ⟨b, o + 1, none⟩) hbl).trans HCZ.out
          go_wp2
          go_quiet (fail)
          go_wp2
          obtain ⟨w3, hw3⟩ : ∃ w3, w2.drewN nq = w3 := ⟨_, rfl⟩
          rw [hw3] at ⊢
          have b3 : Below w.heap.size w w3 := by rw [← hw3]; exact bdn b2 _
          have Z0 : Bx w3 w.heap.size #[.int .i64 k, .int .i64 r, .int .i64 l0, .int .i64 l1, .slice (some ⟨b, o, none⟩) 2 c] 25 := by rw [← hw3]; exact Y0
          have Z1 : Bx w3 (w.heap.size + 1) #[.int .i64 k', .int .i64 r', .int .i64 l0', .int .i64 l1', .slice A' 0 c'] 25 := by rw [← hw3]; exact Y1
          have Z2 : Bx w3 (w.heap.size + 1 + 1) #[.int .i64 0, .int .i64 0, .int .i64 0, .int .i64 0, .slice none 0 0] 25 := by rw [← hw3]; exact Y2
          clear hw3 d0 d1 d2 k2 ex ez Y0 Y1 Y2 b2
          have d0 : ∀ i, w3.cell? ⟨w.heap.size, i, none⟩ = _ := Z0.cell
          have ex : w3.cell? ⟨b, o, none⟩ = some (.int .i64 x) := (b3.cell (p := ⟨b, o, none⟩) hbl).trans HCX.out
          have ez : w3.cell? ⟨b, o + 1, none⟩ = some (.int .i64 z) := (b3.cell (p := ⟨b, o + 1, none⟩) hbl).trans HCZ.out
          go_quiet (fail)
          go_wp2
          obtain ⟨w4, hw4⟩ : ∃ w4, w3.drewN nq = w4 := ⟨_, rfl⟩
          rw [hw4] at ⊢
          have b4 : Below w.heap.size w w4 := by rw [← hw4]; exact bdn b3 _
          have T1 : Bx w4 (w.heap.size + 1) #[.int .i64 k', .int .i64 r', .int .i64 l0', .int .i64 l1', .slice A' 0 c'] 25 := by rw [← hw4]; exact Z1
          have T2 : Bx w4 (w.heap.size + 1 + 1) #[.int .i64 0, .int .i64 0, .int .i64 0, .int .i64 0, .slice none 0 0] 25 := by rw [← hw4]; exact Z2
          clear hw4 d0 ex ez Z0 Z1 Z2 b3
          go_loopw [7, 10] (fun v i wr => ∃ (j : Nat) (V : Option Addr) (vc : Nat), j ≤ N ∧ v = .slice V j vc ∧ i = .int .i64 j ∧ Below w4.heap.size w4 wr ∧ Hid (wr.ownsRow w4.heap.size 2 1 (.slice V j vc) j ((again ys j).map (Value.int .i64)))) (fun _ i _ => N - (intOf i).toNat)
          case atStart => exact ⟨0, none, 0, Nat.zero_le _, rfl, rfl, Below.refl _ _, Lib.hid (World.ownsRow_nil _ _ _ _)⟩
          case round =>
            obtain ⟨j, V, vc, hj, rfl, rfl, hb, HO⟩ := hrel
            have d1 : ∀ i, wr.cell? ⟨w.heap.size + 1, i, none⟩ = _ := (Bx.step T1 hb).cell
            have b0 : Below w.heap.size w wr := bst b4 hb
            by_cases hlt : j < N
            · omega
            · obtain rfl : j = N := by omega
              go_wp2_with fail
              obtain ⟨_, _, hv, hS, _⟩ := Sl.of_own HO.out
              cases hv
              refine (rMatrix_any k' x z V j vc (again ys j) _ hS (by omega)).mono ?_
              rintro e w5 ⟨⟨A3, n3, c3, rfl, hS3, hN3⟩, hb3⟩
              have B3 : Below w4.heap.size w4 w5 := bst hb hb3
              have g2 : ∀ i, w5.cell? ⟨w.heap.size + 1 + 1, i, none⟩ = _ := (Bx.step T2 B3).cell
              have k2 : ∀ i, w5.frozen? ⟨w.heap.size + 1 + 1, i, none⟩ = false := (Bx.step T2 B3).frozen
              have q2 := T2.lt
              have HS3 := Lib.hid hS3
              clear hS3 hS hb3
              go_wp2
              refine retAE (B := w.heap.size + 1 + 1) rfl rfl rfl rfl ((Bx.step T2 B3).set5 _ _ _ _ _) ?_
              have M3 : ∀ b o, A3 = some ⟨b, o, none⟩ → b ≠ w.heap.size + 1 + 1 := fun b o e => by have := hN3 b o none e; have := hb.size; omega
              have hm3 := hN3.mono (Nat.le_trans b4.size hb.size)
              exact RetA.mk HR.out (HS3.out.past5 _ _ _ _ _ M3) hm3 (below_set5 (bst b4 B3) (by omega) _ _ _ _ _)
      · have hR : R = (⟨k', 2, x, z, again ys N⟩, 0) := by rw [← h, if_neg (fun h' => hn0 (HLY.out.symm.trans h'.1))]; rfl
        have hN0 : N = 0 ∨ 0 < n' := .inr (by omega)
        have hn1 : (n' : Int) ≠ 0 := by omega
        have HR := Lib.hid hR
        have HN := Lib.hid hN0
        clear hR h hN0
        have HXZ := Lib.hid (show (Sl w (some ⟨b, o, none⟩) 2 c [x, z]) from HS.out)
        go_enter Try.func21, Try.ntmps21
        go_wp2_with fail
        refine (rtwo_any _ _ _ _ _ _ _ [x, z] _ _ _ _ _ _ _ ys _ _ _ _ (HS.out.step (below3 _ _ _ _)) (HS'.out.step (below3 _ _ _ _)) H0.out).mono ?_
        rintro e w1 ⟨rfl, hb1⟩
        obtain ⟨X0, X1, X2, b1⟩ := after3 hb1
        clear hb1
        have q2 := Bx.lt X2
        have c0 : ∀ i, w1.cell? ⟨w.heap.size, i, none⟩ = _ := Bx.cell X0
        have c1 : ∀ i, w1.cell? ⟨w.heap.size + 1, i, none⟩ = _ := Bx.cell X1
        have c2 : ∀ i, w1.cell? ⟨w.heap.size + 1 + 1, i, none⟩ = _ := Bx.cell X2
        have f2 : ∀ i, w1.frozen? ⟨w.heap.size + 1 + 1, i, none⟩ = false := Bx.frozen X2
        go_wp2_with fail
        refine (lengths_any _ _ _ [x, z] _ (HS.out.step b1) HW.out).mono ?_
        rintro e w2 ⟨rfl, hb2⟩
        rw [HL.out]
        have d0 : ∀ i, w2.cell? ⟨w.heap.size, i, none⟩ = _ := (Bx.step X0 hb2).cell
        have d1 : ∀ i, w2.cell? ⟨w.heap.size + 1, i, none⟩ = _ := (Bx.step X1 hb2).cell
        have d2 : ∀ i, w2.cell? ⟨w.heap.size + 1 + 1, i, none⟩ = _ := (Bx.step X2 hb2).cell
        have k2 : ∀ i, w2.frozen? ⟨w.heap.size + 1 + 1, i, none⟩ = false := (Bx.step X2 hb2).frozen
        have b2 : Below w.heap.size w w2 := bst b1 hb2
        have Y0 := Bx.step X0 hb2
        have Y1 := Bx.step X1 hb2
        have Y2 := Bx.step X2 hb2
        clear c0 c1 c2 f2 X0 X1 X2 hb2
        have ex : w2.cell? ⟨b, o, none⟩ = some (.int .i64 x) := (b2.cell (p := ⟨b, o, none⟩) hbl).trans HCX.out
        have ez : w2.cell? ⟨b, o + 1, none⟩ = some (.int .i64 z) := (b2.cell (p := ⟨b, o + 1, none⟩) hbl).trans HCZ.out
        go_wp2
        go_quiet (fail)
        go_wp2
        obtain ⟨w3, hw3⟩ : ∃ w3, w2.drewN nq = w3 := ⟨_, rfl⟩
        rw [hw3] at ⊢
        have b3 : Below w.heap.size w w3 := by rw [← hw3]; exact bdn b2 _
        have Z0 : Bx w3 w.heap.size #[.int .i64 k, .int .i64 r, .int .i64 l0, .int .i64 l1, .slice (some ⟨b, o, none⟩) 2 c] 25 := by rw [← hw3]; exact Y0
        have Z1 : Bx w3 (w.heap.size + 1) #[.int .i64 k', .int .i64 r', .int .i64 l0', .int .i64 l1', .slice A' n' c'] 25 := by rw [← hw3]; exact Y1
        have Z2 : Bx w3 (w.heap.size + 1 + 1) #[.int .i64 0, .int .i64 0, .int .i64 0, .int .i64 0, .slice none 0 0] 25 := by rw [← hw3]; exact Y2
        clear hw3 d0 d1 d2 k2 ex ez Y0 Y1 Y2 b2
        have d0 : ∀ i, w3.cell? ⟨w.heap.size, i, none⟩ = _ := Z0.cell
        have ex : w3.cell? ⟨b, o, none⟩ = some (.int .i64 x) := (b3.cell (p := ⟨b, o, none⟩) hbl).trans HCX.out
        have ez : w3.cell? ⟨b, o + 1, none⟩ = some (.int .i64 z) := (b3.cell (p := ⟨b, o + 1, none⟩) hbl).trans HCZ.out
        go_quiet (fail)
        go_wp2
        obtain ⟨w4, hw4⟩ : ∃ w4, w3.drewN nq = w4 := ⟨_, rfl⟩
        rw [hw4] at ⊢
        have b4 : Below w.heap.size w w4 := by rw [← hw4]; exact bdn b3 _
        have T1 : Bx w4 (w.heap.size + 1) #[.int .i64 k', .int .i64 r', .int .i64 l0', .int .i64 l1', .slice A' n' c'] 25 := by rw [← hw4]; exact Z1
        have T2 : Bx w4 (w.heap.size + 1 + 1) #[.int .i64 0, .int .i64 0, .int .i64 0, .int .i64 0, .slice none 0 0] 25 := by rw [← hw4]; exact Z2
        clear hw4 d0 ex ez Z0 Z1 Z2 b3
        go_loopw [7, 10] (fun v i wr => ∃ (j : Nat) (V : Option Addr) (vc : Nat), j ≤ N ∧ v = .slice V j vc ∧ i = .int .i64 j ∧ Below w4.heap.size w4 wr ∧ Hid (wr.ownsRow w4.heap.size 2 1 (.slice V j vc) j ((again ys j).map (Value.int .i64)))) (fun _ i _ => N - (intOf i).toNat)
        case atStart => exact ⟨0, none, 0, Nat.zero_le _, rfl, rfl, Below.refl _ _, Lib.hid (World.ownsRow_nil _ _ _ _)⟩
        case round =>
          obtain ⟨j, V, vc, hj, rfl, rfl, hb, HO⟩ := hrel
          have d1 : ∀ i, wr.cell? ⟨w.heap.size + 1, i, none⟩ = _ := (Bx.step T1 hb).cell
          have b0 : Below w.heap.size w wr := bst b4 hb
          by_cases hlt : j < N
          · obtain ⟨b', o', rfl, hbl', _⟩ := HS'.out.at_ (k := 0) (by omega)
            obtain ⟨q, hq⟩ : ∃ q, q = j % n' := ⟨_, rfl⟩
            have hrem : Int.tmod (j : Int) (n' : Int) = (q : Int) := by rw [hq]; rfl
            have hqn : q < n' := by rw [hq]; exact Nat.mod_lt _ (by omega)
            have hcy := HS'.out.cells q hqn
            have dy : wr.cell? ⟨b', o' + q, none⟩ = some (.int .i64 (ys.getD q 0)) := (b0.cell (p := ⟨b', o' + q, none⟩) hbl').trans hcy
            obtain ⟨y, hy⟩ : ∃ y, ys.getD q 0 = y := ⟨_, rfl⟩
            rw [hy] at dy
            have hst : again ys j ++ [y] = again ys (j + 1) := by rw [← again_succ, HLY.out, ← hq, hy]
            have HST := Lib.hid hst
            have HO1 := Lib.hid (HO.out.drew.alloc (.cells #[.int .i64 y] 2))
            have HS1 := Lib.hid (slOne wr.drew y)
            have hbz : w4.heap.size ≤ (wr.drew.alloc (.cells #[.int .i64 y] 2)).heap.size := (bal (bdr hb) _).size
            have HBZ := Lib.hid hbz
            have hq0 : (0 : Int) ≤ (q : Int) := by omega
            have hq1 : (q : Int) < (n' : Int) := by omega
            clear hbz hst hy hq hcy
            go_wp2_with fail
            go_region_law (refine step_append_sl rfl _ _ rfl rfl w4.heap.size _ j (again ys j) rfl HO1.out (some ⟨wr.heap.size, 0, none⟩) 1 1 [y] rfl HS1.out (by omega) HBZ.out ?_; intro A2 c2' w5 hg)
            all_goals
              go_wp2
              refine ⟨⟨j + 1, A2, c2', by omega, rfl, rfl, hg.below (bal (bdr hb) _) (fun k hk => (HO.out.lt k hk).1), ?_⟩, ?_⟩
              · rw [← HST.out]; exact Lib.hid hg.1
              · simp only [intOf]; omega
          · obtain rfl : j = N := by omega
            go_wp2_with fail
            obtain ⟨_, _, hv, hS, _⟩ := Sl.of_own HO.out
            cases hv
            refine (rMatrix_any k' x z V j vc (again ys j) _ hS (by omega)).mono ?_
            rintro e w5 ⟨⟨A3, n3, c3, rfl, hS3, hN3⟩, hb3⟩
            have B3 : Below w4.heap.size w4 w5 := bst hb hb3
            have g2 : ∀ i, w5.cell? ⟨w.heap.size + 1 + 1, i, none⟩ = _ := (Bx.step T2 B3).cell
            have k2 : ∀ i, w5.frozen? ⟨w.heap.size + 1 + 1, i, none⟩ = false := (Bx.step T2 B3).frozen
            have q2 := T2.lt
            have HS3 := Lib.hid hS3
            clear hS3 hS hb3
            go_wp2
            refine retAE (B := w.heap.size + 1 + 1) rfl rfl rfl rfl ((Bx.step T2 B3).set5 _ _ _ _ _) ?_
            have M3 : ∀ b o, A3 = some ⟨b, o, none⟩ → b ≠ w.heap.size + 1 + 1 := fun b o e => by have := hN3 b o none e; have := hb.size; omega
            have hm3 := hN3.mono (Nat.le_trans b4.size hb.size)
            exact RetA.mk HR.out (HS3.out.past5 _ _ _ _ _ M3) hm3 (below_set5 (bst b4 B3) (by omega) _ _ _ _ _)
    · have hR : R = (zA, lensE xs) := by
        rw [← h, sGrid_ok h0]
        exact if_pos hl
      obtain ⟨ec, hec⟩ : ∃ ec, lensE xs = ec := ⟨_, rfl⟩
      rw [hec] at hl hR
      have hne : (ec != 0) = true := by simpa using hl
      have hne' : (ec == 0) = false := by simpa using hl
      have HR := Lib.hid hR
      have HL := Lib.hid hec
      clear h hR hs hs' h0 hl hec hwf
      go_enter Try.func21, Try.ntmps21
      go_wp2_with fail
      refine (rtwo_any _ _ _ _ _ _ _ xs _ _ _ _ _ _ _ ys _ _ _ _ (HS.out.step (below3 _ _ _ _)) (HS'.out.step (below3 _ _ _ _)) H0.out).mono ?_
      rintro e w1 ⟨rfl, hb1⟩
      obtain ⟨X0, X1, X2, b1⟩ := after3 hb1
      clear hb1
      have q2 := Bx.lt X2
      have c0 : ∀ i, w1.cell? ⟨w.heap.size, i, none⟩ = _ := Bx.cell X0
      have c1 : ∀ i, w1.cell? ⟨w.heap.size + 1, i, none⟩ = _ := Bx.cell X1
      have c2 : ∀ i, w1.cell? ⟨w.heap.size + 1 + 1, i, none⟩ = _ := Bx.cell X2
      have f2 : ∀ i, w1.frozen? ⟨w.heap.size + 1 + 1, i, none⟩ = false := Bx.frozen X2
      go_wp2_with fail
      refine (lengths_any _ _ _ xs _ (HS.out.step b1) HW.out).mono ?_
      rintro e w2 ⟨rfl, hb2⟩
      rw [HL.out]
      have d0 : ∀ i, w2.cell? ⟨w.heap.size, i, none⟩ = _ := (Bx.step X0 hb2).cell
      have d1 : ∀ i, w2.cell? ⟨w.heap.size + 1, i, none⟩ = _ := (Bx.step X1 hb2).cell
      have d2 : ∀ i, w2.cell? ⟨w.heap.size + 1 + 1, i, none⟩ = _ := (Bx.step X2 hb2).cell
      have k2 : ∀ i, w2.frozen? ⟨w.heap.size + 1 + 1, i, none⟩ = false := (Bx.step X2 hb2).frozen
      have b2 : Below w.heap.size w w2 := bst b1 hb2
      have Y0 := Bx.step X0 hb2
      have Y1 := Bx.step X1 hb2
      have Y2 := Bx.step X2 hb2
      clear c0 c1 c2 f2 X0 X1 X2 hb2
      go_wp2
      go_quiet (fail)
      go_wp2
      refine retAE (B := w.heap.size + 1 + 1) rfl rfl rfl rfl (Bx.set5 (w := w2.drewN nq) Y2 _ _ _ _ _) ?_
      exact RetA.mk HR.out (Sl.nil _) (fun _ _ _ h => by cases h) (below_set5 (bdn b2 _) (by omega) _ _ _ _ _)
  · have he : (zA, twoE ⟨k, r, l0, l1, xs⟩ ⟨k', r', l0', l1', ys⟩ 1 1) = R := by
      rw [← h]; exact (sGrid_err h0).symm
    obtain ⟨ec, hec⟩ : ∃ ec, twoE ⟨k, r, l0, l1, xs⟩ ⟨k', r', l0', l1', ys⟩ 1 1 = ec := ⟨_, rfl⟩
    rw [hec] at h0 he
    have HEC := Lib.hid hec
    have HR := Lib.hid he
    have HS := Lib.hid hs
    have HS' := Lib.hid hs'
    have hne : (ec != 0) = true := by simpa using h0
    have hne' : (ec == 0) = false := by simpa using h0
    clear hec h0 he h hs hs'
    go_enter Try.func21, Try.ntmps21
    go_wp2_with fail
    refine (rtwo_any _ _ _ _ _ _ _ xs _ _ _ _ _ _ _ ys _ _ _ _ (HS.out.step (below3 _ _ _ _)) (HS'.out.step (below3 _ _ _ _)) HEC.out).mono ?_
    rintro e w1 ⟨rfl, hb1⟩
    obtain ⟨X0, X1, X2, b1⟩ := after3 hb1
    clear hb1
    have q2 := Bx.lt X2
    have c0 : ∀ i, w1.cell? ⟨w.heap.size, i, none⟩ = _ := Bx.cell X0
    have c1 : ∀ i, w1.cell? ⟨w.heap.size + 1, i, none⟩ = _ := Bx.cell X1
    have c2 : ∀ i, w1.cell? ⟨w.heap.size + 1 + 1, i, none⟩ = _ := Bx.cell X2
    have f2 : ∀ i, w1.frozen? ⟨w.heap.size + 1 + 1, i, none⟩ = false := Bx.frozen X2
    go_wp2
    go_quiet (fail)
    go_wp2
    refine retAE (B := w.heap.size + 1 + 1) rfl rfl rfl rfl (Bx.set5 (w := w1.drewN nq) X2 _ _ _ _ _) ?_
    exact RetA.mk HR.out.symm (Sl.nil _) (fun _ _ _ h => by cases h) (below_set5 (bdn b1 _) (by omega) _ _ _ _ _)
end Go.Proofs.Ytoapgknkenlcgaa

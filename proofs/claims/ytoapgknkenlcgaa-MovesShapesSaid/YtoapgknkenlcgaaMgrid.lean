/-
  moves.Grid.
-/
import Derived.Test.YtoapgknkenlcgaaMfil
namespace Go.Proofs.Ytoapgknkenlcgaa
open Go.RowKit

theorem lensE_len {l : List Int} (h : l.length ≠ 2) : lensE l = 11 := by unfold lensE; rw [if_pos h]
theorem lensE_two (x z : Int) : lensE [x, z] = if x < 0 ∨ z < 0 then 13 else if 400 < x ∨ 400 < z ∨ 400 < x * z then 15 else 0 := rfl
theorem lensE_neg {x z : Int} (h : x < 0 ∨ z < 0) : lensE [x, z] = 13 := by rw [lensE_two, if_pos h]
theorem lensE_big {x z : Int} (h : ¬ (x < 0 ∨ z < 0)) (h' : 400 < x ∨ 400 < z ∨ 400 < x * z) : lensE [x, z] = 15 := by rw [lensE_two, if_neg h, if_pos h']
theorem lensE_zero {x z : Int} (h : ¬ (x < 0 ∨ z < 0)) (h' : ¬ (400 < x ∨ 400 < z ∨ 400 < x * z)) : lensE [x, z] = 0 := by rw [lensE_two, if_neg h, if_neg h']
theorem sGrid_two {a v : Arr} {x z : Int} (h : twoE a v 1 1 = 0) (hx : a.c = [x, z]) : sGrid a v = if lensE [x, z] ≠ 0 then (zA, lensE [x, z]) else if v.c.length = 0 ∧ 0 < x * z then (zA, 13)
    else (matA v.k x z (again v.c (x * z).toNat), 0) := by
  rw [sGrid_ok h, hx]; rfl

set_option maxHeartbeats 4000000 in
theorem mGrid_any (k r l0 l1 : Int) (A : Option Addr) (n c : Nat) (xs : List Int) (k' r' l0' l1' : Int) (A' : Option Addr) (n' c' : Nat) (ys : List Int) (R : Arr × Int) (w : World)
    (hs : Sl w A n c xs) (hs' : Sl w A' n' c' ys) (h : sGrid ⟨k, r, l0, l1, xs⟩ ⟨k', r', l0', l1', ys⟩ = R) :
    Calls Try.prog 20 #[.agg #[.int .i64 k, .int .i64 r, .int .i64 l0, .int .i64 l1, .slice A n c], .agg #[.int .i64 k', .int .i64 r', .int .i64 l0', .int .i64 l1', .slice A' n' c']] w (RetA w R) := by
  by_cases h0 : twoE ⟨k, r, l0, l1, xs⟩ ⟨k', r', l0', l1', ys⟩ 1 1 = 0
  · have H0 := Lib.hid h0
    have HS := Lib.hid hs
    have HS' := Lib.hid hs'
    by_cases hl : xs.length = 2
    · obtain ⟨x, z, rfl⟩ : ∃ x z, xs = [x, z] := by
        match xs, hl with
        | [x, z], _ => exact ⟨x, z, rfl⟩
      obtain rfl : n = 2 := hs.len.symm
      obtain ⟨b, o, rfl, hbl, hcx⟩ := hs.at_ (k := 0) (by omega)
      have hcz := hs.cells 1 (by omega)
      rw [sGrid_two h0 rfl] at h
      have HCX := Lib.hid hcx
      have HCZ := Lib.hid hcz
      have hly := hs'.len
      have HLY := Lib.hid hly
      clear hs hs' hcx hcz h0 hl hly
      by_cases hx : x < 0
      · have hR : R = (zA, 13) := by rw [← h, lensE_neg (.inl hx)]; rfl
        have HR := Lib.hid hR
        clear hR h
        go_enter Try.func20, Try.ntmps20
        go_wp2_with fail
        refine (two_any _ _ _ _ _ _ _ [x, z] _ _ _ _ _ _ _ ys _ _ _ _ (HS.out.step (below3 _ _ _ _)) (HS'.out.step (below3 _ _ _ _)) H0.out).mono ?_
        rintro e w1 ⟨rfl, hb1⟩
        obtain ⟨X0, X1, X2, b1⟩ := after3 hb1
        clear hb1
        have q2 := Bx.lt X2
        have c0 : ∀ i, w1.cell? ⟨w.heap.size, i, none⟩ = _ := Bx.cell X0
        have c1 : ∀ i, w1.cell? ⟨w.heap.size + 1, i, none⟩ = _ := Bx.cell X1
        have c2 : ∀ i, w1.cell? ⟨w.heap.size + 1 + 1, i, none⟩ = _ := Bx.cell X2
        have f2 : ∀ i, w1.frozen? ⟨w.heap.size + 1 + 1, i, none⟩ = false := Bx.frozen X2
        have cx : w1.cell? ⟨b, o, none⟩ = some (.int .i64 x) := (b1.cell (p := ⟨b, o, none⟩) hbl).trans HCX.out
        have cz : w1.cell? ⟨b, o + 1, none⟩ = some (.int .i64 z) := (b1.cell (p := ⟨b, o + 1, none⟩) hbl).trans HCZ.out
        go_wp2
        go_quiet (fail)
        clear cx cz
        go_wp2
        refine retAE (B := w.heap.size + 1 + 1) rfl rfl rfl rfl (Bx.set5 (w := w1.drewN nq) X2 _ _ _ _ _) ?_
        exact RetA.mk HR.out (Sl.nil _) (fun _ _ _ h => by cases h) (below_set5 (bdn b1 _) (by omega) _ _ _ _ _)
      · by_cases hz : z < 0
        · have hR : R = (zA, 13) := by rw [← h, lensE_neg (.inr hz)]; rfl
          have HR := Lib.hid hR
          clear hR h
          go_enter Try.func20, Try.ntmps20
          go_wp2_with fail
          refine (two_any _ _ _ _ _ _ _ [x, z] _ _ _ _ _ _ _ ys _ _ _ _ (HS.out.step (below3 _ _ _ _)) (HS'.out.step (below3 _ _ _ _)) H0.out).mono ?_
          rintro e w1 ⟨rfl, hb1⟩
          obtain ⟨X0, X1, X2, b1⟩ := after3 hb1
          clear hb1
          have q2 := Bx.lt X2
          have c0 : ∀ i, w1.cell? ⟨w.heap.size, i, none⟩ = _ := Bx.cell X0
          have c1 : ∀ i, w1.cell? ⟨w.heap.size + 1, i, none⟩ = _ := Bx.cell X1
          have c2 : ∀ i, w1.cell? ⟨w.heap.size + 1 + 1, i, none⟩ = _ := Bx.cell X2
          have f2 : ∀ i, w1.frozen? ⟨w.heap.size + 1 + 1, i, none⟩ = false := Bx.frozen X2
          have cx : w1.cell? ⟨b, o, none⟩ = some (.int .i64 x) := (b1.cell (p := ⟨b, o, none⟩) hbl).trans HCX.out
          have cz : w1.cell? ⟨b, o + 1, none⟩ = some (.int .i64 z) := (b1.cell (p := ⟨b, o + 1, none⟩) hbl).trans HCZ.out
          go_wp2
          go_quiet (fail)
          clear cx cz
          go_wp2
          refine retAE (B := w.heap.size + 1 + 1) rfl rfl rfl rfl (Bx.set5 (w := w1.drewN nq) X2 _ _ _ _ _) ?_
          exact RetA.mk HR.out (Sl.nil _) (fun _ _ _ h => by cases h) (below_set5 (bdn b1 _) (by omega) _ _ _ _ _)
        · by_cases hx4 : 400 < x
          · have hR : R = (zA, 15) := by rw [← h, lensE_big (by omega) (.inl hx4)]; rfl
            have HR := Lib.hid hR
            clear hR h
            go_enter Try.func20, Try.ntmps20
            go_wp2_with fail
            refine (two_any _ _ _ _ _ _ _ [x, z] _ _ _ _ _ _ _ ys _ _ _ _ (HS.out.step (below3 _ _ _ _)) (HS'.out.step (below3 _ _ _ _)) H0.out).mono ?_
            rintro e w1 ⟨rfl, hb1⟩
            obtain ⟨X0, X1, X2, b1⟩ := after3 hb1
            clear hb1
            have q2 := Bx.lt X2
            have c0 : ∀ i, w1.cell? ⟨w.heap.size, i, none⟩ = _ := Bx.cell X0
            have c1 : ∀ i, w1.cell? ⟨w.heap.size + 1, i, none⟩ = _ := Bx.cell X1
            have c2 : ∀ i, w1.cell? ⟨w.heap.size + 1 + 1, i, none⟩ = _ := Bx.cell X2
            have f2 : ∀ i, w1.frozen? ⟨w.heap.size + 1 + 1, i, none⟩ = false := Bx.frozen X2
            have cx : w1.cell? ⟨b, o, none⟩ = some (.int .i64 x) := (b1.cell (p := ⟨b, o, none⟩) hbl).trans HCX.out
            have cz : w1.cell? ⟨b, o + 1, none⟩ = some (.int .i64 z) := (b1.cell (p := ⟨b, o + 1, none⟩) hbl).trans HCZ.out
            go_wp2
            go_quiet (fail)
            clear cx cz
            go_wp2
            refine retAE (B := w.heap.size + 1 + 1) rfl rfl rfl rfl (Bx.set5 (w := w1.drewN nq) X2 _ _ _ _ _) ?_
            exact RetA.mk HR.out (Sl.nil _) (fun _ _ _ h => by cases h) (below_set5 (bdn b1 _) (by omega) _ _ _ _ _)
          · by_cases hz4 : 400 < z
            · have hR : R = (zA, 15) := by rw [← h, lensE_big (by omega) (.inr (.inl hz4))]; rfl
              have HR := Lib.hid hR
              clear hR h
              go_enter Try.func20, Try.ntmps20
              go_wp2_with fail
              refine (two_any _ _ _ _ _ _ _ [x, z] _ _ _ _ _ _ _ ys _ _ _ _ (HS.out.step (below3 _ _ _ _)) (HS'.out.step (below3 _ _ _ _)) H0.out).mono ?_
              rintro e w1 ⟨rfl, hb1⟩
              obtain ⟨X0, X1, X2, b1⟩ := after3 hb1
              clear hb1
              have q2 := Bx.lt X2
              have c0 : ∀ i, w1.cell? ⟨w.heap.size, i, none⟩ = _ := Bx.cell X0
              have c1 : ∀ i, w1.cell? ⟨w.heap.size + 1, i, none⟩ = _ := Bx.cell X1
              have c2 : ∀ i, w1.cell? ⟨w.heap.size + 1 + 1, i, none⟩ = _ := Bx.cell X2
              have f2 : ∀ i, w1.frozen? ⟨w.heap.size + 1 + 1, i, none⟩ = false := Bx.frozen X2
              have cx : w1.cell? ⟨b, o, none⟩ = some (.int .i64 x) := (b1.cell (p := ⟨b, o, none⟩) hbl).trans HCX.out
              have cz : w1.cell? ⟨b, o + 1, none⟩ = some (.int .i64 z) := (b1.cell (p := ⟨b, o + 1, none⟩) hbl).trans HCZ.out
              go_wp2
              go_quiet (fail)
              clear cx cz
              go_wp2
              refine retAE (B := w.heap.size + 1 + 1) rfl rfl rfl rfl (Bx.set5 (w := w1.drewN nq) X2 _ _ _ _ _) ?_
              exact RetA.mk HR.out (Sl.nil _) (fun _ _ _ h => by cases h) (below_set5 (bdn b1 _) (by omega) _ _ _ _ _)
            · obtain ⟨N, hN⟩ : ∃ N : Nat, x * z = (N : Int) := ⟨(x * z).toNat, (Int.toNat_of_nonneg (Int.mul_nonneg (by omega) (by omega))).symm⟩
              have hN4 : (N : Int) ≤ 160000 := by
                rw [← hN]
                exact Int.le_trans (Int.mul_le_mul_of_nonneg_right (show x ≤ 400 by omega) (by omega)) (by omega)
              have e2 : IntKind.i64.wrap (x * z) = (N : Int) := by rw [hN]; exact IntWalk.i64_in _ (by omega)
              have e3 : IntKind.i64.wrap (N : Int) = (N : Int) := IntWalk.i64_in _ (by omega)
              by_cases hp : 400 < (N : Int)
              · have hR : R = (zA, 15) := by rw [← h, lensE_big (by omega) (.inr (.inr (by omega)))]; rfl
                have HR := Lib.hid hR
                clear hR h
                go_enter Try.func20, Try.ntmps20
                go_wp2_with fail
                refine (two_any _ _ _ _ _ _ _ [x, z] _ _ _ _ _ _ _ ys _ _ _ _ (HS.out.step (below3 _ _ _ _)) (HS'.out.step (below3 _ _ _ _)) H0.out).mono ?_
                rintro e w1 ⟨rfl, hb1⟩
                obtain ⟨X0, X1, X2, b1⟩ := after3 hb1
                clear hb1
                have q2 := Bx.lt X2
                have c0 : ∀ i, w1.cell? ⟨w.heap.size, i, none⟩ = _ := Bx.cell X0
                have c1 : ∀ i, w1.cell? ⟨w.heap.size + 1, i, none⟩ = _ := Bx.cell X1
                have c2 : ∀ i, w1.cell? ⟨w.heap.size + 1 + 1, i, none⟩ = _ := Bx.cell X2
                have f2 : ∀ i, w1.frozen? ⟨w.heap.size + 1 + 1, i, none⟩ = false := Bx.frozen X2
                have cx : w1.cell? ⟨b, o, none⟩ = some (.int .i64 x) := (b1.cell (p := ⟨b, o, none⟩) hbl).trans HCX.out
                have cz : w1.cell? ⟨b, o + 1, none⟩ = some (.int .i64 z) := (b1.cell (p := ⟨b, o + 1, none⟩) hbl).trans HCZ.out
                go_wp2
                go_quiet (fail)
                clear cx cz
                go_wp2
                refine retAE (B := w.heap.size + 1 + 1) rfl rfl rfl rfl (Bx.set5 (w := w1.drewN nq) X2 _ _ _ _ _) ?_
                exact RetA.mk HR.out (Sl.nil _) (fun _ _ _ h => by cases h) (below_set5 (bdn b1 _) (by omega) _ _ _ _ _)
              · rw [lensE_zero (by omega) (by omega), if_neg (fun h' => h' rfl), hN] at h
                have hlN : N ≤ 400 := by omega
                by_cases hn0 : n' = 0
                · subst hn0
                  by_cases hq : 0 < (N : Int)
                  · have hR : R = (zA, 13) := by rw [← h]; exact if_pos ⟨HLY.out, hq⟩
                    have HR := Lib.hid hR
                    clear hR h
                    go_enter Try.func20, Try.ntmps20
                    go_wp2_with fail
                    refine (two_any _ _ _ _ _ _ _ [x, z] _ _ _ _ _ _ _ ys _ _ _ _ (HS.out.step (below3 _ _ _ _)) (HS'.out.step (below3 _ _ _ _)) H0.out).mono ?_
                    rintro e w1 ⟨rfl, hb1⟩
                    obtain ⟨X0, X1, X2, b1⟩ := after3 hb1
                    clear hb1
                    have q2 := Bx.lt X2
                    have c0 : ∀ i, w1.cell? ⟨w.heap.size, i, none⟩ = _ := Bx.cell X0
                    have c1 : ∀ i, w1.cell? ⟨w.heap.size + 1, i, none⟩ = _ := Bx.cell X1
                    have c2 : ∀ i, w1.cell? ⟨w.heap.size + 1 + 1, i, none⟩ = _ := Bx.cell X2
                    have f2 : ∀ i, w1.frozen? ⟨w.heap.size + 1 + 1, i, none⟩ = false := Bx.frozen X2
                    have cx : w1.cell? ⟨b, o, none⟩ = some (.int .i64 x) := (b1.cell (p := ⟨b, o, none⟩) hbl).trans HCX.out
                    have cz : w1.cell? ⟨b, o + 1, none⟩ = some (.int .i64 z) := (b1.cell (p := ⟨b, o + 1, none⟩) hbl).trans HCZ.out
                    go_wp2
                    go_quiet (fail)
                    clear cx cz
                    go_wp2
                    refine retAE (B := w.heap.size + 1 + 1) rfl rfl rfl rfl (Bx.set5 (w := w1.drewN nq) X2 _ _ _ _ _) ?_
                    exact RetA.mk HR.out (Sl.nil _) (fun _ _ _ h => by cases h) (below_set5 (bdn b1 _) (by omega) _ _ _ _ _)
                  · have hR : R = (⟨k', 2, x, z, again ys N⟩, 0) := by rw [← h, if_neg (fun h' => hq h'.2)]; rfl
                    have hN0 : N = 0 ∨ 0 < 0 := .inl (by omega)
                    have HR := Lib.hid hR
                    have HN := Lib.hid hN0
                    clear hR h hN0
                    go_enter Try.func20, Try.ntmps20
                    go_wp2_with fail
                    refine (two_any _ _ _ _ _ _ _ [x, z] _ _ _ _ _ _ _ ys _ _ _ _ (HS.out.step (below3 _ _ _ _)) (HS'.out.step (below3 _ _ _ _)) H0.out).mono ?_
                    rintro e w1 ⟨rfl, hb1⟩
                    obtain ⟨X0, X1, X2, b1⟩ := after3 hb1
                    clear hb1
                    have q2 := Bx.lt X2
                    have c0 : ∀ i, w1.cell? ⟨w.heap.size, i, none⟩ = _ := Bx.cell X0
                    have c1 : ∀ i, w1.cell? ⟨w.heap.size + 1, i, none⟩ = _ := Bx.cell X1
                    have c2 : ∀ i, w1.cell? ⟨w.heap.size + 1 + 1, i, none⟩ = _ := Bx.cell X2
                    have f2 : ∀ i, w1.frozen? ⟨w.heap.size + 1 + 1, i, none⟩ = false := Bx.frozen X2
                    have cx : w1.cell? ⟨b, o, none⟩ = some (.int .i64 x) := (b1.cell (p := ⟨b, o, none⟩) hbl).trans HCX.out
                    have cz : w1.cell? ⟨b, o + 1, none⟩ = some (.int .i64 z) := (b1.cell (p := ⟨b, o + 1, none⟩) hbl).trans HCZ.out
                    go_wp2
                    go_quiet (fail)
                    clear cx cz
                    go_wp2_with fail
                    have b2 : Below w.heap.size w (w1.drewN nq) := bdn b1 _
                    obtain ⟨w2, hw2⟩ : ∃ w2, w1.drewN nq = w2 := ⟨_, rfl⟩
                    rw [hw2] at b2 ⊢
                    have Y1 : Bx w2 (w.heap.size + 1) #[.int .i64 k', .int .i64 r', .int .i64 l0', .int .i64 l1', .slice A' 0 c'] 25 := by rw [← hw2]; exact X1
                    have Y2 : Bx w2 (w.heap.size + 1 + 1) #[.int .i64 0, .int .i64 0, .int .i64 0, .int .i64 0, .slice none 0 0] 25 := by rw [← hw2]; exact X2
                    clear hw2 X0 X1 X2 b1 c0 c1 c2 f2
                    have d00 : w2.drew.cell? ⟨w.heap.size + 1, 0, none⟩ = some (.int .i64 k') := Y1.cell 0
                    have d04 : w2.drew.cell? ⟨w.heap.size + 1, 4, none⟩ = some (.slice A' 0 c') := Y1.cell 4
                    have B0 : Below w2.heap.size w2 w2.drew := bdr (Below.refl _ _)
                    have l2 := Y2.lt
                    go_region_held3 (fun w' => w'.cell? ⟨w.heap.size + 1, 0, none⟩ = some (.int .i64 k') ∧ w'.cell? ⟨w.heap.size + 1, 4, none⟩ = some (.slice A' 0 c'))
                      (first | (with_reducible exact ⟨d00, d04⟩) | (with_reducible exact ⟨d30, d34⟩) | (with_reducible exact ⟨d40, d44⟩) | (with_reducible exact ⟨(set5_cell _ _ _ _ _ _ _ (by omega)).trans d40, (set5_cell _ _ _ _ _ _ _ (by omega)).trans d44⟩))
                      (first
                        | (go_at_call 44; (with_reducible refine (repeat_any A' 0 c' N ys _ (HS'.out.step (bst b2 B0)) (by omega) HN.out).mono ?_); rintro e w3 ⟨⟨A3, c3, rfl, hS3, hN3⟩, hb3⟩; have B3 := bst B0 hb3; have d30 : w3.cell? ⟨w.heap.size + 1, 0, none⟩ = some (.int .i64 k') := (Y1.step B3).cell 0; have d34 : w3.cell? ⟨w.heap.size + 1, 4, none⟩ = some (.slice A' 0 c') := (Y1.step B3).cell 4)
                        | (go_at_call 45; (with_reducible refine (mmatrix_any k' x z A3 N c3 _).mono ?_); rintro e w4 ⟨rfl, hb4⟩; have B4 := bst B3 hb4; have d40 : w4.cell? ⟨w.heap.size + 1, 0, none⟩ = some (.int .i64 k') := (Y1.step B4).cell 0; have d44 : w4.cell? ⟨w.heap.size + 1, 4, none⟩ = some (.slice A' 0 c') := (Y1.step B4).cell 4; have g1 : ∀ i, w4.cell? ⟨w.heap.size + 1 + 1, i, none⟩ = _ := (Y2.step B4).cell; have k1 : ∀ i, w4.frozen? ⟨w.heap.size + 1 + 1, i, none⟩ = false := (Y2.step B4).frozen))
                    go_wp2
                    refine retAE (B := w.heap.size + 1 + 1) rfl rfl rfl rfl ((Y2.step B4).set5 _ _ _ _ _) ?_
                    have M3 : ∀ b o, A3 = some ⟨b, o, none⟩ → b ≠ w.heap.size + 1 + 1 := fun b o e => by have := hN3 b o none e; simp at this; omega
                    exact RetA.mk HR.out ((hS3.step hb4).past5 _ _ _ _ _ M3) (hN3.mono (Nat.le_trans b2.size B0.size)) (below_set5 (bst b2 B4) (by omega) _ _ _ _ _)
                · have hR : R = (⟨k', 2, x, z, again ys N⟩, 0) := by rw [← h, if_neg (fun h' => hn0 (HLY.out.symm.trans h'.1))]; rfl
                  have hN0 : N = 0 ∨ 0 < n' := .inr (by omega)
                  have hn1 : (n' : Int) ≠ 0 := by omega
                  have HR := Lib.hid hR
                  have HN := Lib.hid hN0
                  clear hR h hN0
                  go_enter Try.func20, Try.ntmps20
                  go_wp2_with fail
                  refine (two_any _ _ _ _ _ _ _ [x, z] _ _ _ _ _ _ _ ys _ _ _ _ (HS.out.step (below3 _ _ _ _)) (HS'.out.step (below3 _ _ _ _)) H0.out).mono ?_
                  rintro e w1 ⟨rfl, hb1⟩
                  obtain ⟨X0, X1, X2, b1⟩ := after3 hb1
                  clear hb1
                  have q2 := Bx.lt X2
                  have c0 : ∀ i, w1.cell? ⟨w.heap.size, i, none⟩ = _ := Bx.cell X0
                  have c1 : ∀ i, w1.cell? ⟨w.heap.size + 1, i, none⟩ = _ := Bx.cell X1
                  have c2 : ∀ i, w1.cell? ⟨w.heap.size + 1 + 1, i, none⟩ = _ := Bx.cell X2
                  have f2 : ∀ i, w1.frozen? ⟨w.heap.size + 1 + 1, i, none⟩ = false := Bx.frozen X2
                  have cx : w1.cell? ⟨b, o, none⟩ = some (.int .i64 x) := (b1.cell (p := ⟨b, o, none⟩) hbl).trans HCX.out
                  have cz : w1.cell? ⟨b, o + 1, none⟩ = some (.int .i64 z) := (b1.cell (p := ⟨b, o + 1, none⟩) hbl).trans HCZ.out
                  go_wp2
                  go_quiet (fail)
                  clear cx cz
                  go_wp2_with fail
                  have b2 : Below w.heap.size w (w1.drewN nq) := bdn b1 _
                  obtain ⟨w2, hw2⟩ : ∃ w2, w1.drewN nq = w2 := ⟨_, rfl⟩
                  rw [hw2] at b2 ⊢
                  have Y1 : Bx w2 (w.heap.size + 1) #[.int .i64 k', .int .i64 r', .int .i64 l0', .int .i64 l1', .slice A' n' c'] 25 := by rw [← hw2]; exact X1
                  have Y2 : Bx w2 (w.heap.size + 1 + 1) #[.int .i64 0, .int .i64 0, .int .i64 0, .int .i64 0, .slice none 0 0] 25 := by rw [← hw2]; exact X2
                  clear hw2 X0 X1 X2 b1 c0 c1 c2 f2
                  have d00 : w2.drew.cell? ⟨w.heap.size + 1, 0, none⟩ = some (.int .i64 k') := Y1.cell 0
                  have d04 : w2.drew.cell? ⟨w.heap.size + 1, 4, none⟩ = some (.slice A' n' c') := Y1.cell 4
                  have B0 : Below w2.heap.size w2 w2.drew := bdr (Below.refl _ _)
                  have l2 := Y2.lt
                  go_region_held3 (fun w' => w'.cell? ⟨w.heap.size + 1, 0, none⟩ = some (.int .i64 k') ∧ w'.cell? ⟨w.heap.size + 1, 4, none⟩ = some (.slice A' n' c'))
                    (first | (with_reducible exact ⟨d00, d04⟩) | (with_reducible exact ⟨d30, d34⟩) | (with_reducible exact ⟨d40, d44⟩) | (with_reducible exact ⟨(set5_cell _ _ _ _ _ _ _ (by omega)).trans d40, (set5_cell _ _ _ _ _ _ _ (by omega)).trans d44⟩))
                    (first
                      | (go_at_call 44; (with_reducible refine (repeat_any A' n' c' N ys _ (HS'.out.step (bst b2 B0)) (by omega) HN.out).mono ?_); rintro e w3 ⟨⟨A3, c3, rfl, hS3, hN3⟩, hb3⟩; have B3 := bst B0 hb3; have d30 : w3.cell? ⟨w.heap.size + 1, 0, none⟩ = some (.int .i64 k') := (Y1.step B3).cell 0; have d34 : w3.cell? ⟨w.heap.size + 1, 4, none⟩ = some (.slice A' n' c') := (Y1.step B3).cell 4)
                      | (go_at_call 45; (with_reducible refine (mmatrix_any k' x z A3 N c3 _).mono ?_); rintro e w4 ⟨rfl, hb4⟩; have B4 := bst B3 hb4; have d40 : w4.cell? ⟨w.heap.size + 1, 0, none⟩ = some (.int .i64 k') := (Y1.step B4).cell 0; have d44 : w4.cell? ⟨w.heap.size + 1, 4, none⟩ = some (.slice A' n' c') := (Y1.step B4).cell 4; have g1 : ∀ i, w4.cell? ⟨w.heap.size + 1 + 1, i, none⟩ = _ := (Y2.step B4).cell; have k1 : ∀ i, w4.frozen? ⟨w.heap.size + 1 + 1, i, none⟩ = false := (Y2.step B4).frozen))
                  go_wp2
                  refine retAE (B := w.heap.size + 1 + 1) rfl rfl rfl rfl ((Y2.step B4).set5 _ _ _ _ _) ?_
                  have M3 : ∀ b o, A3 = some ⟨b, o, none⟩ → b ≠ w.heap.size + 1 + 1 := fun b o e => by have := hN3 b o none e; simp at this; omega
                  exact RetA.mk HR.out ((hS3.step hb4).past5 _ _ _ _ _ M3) (hN3.mono (Nat.le_trans b2.size B0.size)) (below_set5 (bst b2 B4) (by omega) _ _ _ _ _)
    · have hR : (zA, (11 : Int)) = R := by
        rw [← h, sGrid_ok h0]
        show _ = if lensE xs ≠ 0 then (zA, lensE xs) else _
        rw [lensE_len hl]; rfl
      have hn2 : ((n : Int) != 2) = true := by have := hs.len; simp; omega
      have HR := Lib.hid hR
      clear h hR hs hs' h0 hl
      go_enter Try.func20, Try.ntmps20
      go_wp2_with fail
      refine (two_any _ _ _ _ _ _ _ xs _ _ _ _ _ _ _ ys _ _ _ _ (HS.out.step (below3 _ _ _ _)) (HS'.out.step (below3 _ _ _ _)) H0.out).mono ?_
      rintro e w1 ⟨rfl, hb1⟩
      obtain ⟨X0, X1, X2, b1⟩ := after3 hb1
      clear hb1
      have q2 := Bx.lt X2
      have c0 : ∀ i, w1.cell? ⟨w.heap.size, i, none⟩ = _ := Bx.cell X0
      have c1 : ∀ i, w1.cell? ⟨w.heap.size + 1, i, none⟩ = _ := Bx.cell X1
      have c2 : ∀ i, w1.cell? ⟨w.heap.size + 1 + 1, i, none⟩ = _ := Bx.cell X2
      have f2 : ∀ i, w1.frozen? ⟨w.heap.size + 1 + 1, i, none⟩ = false := Bx.frozen X2
      go_wp2
      refine retAE (B := w.heap.size + 1 + 1) rfl rfl rfl rfl (Bx.set5 X2 _ _ _ _ _) ?_
      exact RetA.mk HR.out.symm (Sl.nil _) (fun _ _ _ h => by cases h) (below_set5 b1 (by omega) _ _ _ _ _)
  · have he : (zA, twoE ⟨k, r, l0, l1, xs⟩ ⟨k', r', l0', l1', ys⟩ 1 1) = R := by
      rw [← h]; exact (sGrid_err h0).symm
    obtain ⟨ec, hec⟩ : ∃ ec, twoE ⟨k, r, l0, l1, xs⟩ ⟨k', r', l0', l1', ys⟩ 1 1 = ec := ⟨_, rfl⟩
    rw [hec] at h0 he
    have HEC := Lib.hid hec
    have HR := Lib.hid he
    have HS := Lib.hid hs
    have HS' := Lib.hid hs'
    have hne : (ec != 0) = true := by simpa using h0
    clear hec h0 he h hs hs'
    go_enter Try.func20, Try.ntmps20
    go_wp2_with fail
    refine (two_any _ _ _ _ _ _ _ xs _ _ _ _ _ _ _ ys _ _ _ _ (HS.out.step (below3 _ _ _ _)) (HS'.out.step (below3 _ _ _ _)) HEC.out).mono ?_
    rintro e w1 ⟨rfl, hb1⟩
    obtain ⟨X0, X1, X2, b1⟩ := after3 hb1
    clear hb1
    have q2 := Bx.lt X2
    have c0 : ∀ i, w1.cell? ⟨w.heap.size, i, none⟩ = _ := Bx.cell X0
    have c1 : ∀ i, w1.cell? ⟨w.heap.size + 1, i, none⟩ = _ := Bx.cell X1
    have c2 : ∀ i, w1.cell? ⟨w.heap.size + 1 + 1, i, none⟩ = _ := Bx.cell X2
    have f2 : ∀ i, w1.frozen? ⟨w.heap.size + 1 + 1, i, none⟩ = false := Bx.frozen X2
    go_wp2
    refine retAE (B := w.heap.size + 1 + 1) rfl rfl rfl rfl (Bx.set5 X2 _ _ _ _ _) ?_
    exact RetA.mk HR.out.symm (Sl.nil _) (fun _ _ _ h => by cases h) (below_set5 b1 (by omega) _ _ _ _ _)
end Go.Proofs.Ytoapgknkenlcgaa

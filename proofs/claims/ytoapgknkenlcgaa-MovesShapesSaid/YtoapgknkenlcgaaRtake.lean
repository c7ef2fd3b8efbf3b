/-
  The reference's Take and Drop.
-/
import Derived.Test.YtoapgknkenlcgaaRtwo
import Derived.Deep.RegionHeld3
namespace Go.Proofs.Ytoapgknkenlcgaa
open Go.RowKit

set_option maxHeartbeats 4000000 in
theorem rTake_any (k r l0 l1 : Int) (A : Option Addr) (n c : Nat) (xs : List Int) (k' r' l0' l1' : Int) (A' : Option Addr) (n' c' : Nat) (ys : List Int) (R : Arr × Int) (w : World)
    (hs : Sl w A n c xs) (hs' : Sl w A' n' c' ys) (hwf : ∀ x ∈ xs, -9223372036854775808 ≤ x ∧ x ≤ 9223372036854775807) (h : sTake ⟨k, r, l0, l1, xs⟩ ⟨k', r', l0', l1', ys⟩ = R) :
    Calls Try.prog 14 #[.agg #[.int .i64 k, .int .i64 r, .int .i64 l0, .int .i64 l1, .slice A n c], .agg #[.int .i64 k', .int .i64 r', .int .i64 l0', .int .i64 l1', .slice A' n' c']] w (RetA w R) := by
  by_cases h0 : twoE ⟨k, r, l0, l1, xs⟩ ⟨k', r', l0', l1', ys⟩ 0 1 = 0
  · obtain ⟨ha, hv, hk, hr, hr'⟩ := twoE_ok h0
    simp only [chkA] at ha hv
    obtain ⟨x, rfl⟩ := scalar_one ha hr
    have hl := achk_len hv
    have hlv := hs'.len
    have hcv := hs'.cap
    have hmv := hs'.most
    have hn' : n' ≤ 400 := by omega
    obtain rfl : n = 1 := hs.len.symm
    obtain ⟨b, o, rfl, hbl, hcx⟩ := hs.at_ (k := 0) (by omega)
    have hx := hwf x (by simp)
    obtain ⟨hx0', hx1⟩ := hx
    have hcut := cutAt_le x n'
    have H := Lib.hid h
    have H0 := Lib.hid h0
    have HS := Lib.hid hs
    have HS' := Lib.hid hs'
    have HLV := Lib.hid hlv
    have HCX := Lib.hid hcx
    clear h hs hs' hwf ha hv hk hr hr' hl hlv hcx h0
    obtain ⟨q, hq⟩ : ∃ q, takenN x n' = q := ⟨_, rfl⟩
    obtain ⟨p, hp⟩ : ∃ p, cutAt x n' = p := ⟨_, rfl⟩
    rw [hp] at hcut
    have HQ := Lib.hid hq
    have HP := Lib.hid hp
    have hp0 : (0 : Int) ≤ (p : Int) := by omega
    have hp1 : (p : Int) ≤ (c' : Int) := by omega
    have hp2 : (p : Int) ≤ (n' : Int) := by omega
    by_cases hx0 : x < 0
    · have hqp : q = n' - p := by rw [← hq, ← hp]; unfold takenN; rw [if_pos hx0]
      have e1 : (n' : Int) - (q : Int) = (p : Int) := by omega
      have e2 : IntKind.i64.wrap ((n' : Int) - (q : Int)) = (p : Int) := by rw [e1]; exact IntWalk.i64_in _ (by omega)
      have e3 : IntKind.i64.wrap (p : Int) = (p : Int) := IntWalk.i64_in _ (by omega)
      clear hq hp hqp
      go_enter Try.func14, Try.ntmps14
      go_wp2_with fail
      refine (rtwo_any _ _ _ _ _ _ _ [x] _ _ _ _ _ _ _ ys _ _ _ _ (HS.out.step (below3 _ _ _ _)) (HS'.out.step (below3 _ _ _ _)) H0.out).mono ?_
      rintro e w1 ⟨rfl, hb1⟩
      obtain ⟨X0, X1, X2, b1⟩ := after3 hb1
      clear hb1
      have c0 : ∀ i, w1.cell? ⟨w.heap.size, i, none⟩ = _ := Bx.cell X0
      have c1 : ∀ i, w1.cell? ⟨w.heap.size + 1, i, none⟩ = _ := Bx.cell X1
      have cx : w1.cell? ⟨b, o, none⟩ = some (.int .i64 x) := (b1.cell (p := ⟨b, o, none⟩) hbl).trans HCX.out
      go_wp2
      go_quiet ((go_at_call 41; exact Calls.quiet_of_same (taken_any x n' q _ HQ.out hx0' hx1 (by omega))))
      go_wp2
      have b2 : Below w.heap.size w (w1.drewN nq) := bdn b1 _
      obtain ⟨w2, hw2⟩ : ∃ w2, w1.drewN nq = w2 := ⟨_, rfl⟩
      rw [hw2] at b2 ⊢
      have Y1 : Bx w2 (w.heap.size + 1) #[.int .i64 k', .int .i64 r', .int .i64 l0', .int .i64 l1', .slice A' n' c'] 25 := by rw [← hw2]; exact X1
      have Y2 : Bx w2 (w.heap.size + 1 + 1) #[.int .i64 0, .int .i64 0, .int .i64 0, .int .i64 0, .slice none 0 0] 25 := by rw [← hw2]; exact X2
      clear hw2 X0 X1 X2 b1 cx c0 c1
      by_cases hcp : c' = p
      · subst hcp
        have hF : ∀ W, Below w2.heap.size w2 W → Sl W A' 0 0 (ys.drop c') := fun W hb => by
          have := ((HS'.out.step b2).step hb).from hcut
          rw [if_pos rfl, show n' - c' = 0 by omega, Nat.sub_self] at this
          exact this
        have HF := Lib.hid hF
        clear hF
        have l2 := Y2.lt
        have d10 : w2.drew.cell? ⟨w.heap.size + 1, 0, none⟩ = some (.int .i64 k') := Y1.cell 0
        have d40 : w2.drew.cell? ⟨w.heap.size + 1, 4, none⟩ = some (.slice A' n' c') := Y1.cell 4
        go_region_held3 (fun w' => w'.cell? ⟨w.heap.size + 1, 0, none⟩ = some (.int .i64 k') ∧ w'.cell? ⟨w.heap.size + 1, 4, none⟩ = some (.slice A' n' c'))
          (first | (with_reducible exact ⟨d10, d40⟩) | (with_reducible exact ⟨d13, d43⟩) | (with_reducible exact ⟨(set5_cell _ _ _ _ _ _ _ (by omega)).trans d13, (set5_cell _ _ _ _ _ _ _ (by omega)).trans d43⟩))
          (first
            | (go_at_call 37; (with_reducible refine (rVector_any k' _ _ _ (ys.drop c') _ (HF.out _ (bdr (Below.refl _ _))) (by omega)).mono ?_); rintro e w3 ⟨⟨A3, n3, c3, rfl, hS3, hN3⟩, hb3⟩; have B3 := bst (bdr (Below.refl _ _)) hb3; have d13 : w3.cell? ⟨w.heap.size + 1, 0, none⟩ = some (.int .i64 k') := (Y1.step B3).cell 0; have d43 : w3.cell? ⟨w.heap.size + 1, 4, none⟩ = some (.slice A' n' c') := (Y1.step B3).cell 4; have g3 : ∀ i, w3.cell? ⟨w.heap.size + 1 + 1, i, none⟩ = _ := (Y2.step B3).cell; have f3 : ∀ i, w3.frozen? ⟨w.heap.size + 1 + 1, i, none⟩ = false := (Y2.step B3).frozen))
        go_wp2
        refine retAE (B := w.heap.size + 1 + 1) rfl rfl rfl rfl ((Y2.step B3).set5 _ _ _ _ _) ?_
        have M3 : ∀ b o, A3 = some ⟨b, o, none⟩ → b ≠ w.heap.size + 1 + 1 := fun b o e => by have := hN3 b o none e; simp at this; omega
        have N3 : New w A3 := hN3.mono (Nat.le_trans b2.size (bdr (Below.refl _ _)).size)
        have hl3 := (HF.out _ (Below.refl _ _)).len
        refine RetA.mk ?_ (hS3.past5 _ _ _ _ _ M3) N3 (below_set5 (bst b2 B3) (by omega) _ _ _ _ _)
        rw [← H.out, sTake_ok (x := x) H0.out rfl, if_pos (show x < 0 by omega)]
        simp only [vecA]
        rw [HLV.out, HP.out]
        exact congrArg (fun m : Nat => ((⟨k', 1, (m : Int), 0, (ys.drop c')⟩ : Arr), (0 : Int))) hl3
      · have hF : ∀ W, Below w2.heap.size w2 W → Sl W (A'.map (·.add p)) (n' - p) (c' - p) (ys.drop p) := fun W hb => by
          have := ((HS'.out.step b2).step hb).from hcut
          rw [if_neg hcp] at this
          exact this
        have HF := Lib.hid hF
        clear hF
        have l2 := Y2.lt
        have d10 : w2.drew.cell? ⟨w.heap.size + 1, 0, none⟩ = some (.int .i64 k') := Y1.cell 0
        have d40 : w2.drew.cell? ⟨w.heap.size + 1, 4, none⟩ = some (.slice A' n' c') := Y1.cell 4
        go_region_held3 (fun w' => w'.cell? ⟨w.heap.size + 1, 0, none⟩ = some (.int .i64 k') ∧ w'.cell? ⟨w.heap.size + 1, 4, none⟩ = some (.slice A' n' c'))
          (first | (with_reducible exact ⟨d10, d40⟩) | (with_reducible exact ⟨d13, d43⟩) | (with_reducible exact ⟨(set5_cell _ _ _ _ _ _ _ (by omega)).trans d13, (set5_cell _ _ _ _ _ _ _ (by omega)).trans d43⟩))
          (first
            | (go_at_call 37; (with_reducible refine (rVector_any k' _ _ _ (ys.drop p) _ (HF.out _ (bdr (Below.refl _ _))) (by omega)).mono ?_); rintro e w3 ⟨⟨A3, n3, c3, rfl, hS3, hN3⟩, hb3⟩; have B3 := bst (bdr (Below.refl _ _)) hb3; have d13 : w3.cell? ⟨w.heap.size + 1, 0, none⟩ = some (.int .i64 k') := (Y1.step B3).cell 0; have d43 : w3.cell? ⟨w.heap.size + 1, 4, none⟩ = some (.slice A' n' c') := (Y1.step B3).cell 4; have g3 : ∀ i, w3.cell? ⟨w.heap.size + 1 + 1, i, none⟩ = _ := (Y2.step B3).cell; have f3 : ∀ i, w3.frozen? ⟨w.heap.size + 1 + 1, i, none⟩ = false := (Y2.step B3).frozen))
        go_wp2
        refine retAE (B := w.heap.size + 1 + 1) rfl rfl rfl rfl ((Y2.step B3).set5 _ _ _ _ _) ?_
        have M3 : ∀ b o, A3 = some ⟨b, o, none⟩ → b ≠ w.heap.size + 1 + 1 := fun b o e => by have := hN3 b o none e; simp at this; omega
        have N3 : New w A3 := hN3.mono (Nat.le_trans b2.size (bdr (Below.refl _ _)).size)
        have hl3 := (HF.out _ (Below.refl _ _)).len
        refine RetA.mk ?_ (hS3.past5 _ _ _ _ _ M3) N3 (below_set5 (bst b2 B3) (by omega) _ _ _ _ _)
        rw [← H.out, sTake_ok (x := x) H0.out rfl, if_pos (show x < 0 by omega)]
        simp only [vecA]
        rw [HLV.out, HP.out]
        exact congrArg (fun m : Nat => ((⟨k', 1, (m : Int), 0, (ys.drop p)⟩ : Arr), (0 : Int))) hl3
    · have hqp : p = q := by rw [← hq, ← hp]; unfold takenN; rw [if_neg hx0]
      clear hq hp
      subst hqp
      go_enter Try.func14, Try.ntmps14
      go_wp2_with fail
      refine (rtwo_any _ _ _ _ _ _ _ [x] _ _ _ _ _ _ _ ys _ _ _ _ (HS.out.step (below3 _ _ _ _)) (HS'.out.step (below3 _ _ _ _)) H0.out).mono ?_
      rintro e w1 ⟨rfl, hb1⟩
      obtain ⟨X0, X1, X2, b1⟩ := after3 hb1
      clear hb1
      have c0 : ∀ i, w1.cell? ⟨w.heap.size, i, none⟩ = _ := Bx.cell X0
      have c1 : ∀ i, w1.cell? ⟨w.heap.size + 1, i, none⟩ = _ := Bx.cell X1
      have cx : w1.cell? ⟨b, o, none⟩ = some (.int .i64 x) := (b1.cell (p := ⟨b, o, none⟩) hbl).trans HCX.out
      go_wp2
      go_quiet ((go_at_call 41; exact Calls.quiet_of_same (taken_any x n' p _ HQ.out hx0' hx1 (by omega))))
      go_wp2
      have b2 : Below w.heap.size w (w1.drewN nq) := bdn b1 _
      obtain ⟨w2, hw2⟩ : ∃ w2, w1.drewN nq = w2 := ⟨_, rfl⟩
      rw [hw2] at b2 ⊢
      have Y1 : Bx w2 (w.heap.size + 1) #[.int .i64 k', .int .i64 r', .int .i64 l0', .int .i64 l1', .slice A' n' c'] 25 := by rw [← hw2]; exact X1
      have Y2 : Bx w2 (w.heap.size + 1 + 1) #[.int .i64 0, .int .i64 0, .int .i64 0, .int .i64 0, .slice none 0 0] 25 := by rw [← hw2]; exact X2
      clear hw2 X0 X1 X2 b1 cx c0 c1
      have hF : ∀ W, Below w2.heap.size w2 W → Sl W A' p c' (ys.take p) := fun W hb => ((HS'.out.step b2).step hb).to hcut
      have HF := Lib.hid hF
      clear hF
      have l2 := Y2.lt
      have d10 : w2.drew.cell? ⟨w.heap.size + 1, 0, none⟩ = some (.int .i64 k') := Y1.cell 0
      have d40 : w2.drew.cell? ⟨w.heap.size + 1, 4, none⟩ = some (.slice A' n' c') := Y1.cell 4
      go_region_held3 (fun w' => w'.cell? ⟨w.heap.size + 1, 0, none⟩ = some (.int .i64 k') ∧ w'.cell? ⟨w.heap.size + 1, 4, none⟩ = some (.slice A' n' c'))
        (first | (with_reducible exact ⟨d10, d40⟩) | (with_reducible exact ⟨d13, d43⟩) | (with_reducible exact ⟨(set5_cell _ _ _ _ _ _ _ (by omega)).trans d13, (set5_cell _ _ _ _ _ _ _ (by omega)).trans d43⟩))
        (first
          | (go_at_call 37; (with_reducible refine (rVector_any k' _ _ _ (ys.take p) _ (HF.out _ (bdr (Below.refl _ _))) (by omega)).mono ?_); rintro e w3 ⟨⟨A3, n3, c3, rfl, hS3, hN3⟩, hb3⟩; have B3 := bst (bdr (Below.refl _ _)) hb3; have d13 : w3.cell? ⟨w.heap.size + 1, 0, none⟩ = some (.int .i64 k') := (Y1.step B3).cell 0; have d43 : w3.cell? ⟨w.heap.size + 1, 4, none⟩ = some (.slice A' n' c') := (Y1.step B3).cell 4; have g3 : ∀ i, w3.cell? ⟨w.heap.size + 1 + 1, i, none⟩ = _ := (Y2.step B3).cell; have f3 : ∀ i, w3.frozen? ⟨w.heap.size + 1 + 1, i, none⟩ = false := (Y2.step B3).frozen))
      go_wp2
      refine retAE (B := w.heap.size + 1 + 1) rfl rfl rfl rfl ((Y2.step B3).set5 _ _ _ _ _) ?_
      have M3 : ∀ b o, A3 = some ⟨b, o, none⟩ → b ≠ w.heap.size + 1 + 1 := fun b o e => by have := hN3 b o none e; simp at this; omega
      have N3 : New w A3 := hN3.mono (Nat.le_trans b2.size (bdr (Below.refl _ _)).size)
      have hl3 := (HF.out _ (Below.refl _ _)).len
      refine RetA.mk ?_ (hS3.past5 _ _ _ _ _ M3) N3 (below_set5 (bst b2 B3) (by omega) _ _ _ _ _)
      rw [← H.out, sTake_ok (x := x) H0.out rfl, if_neg (show ¬ x < 0 by omega)]
      simp only [vecA]
      rw [HLV.out, HP.out]
      exact congrArg (fun m : Nat => ((⟨k', 1, (m : Int), 0, (ys.take p)⟩ : Arr), (0 : Int))) hl3
  · have he := h
    rw [sTake_err h0] at he
    obtain ⟨ec, hec⟩ : ∃ ec, twoE ⟨k, r, l0, l1, xs⟩ ⟨k', r', l0', l1', ys⟩ 0 1 = ec := ⟨_, rfl⟩
    rw [hec] at h0 he
    have HEC := Lib.hid hec
    have HR := Lib.hid he
    have HS := Lib.hid hs
    have HS' := Lib.hid hs'
    have hne : (ec != 0) = true := by simpa using h0
    clear hec h0 he h hs hs'
    go_enter Try.func14, Try.ntmps14
    go_wp2_with fail
    refine (rtwo_any _ _ _ _ _ _ _ xs _ _ _ _ _ _ _ ys _ _ _ _ (HS.out.step (below3 _ _ _ _)) (HS'.out.step (below3 _ _ _ _)) HEC.out).mono ?_
    rintro e w1 ⟨rfl, hb1⟩
    obtain ⟨X0, X1, X2, b1⟩ := after3 hb1
    clear hb1
    have g2 : ∀ i, w1.cell? ⟨w.heap.size + 1 + 1, i, none⟩ = _ := Bx.cell X2
    have f2 : ∀ i, w1.frozen? ⟨w.heap.size + 1 + 1, i, none⟩ = false := Bx.frozen X2
    go_wp2
    refine retAE (B := w.heap.size + 1 + 1) rfl rfl rfl rfl (Bx.set5 X2 _ _ _ _ _) ?_
    exact RetA.mk HR.out.symm (Sl.nil _) (fun _ _ _ h => by cases h) (below_set5 b1 (by omega) _ _ _ _ _)

set_option maxHeartbeats 4000000 in
theorem rDrop_any (k r l0 l1 : Int) (A : Option Addr) (n c : Nat) (xs : List Int) (k' r' l0' l1' : Int) (A' : Option Addr) (n' c' : Nat) (ys : List Int) (R : Arr × Int) (w : World)
    (hs : Sl w A n c xs) (hs' : Sl w A' n' c' ys) (hwf : ∀ x ∈ xs, -9223372036854775808 ≤ x ∧ x ≤ 9223372036854775807) (h : sDrop ⟨k, r, l0, l1, xs⟩ ⟨k', r', l0', l1', ys⟩ = R) :
    Calls Try.prog 16 #[.agg #[.int .i64 k, .int .i64 r, .int .i64 l0, .int .i64 l1, .slice A n c], .agg #[.int .i64 k', .int .i64 r', .int .i64 l0', .int .i64 l1', .slice A' n' c']] w (RetA w R) := by
  by_cases h0 : twoE ⟨k, r, l0, l1, xs⟩ ⟨k', r', l0', l1', ys⟩ 0 1 = 0
  · obtain ⟨ha, hv, hk, hr, hr'⟩ := twoE_ok h0
    simp only [chkA] at ha hv
    obtain ⟨x, rfl⟩ := scalar_one ha hr
    have hl := achk_len hv
    have hlv := hs'.len
    have hcv := hs'.cap
    have hmv := hs'.most
    have hn' : n' ≤ 400 := by omega
    obtain rfl : n = 1 := hs.len.symm
    obtain ⟨b, o, rfl, hbl, hcx⟩ := hs.at_ (k := 0) (by omega)
    have hx := hwf x (by simp)
    obtain ⟨hx0', hx1⟩ := hx
    have hcut := cutAt_le x n'
    have H := Lib.hid h
    have H0 := Lib.hid h0
    have HS := Lib.hid hs
    have HS' := Lib.hid hs'
    have HLV := Lib.hid hlv
    have HCX := Lib.hid hcx
    clear h hs hs' hwf ha hv hk hr hr' hl hlv hcx h0
    obtain ⟨q, hq⟩ : ∃ q, takenN x n' = q := ⟨_, rfl⟩
    obtain ⟨p, hp⟩ : ∃ p, cutAt x n' = p := ⟨_, rfl⟩
    rw [hp] at hcut
    have HQ := Lib.hid hq
    have HP := Lib.hid hp
    have hp0 : (0 : Int) ≤ (p : Int) := by omega
    have hp1 : (p : Int) ≤ (c' : Int) := by omega
    have hp2 : (p : Int) ≤ (n' : Int) := by omega
    by_cases hx0 : x < 0
    · have hqp : q = n' - p := by rw [← hq, ← hp]; unfold takenN; rw [if_pos hx0]
      have e1 : (n' : Int) - (q : Int) = (p : Int) := by omega
      have e2 : IntKind.i64.wrap ((n' : Int) - (q : Int)) = (p : Int) := by rw [e1]; exact IntWalk.i64_in _ (by omega)
      have e3 : IntKind.i64.wrap (p : Int) = (p : Int) := IntWalk.i64_in _ (by omega)
      clear hq hp hqp
      go_enter Try.func16, Try.ntmps16
      go_wp2_with fail
      refine (rtwo_any _ _ _ _ _ _ _ [x] _ _ _ _ _ _ _ ys _ _ _ _ (HS.out.step (below3 _ _ _ _)) (HS'.out.step (below3 _ _ _ _)) H0.out).mono ?_
      rintro e w1 ⟨rfl, hb1⟩
      obtain ⟨X0, X1, X2, b1⟩ := after3 hb1
      clear hb1
      have c0 : ∀ i, w1.cell? ⟨w.heap.size, i, none⟩ = _ := Bx.cell X0
      have c1 : ∀ i, w1.cell? ⟨w.heap.size + 1, i, none⟩ = _ := Bx.cell X1
      have cx : w1.cell? ⟨b, o, none⟩ = some (.int .i64 x) := (b1.cell (p := ⟨b, o, none⟩) hbl).trans HCX.out
      go_wp2
      go_quiet ((go_at_call 41; exact Calls.quiet_of_same (taken_any x n' q _ HQ.out hx0' hx1 (by omega))))
      go_wp2
      have b2 : Below w.heap.size w (w1.drewN nq) := bdn b1 _
      obtain ⟨w2, hw2⟩ : ∃ w2, w1.drewN nq = w2 := ⟨_, rfl⟩
      rw [hw2] at b2 ⊢
      have Y1 : Bx w2 (w.heap.size + 1) #[.int .i64 k', .int .i64 r', .int .i64 l0', .int .i64 l1', .slice A' n' c'] 25 := by rw [← hw2]; exact X1
      have Y2 : Bx w2 (w.heap.size + 1 + 1) #[.int .i64 0, .int .i64 0, .int .i64 0, .int .i64 0, .slice none 0 0] 25 := by rw [← hw2]; exact X2
      clear hw2 X0 X1 X2 b1 cx c0 c1
      have hF : ∀ W, Below w2.heap.size w2 W → Sl W A' p c' (ys.take p) := fun W hb => ((HS'.out.step b2).step hb).to hcut
      have HF := Lib.hid hF
      clear hF
      have l2 := Y2.lt
      have d10 : w2.drew.cell? ⟨w.heap.size + 1, 0, none⟩ = some (.int .i64 k') := Y1.cell 0
      have d40 : w2.drew.cell? ⟨w.heap.size + 1, 4, none⟩ = some (.slice A' n' c') := Y1.cell 4
      go_region_held3 (fun w' => w'.cell? ⟨w.heap.size + 1, 0, none⟩ = some (.int .i64 k') ∧ w'.cell? ⟨w.heap.size + 1, 4, none⟩ = some (.slice A' n' c'))
        (first | (with_reducible exact ⟨d10, d40⟩) | (with_reducible exact ⟨d13, d43⟩) | (with_reducible exact ⟨(set5_cell _ _ _ _ _ _ _ (by omega)).trans d13, (set5_cell _ _ _ _ _ _ _ (by omega)).trans d43⟩))
        (first
          | (go_at_call 37; (with_reducible refine (rVector_any k' _ _ _ (ys.take p) _ (HF.out _ (bdr (Below.refl _ _))) (by omega)).mono ?_); rintro e w3 ⟨⟨A3, n3, c3, rfl, hS3, hN3⟩, hb3⟩; have B3 := bst (bdr (Below.refl _ _)) hb3; have d13 : w3.cell? ⟨w.heap.size + 1, 0, none⟩ = some (.int .i64 k') := (Y1.step B3).cell 0; have d43 : w3.cell? ⟨w.heap.size + 1, 4, none⟩ = some (.slice A' n' c') := (Y1.step B3).cell 4; have g3 : ∀ i, w3.cell? ⟨w.heap.size + 1 + 1, i, none⟩ = _ := (Y2.step B3).cell; have f3 : ∀ i, w3.frozen? ⟨w.heap.size + 1 + 1, i, none⟩ = false := (Y2.step B3).frozen))
      go_wp2
      refine retAE (B := w.heap.size + 1 + 1) rfl rfl rfl rfl ((Y2.step B3).set5 _ _ _ _ _) ?_
      have M3 : ∀ b o, A3 = some ⟨b, o, none⟩ → b ≠ w.heap.size + 1 + 1 := fun b o e => by have := hN3 b o none e; simp at this; omega
      have N3 : New w A3 := hN3.mono (Nat.le_trans b2.size (bdr (Below.refl _ _)).size)
      have hl3 := (HF.out _ (Below.refl _ _)).len
      refine RetA.mk ?_ (hS3.past5 _ _ _ _ _ M3) N3 (below_set5 (bst b2 B3) (by omega) _ _ _ _ _)
      rw [← H.out, sDrop_ok (x := x) H0.out rfl, if_pos (show x < 0 by omega)]
      simp only [vecA]
      rw [HLV.out, HP.out]
      exact congrArg (fun m : Nat => ((⟨k', 1, (m : Int), 0, (ys.take p)⟩ : Arr), (0 : Int))) hl3
    · have hqp : p = q := by rw [← hq, ← hp]; unfold takenN; rw [if_neg hx0]
      clear hq hp
      subst hqp
      go_enter Try.func16, Try.ntmps16
      go_wp2_with fail
      refine (rtwo_any _ _ _ _ _ _ _ [x] _ _ _ _ _ _ _ ys _ _ _ _ (HS.out.step (below3 _ _ _ _)) (HS'.out.step (below3 _ _ _ _)) H0.out).mono ?_
      rintro e w1 ⟨rfl, hb1⟩
      obtain ⟨X0, X1, X2, b1⟩ := after3 hb1
      clear hb1
      have c0 : ∀ i, w1.cell? ⟨w.heap.size, i, none⟩ = _ := Bx.cell X0
      have c1 : ∀ i, w1.cell? ⟨w.heap.size + 1, i, none⟩ = _ := Bx.cell X1
      have cx : w1.cell? ⟨b, o, none⟩ = some (.int .i64 x) := (b1.cell (p := ⟨b, o, none⟩) hbl).trans HCX.out
      go_wp2
      go_quiet ((go_at_call 41; exact Calls.quiet_of_same (taken_any x n' p _ HQ.out hx0' hx1 (by omega))))
      go_wp2
      have b2 : Below w.heap.size w (w1.drewN nq) := bdn b1 _
      obtain ⟨w2, hw2⟩ : ∃ w2, w1.drewN nq = w2 := ⟨_, rfl⟩
      rw [hw2] at b2 ⊢
      have Y1 : Bx w2 (w.heap.size + 1) #[.int .i64 k', .int .i64 r', .int .i64 l0', .int .i64 l1', .slice A' n' c'] 25 := by rw [← hw2]; exact X1
      have Y2 : Bx w2 (w.heap.size + 1 + 1) #[.int .i64 0, .int .i64 0, .int .i64 0, .int .i64 0, .slice none 0 0] 25 := by rw [← hw2]; exact X2
      clear hw2 X0 X1 X2 b1 cx c0 c1
      by_cases hcp : c' = p
      · subst hcp
        have hF : ∀ W, Below w2.heap.size w2 W → Sl W A' 0 0 (ys.drop c') := fun W hb => by
          have := ((HS'.out.step b2).step hb).from hcut
          rw [if_pos rfl, show n' - c' = 0 by omega, Nat.sub_self] at this
          exact this
        have HF := Lib.hid hF
        clear hF
        have l2 := Y2.lt
        have d10 : w2.drew.cell? ⟨w.heap.size + 1, 0, none⟩ = some (.int .i64 k') := Y1.cell 0
        have d40 : w2.drew.cell? ⟨w.heap.size + 1, 4, none⟩ = some (.slice A' n' c') := Y1.cell 4
        go_region_held3 (fun w' => w'.cell? ⟨w.heap.size + 1, 0, none⟩ = some (.int .i64 k') ∧ w'.cell? ⟨w.heap.size + 1, 4, none⟩ = some (.slice A' n' c'))
          (first | (with_reducible exact ⟨d10, d40⟩) | (with_reducible exact ⟨d13, d43⟩) | (with_reducible exact ⟨(set5_cell _ _ _ _ _ _ _ (by omega)).trans d13, (set5_cell _ _ _ _ _ _ _ (by omega)).trans d43⟩))
          (first
            | (go_at_call 37; (with_reducible refine (rVector_any k' _ _ _ (ys.drop c') _ (HF.out _ (bdr (Below.refl _ _))) (by omega)).mono ?_); rintro e w3 ⟨⟨A3, n3, c3, rfl, hS3, hN3⟩, hb3⟩; have B3 := bst (bdr (Below.refl _ _)) hb3; have d13 : w3.cell? ⟨w.heap.size + 1, 0, none⟩ = some (.int .i64 k') := (Y1.step B3).cell 0; have d43 : w3.cell? ⟨w.heap.size + 1, 4, none⟩ = some (.slice A' n' c') := (Y1.step B3).cell 4; have g3 : ∀ i, w3.cell? ⟨w.heap.size + 1 + 1, i, none⟩ = _ := (Y2.step B3).cell; have f3 : ∀ i, w3.frozen? ⟨w.heap.size + 1 + 1, i, none⟩ = false := (Y2.step B3).frozen))
        go_wp2
        refine retAE (B := w.heap.size + 1 + 1) rfl rfl rfl rfl ((Y2.step B3).set5 _ _ _ _ _) ?_
        have M3 : ∀ b o, A3 = some ⟨b, o, none⟩ → b ≠ w.heap.size + 1 + 1 := fun b o e => by have := hN3 b o none e; simp at this; omega
        have N3 : New w A3 := hN3.mono (Nat.le_trans b2.size (bdr (Below.refl _ _)).size)
        have hl3 := (HF.out _ (Below.refl _ _)).len
        refine RetA.mk ?_ (hS3.past5 _ _ _ _ _ M3) N3 (below_set5 (bst b2 B3) (by omega) _ _ _ _ _)
        rw [← H.out, sDrop_ok (x := x) H0.out rfl, if_neg (show ¬ x < 0 by omega)]
        simp only [vecA]
        rw [HLV.out, HP.out]
        exact congrArg (fun m : Nat => ((⟨k', 1, (m : Int), 0, (ys.drop c')⟩ : Arr), (0 : Int))) hl3
      · have hF : ∀ W, Below w2.heap.size w2 W → Sl W (A'.map (·.add p)) (n' - p) (c' - p) (ys.drop p) := fun W hb => by
          have := ((HS'.out.step b2).step hb).from hcut
          rw [if_neg hcp] at this
          exact this
        have HF := Lib.hid hF
        clear hF
        have l2 := Y2.lt
        have d10 : w2.drew.cell? ⟨w.heap.size + 1, 0, none⟩ = some (.int .i64 k') := Y1.cell 0
        have d40 : w2.drew.cell? ⟨w.heap.size + 1, 4, none⟩ = some (.slice A' n' c') := Y1.cell 4
        go_region_held3 (fun w' => w'.cell? ⟨w.heap.size + 1, 0, none⟩ = some (.int .i64 k') ∧ w'.cell? ⟨w.heap.size + 1, 4, none⟩ = some (.slice A' n' c'))
          (first | (with_reducible exact ⟨d10, d40⟩) | (with_reducible exact ⟨d13, d43⟩) | (with_reducible exact ⟨(set5_cell _ _ _ _ _ _ _ (by omega)).trans d13, (set5_cell _ _ _ _ _ _ _ (by omega)).trans d43⟩))
          (first
            | (go_at_call 37; (with_reducible refine (rVector_any k' _ _ _ (ys.drop p) _ (HF.out _ (bdr (Below.refl _ _))) (by omega)).mono ?_); rintro e w3 ⟨⟨A3, n3, c3, rfl, hS3, hN3⟩, hb3⟩; have B3 := bst (bdr (Below.refl _ _)) hb3; have d13 : w3.cell? ⟨w.heap.size + 1, 0, none⟩ = some (.int .i64 k') := (Y1.step B3).cell 0; have d43 : w3.cell? ⟨w.heap.size + 1, 4, none⟩ = some (.slice A' n' c') := (Y1.step B3).cell 4; have g3 : ∀ i, w3.cell? ⟨w.heap.size + 1 + 1, i, none⟩ = _ := (Y2.step B3).cell; have f3 : ∀ i, w3.frozen? ⟨w.heap.size + 1 + 1, i, none⟩ = false := (Y2.step B3).frozen))
        go_wp2
        refine retAE (B := w.heap.size + 1 + 1) rfl rfl rfl rfl ((Y2.step B3).set5 _ _ _ _ _) ?_
        have M3 : ∀ b o, A3 = some ⟨b, o, none⟩ → b ≠ w.heap.size + 1 + 1 := fun b o e => by have := hN3 b o none e; simp at this; omega
        have N3 : New w A3 := hN3.mono (Nat.le_trans b2.size (bdr (Below.refl _ _)).size)
        have hl3 := (HF.out _ (Below.refl _ _)).len
        refine RetA.mk ?_ (hS3.past5 _ _ _ _ _ M3) N3 (below_set5 (bst b2 B3) (by omega) _ _ _ _ _)
        rw [← H.out, sDrop_ok (x := x) H0.out rfl, if_neg (show ¬ x < 0 by omega)]
        simp only [vecA]
        rw [HLV.out, HP.out]
        exact congrArg (fun m : Nat => ((⟨k', 1, (m : Int), 0, (ys.drop p)⟩ : Arr), (0 : Int))) hl3
  · have he := h
    rw [sDrop_err h0] at he
    obtain ⟨ec, hec⟩ : ∃ ec, twoE ⟨k, r, l0, l1, xs⟩ ⟨k', r', l0', l1', ys⟩ 0 1 = ec := ⟨_, rfl⟩
    rw [hec] at h0 he
    have HEC := Lib.hid hec
    have HR := Lib.hid he
    have HS := Lib.hid hs
    have HS' := Lib.hid hs'
    have hne : (ec != 0) = true := by simpa using h0
    clear hec h0 he h hs hs'
    go_enter Try.func16, Try.ntmps16
    go_wp2_with fail
    refine (rtwo_any _ _ _ _ _ _ _ xs _ _ _ _ _ _ _ ys _ _ _ _ (HS.out.step (below3 _ _ _ _)) (HS'.out.step (below3 _ _ _ _)) HEC.out).mono ?_
    rintro e w1 ⟨rfl, hb1⟩
    obtain ⟨X0, X1, X2, b1⟩ := after3 hb1
    clear hb1
    have g2 : ∀ i, w1.cell? ⟨w.heap.size + 1 + 1, i, none⟩ = _ := Bx.cell X2
    have f2 : ∀ i, w1.frozen? ⟨w.heap.size + 1 + 1, i, none⟩ = false := Bx.frozen X2
    go_wp2
    refine retAE (B := w.heap.size + 1 + 1) rfl rfl rfl rfl (Bx.set5 X2 _ _ _ _ _) ?_
    exact RetA.mk HR.out.symm (Sl.nil _) (fun _ _ _ h => by cases h) (below_set5 b1 (by omega) _ _ _ _ _)
end Go.Proofs.Ytoapgknkenlcgaa

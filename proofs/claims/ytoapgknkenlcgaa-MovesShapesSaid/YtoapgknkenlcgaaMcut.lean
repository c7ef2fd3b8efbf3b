/-
  moves.vector, moves.place, moves.cut.
-/
import Derived.Test.YtoapgknkenlcgaaMspec
import Derived.Test.YtoapgknkenlcgaaLib
import Derived.Test.YtoapgknkenlcgaaBase2
import Derived.Deep.RegionHeld3
namespace Go.Proofs.Ytoapgknkenlcgaa
open Go.RowKit

set_option maxHeartbeats 400000 in
theorem mvector_any (k : Int) (A : Option Addr) (n c : Nat) (w : World) :
    Calls Try.prog 43 #[.int .i64 k, .slice A n c] w fun e w' => e = .returned (.agg #[.int .i64 k, .int .i64 1, .int .i64 n, .int .i64 0, .slice A n c]) ∧ Below w.heap.size w w' := by
  go_enter Try.func43, Try.ntmps43
  go_wp2
  refine bodyPost_ret (v := .agg #[.int .i64 k, .int .i64 1, .int .i64 n, .int .i64 0, .slice A n c]) (by simp [results, Try.results43, go_sem]) rfl ?_
  exact ⟨rfl, bal (Below.refl _ _) _⟩

set_option maxHeartbeats 400000 in
theorem place_any (x : Int) (m q : Nat) (w : World) (hq : cutAt x m = q) (h0 : -9223372036854775808 ≤ x) (h1 : x ≤ 9223372036854775807) (hm : m ≤ 1000) :
    Calls Try.prog 57 #[.int .i64 x, .int .i64 m] w fun e w' => e = .returned (.tuple #[.int .i64 q, .bool (decide (x < 0))]) ∧ w' = w := by
  have HQ := Lib.hid hq
  clear hq
  by_cases hx : x < 0
  · by_cases hy : (m : Int) + x < 0
    · have hc : ((cutAt x m : Nat) : Int) = 0 := by unfold cutAt; rw [if_pos hx]; omega
      have HC := Lib.hid hc
      clear hc
      go_enter Try.func57, Try.ntmps57
      go_wp2
      go_ret2
      refine ⟨?_, rfl⟩
      rw [← HQ.out, HC.out]
      simp [hx]
    · have hc : ((cutAt x m : Nat) : Int) = (m : Int) + x := by unfold cutAt; rw [if_pos hx]; omega
      have HC := Lib.hid hc
      clear hc
      go_enter Try.func57, Try.ntmps57
      go_wp2
      go_ret2
      refine ⟨?_, rfl⟩
      rw [← HQ.out, HC.out]
      simp
  · by_cases hy : x ≤ (m : Int)
    · have hc : ((cutAt x m : Nat) : Int) = x := by unfold cutAt; rw [if_neg hx]; omega
      have HC := Lib.hid hc
      clear hc
      go_enter Try.func57, Try.ntmps57
      go_wp2
      go_ret2
      refine ⟨?_, rfl⟩
      rw [← HQ.out, HC.out]
      simp; omega
    · have hc : ((cutAt x m : Nat) : Int) = (m : Int) := by unfold cutAt; rw [if_neg hx]; omega
      have HC := Lib.hid hc
      clear hc
      go_enter Try.func57, Try.ntmps57
      go_wp2
      go_ret2
      refine ⟨?_, rfl⟩
      rw [← HQ.out, HC.out]
      simp; omega

/-- What moves.cut leaves: two vectors, and no error. -/
def RetCut (w0 : World) (k : Int) (xs ys : List Int) (e : Ending) (w' : World) : Prop :=
  (∃ (A1 : Option Addr) (n1 c1 : Nat) (A2 : Option Addr) (n2 c2 : Nat), e = .returned (.tuple #[.agg #[.int .i64 k, .int .i64 1, .int .i64 (n1 : Int), .int .i64 0, .slice A1 n1 c1], .agg #[.int .i64 k, .int .i64 1, .int .i64 (n2 : Int), .int .i64 0, .slice A2 n2 c2], .int .i64 0]) ∧ Sl w' A1 n1 c1 xs ∧ Sl w' A2 n2 c2 ys ∧ New w0 A1 ∧ New w0 A2) ∧ Below w0.heap.size w0 w'

set_option maxHeartbeats 4000000 in
theorem cut_ok (k r l0 l1 : Int) (A : Option Addr) (n c : Nat) (xs : List Int) (k' r' l0' l1' : Int) (A' : Option Addr) (n' c' : Nat) (ys : List Int) (w : World)
    (hs : Sl w A n c xs) (hs' : Sl w A' n' c' ys) (hwf : ∀ x ∈ xs, -9223372036854775808 ≤ x ∧ x ≤ 9223372036854775807) (h : twoE ⟨k, r, l0, l1, xs⟩ ⟨k', r', l0', l1', ys⟩ 0 1 = 0) :
    Calls Try.prog 39 #[.agg #[.int .i64 k, .int .i64 r, .int .i64 l0, .int .i64 l1, .slice A n c], .agg #[.int .i64 k', .int .i64 r', .int .i64 l0', .int .i64 l1', .slice A' n' c']] w (RetCut w k' (sTake ⟨k, r, l0, l1, xs⟩ ⟨k', r', l0', l1', ys⟩).1.c (sDrop ⟨k, r, l0, l1, xs⟩ ⟨k', r', l0', l1', ys⟩).1.c) := by
  obtain ⟨ha, hv, hk, hr, hr'⟩ := twoE_ok h
  simp only [chkA] at ha hv
  obtain ⟨x, rfl⟩ := scalar_one ha hr
  have hl := achk_len hv
  have hlv := hs'.len
  have hcv := hs'.cap
  have hmv := hs'.most
  have hn' : n' ≤ 400 := by omega
  obtain rfl : n = 1 := hs.len.symm
  obtain ⟨b, o, rfl, hbl, hcx⟩ := hs.at_ (k := 0) (by omega)
  have hx := hwf x (by simp)
  obtain ⟨hx0, hx1⟩ := hx
  have hcut := cutAt_le x n'
  have H := Lib.hid h
  have HS := Lib.hid hs
  have HS' := Lib.hid hs'
  have HLV := Lib.hid hlv
  have HCX := Lib.hid hcx
  have hT : (sTake ⟨k, r, l0, l1, [x]⟩ ⟨k', r', l0', l1', ys⟩).1.c = if x < 0 then ys.drop (cutAt x n') else ys.take (cutAt x n') := by
    rw [sTake_ok (x := x) h rfl, ← hlv]; rfl
  have hD : (sDrop ⟨k, r, l0, l1, [x]⟩ ⟨k', r', l0', l1', ys⟩).1.c = if x < 0 then ys.take (cutAt x n') else ys.drop (cutAt x n') := by
    rw [sDrop_ok (x := x) h rfl, ← hlv]; rfl
  rw [hT, hD]
  clear h hs hs' hwf ha hv hk hr hr' hl hlv hcx hT hD
  generalize hq : cutAt x n' = q at hcut ⊢
  have HQ := Lib.hid hq
  clear hq
  generalize hZ1 : (if x < 0 then ys.drop q else ys.take q) = Z1
  generalize hZ2 : (if x < 0 then ys.take q else ys.drop q) = Z2
  have HZ1 := Lib.hid hZ1
  have HZ2 := Lib.hid hZ2
  clear hZ1 hZ2
  go_enter Try.func39, Try.ntmps39
  go_wp2_with fail
  refine (two_any _ _ _ _ _ _ _ [x] _ _ _ _ _ _ _ ys _ _ _ _ (HS.out.step (below4 _ _ _ _ _)) (HS'.out.step (below4 _ _ _ _ _)) H.out).mono ?_
  rintro e w1 ⟨rfl, hb1⟩
  obtain ⟨X0, X1, X2, X3, b1⟩ := after4 hb1
  clear hb1
  have c0 : ∀ i, w1.cell? ⟨w.heap.size, i, none⟩ = _ := Bx.cell X0
  have c1 : ∀ i, w1.cell? ⟨w.heap.size + 1, i, none⟩ = _ := Bx.cell X1
  have cx : w1.cell? ⟨b, o, none⟩ = some (.int .i64 x) := (b1.cell (p := ⟨b, o, none⟩) hbl).trans HCX.out
  go_wp2
  go_quiet ((go_at_call 57; exact Calls.quiet_of_same (place_any x n' q _ HQ.out hx0 hx1 (by omega))))
  go_wp2
  have b2 : Below w.heap.size w (w1.drewN nq) := bdn b1 _
  have d1 : (w1.drewN nq).cell? ⟨w.heap.size + 1, 0, none⟩ = some (.int .i64 k') := c1 0
  have d4 : (w1.drewN nq).cell? ⟨w.heap.size + 1, 4, none⟩ = some (.slice A' n' c') := c1 4
  clear cx c0 c1
  have hq0 : (0 : Int) ≤ (q : Int) := by omega
  have hq1 : (q : Int) ≤ (c' : Int) := by omega
  have hq2 : (q : Int) ≤ (n' : Int) := by omega
  have hs0 := HS'.out.step b2
  have HS0 := Lib.hid hs0
  clear hs0
  obtain ⟨w2, hw2⟩ : ∃ w2, w1.drewN nq = w2 := ⟨_, rfl⟩
  rw [hw2] at b2 d1 d4 HS0 ⊢
  have Y1 : Bx w2 (w.heap.size + 1) #[.int .i64 k', .int .i64 r', .int .i64 l0', .int .i64 l1', .slice A' n' c'] 25 := by rw [← hw2]; exact X1
  have Y2 : Bx w2 (w.heap.size + 1 + 1) #[.int .i64 0, .int .i64 0, .int .i64 0, .int .i64 0, .slice none 0 0] 25 := by rw [← hw2]; exact X2
  have Y3 : Bx w2 (w.heap.size + 1 + 1 + 1) #[.int .i64 0, .int .i64 0, .int .i64 0, .int .i64 0, .slice none 0 0] 25 := by rw [← hw2]; exact X3
  clear hw2 X0 X1 X2 X3 b1
  by_cases hcq : c' = q
  · subst hcq
    have hF : ∀ W, Below w2.heap.size w2 W → Sl W A' 0 0 (ys.drop c') := fun W hb => by
      have := (HS0.out.step hb).from hcut
      rw [if_pos rfl, show n' - c' = 0 by omega, Nat.sub_self] at this
      exact this
    have HF := Lib.hid hF
    clear hF
    have d10 : w2.drew.cell? ⟨w.heap.size + 1, 0, none⟩ = some (.int .i64 k') := d1
    have d40 : w2.drew.cell? ⟨w.heap.size + 1, 4, none⟩ = some (.slice A' n' c') := d4
    have B0 : Below w2.heap.size w2 w2.drew := bdr (Below.refl _ _)
    go_region_held3 (fun w' => w'.cell? ⟨w.heap.size + 1, 0, none⟩ = some (.int .i64 k') ∧ w'.cell? ⟨w.heap.size + 1, 4, none⟩ = some (.slice A' n' c'))
      (first | (with_reducible exact ⟨d10, d40⟩) | (with_reducible exact ⟨d13, d43⟩) | (with_reducible exact ⟨d14, d44⟩) | (with_reducible exact ⟨d15, d45⟩) | (with_reducible exact ⟨d16, d46⟩) | (with_reducible exact ⟨(set5_cell _ _ _ _ _ _ _ (by omega)).trans d16, (set5_cell _ _ _ _ _ _ _ (by omega)).trans d46⟩) | (with_reducible exact ⟨(set5_cell _ _ _ _ _ _ _ (by omega)).trans ((set5_cell _ _ _ _ _ _ _ (by omega)).trans d16), (set5_cell _ _ _ _ _ _ _ (by omega)).trans ((set5_cell _ _ _ _ _ _ _ (by omega)).trans d46)⟩))
      (first
        | (go_at_call 54; (with_reducible refine (clone_any A' c' c' (ys.take c') _ ((HS0.out.step (bdr (Below.refl _ _))).to hcut) (by omega)).mono ?_); rintro e w3 ⟨⟨A3, c3, rfl, _, hS3, hN3⟩, hb3⟩; have B3 := bst (bdr (Below.refl _ _)) hb3; have d13 : w3.cell? ⟨w.heap.size + 1, 0, none⟩ = some (.int .i64 k') := (Y1.step B3).cell 0; have d43 : w3.cell? ⟨w.heap.size + 1, 4, none⟩ = some (.slice A' n' c') := (Y1.step B3).cell 4)
        | (go_at_call 43; (with_reducible refine (mvector_any k' A3 c' c3 _).mono ?_); rintro e w4 ⟨rfl, hb4⟩; have B4 := bst B3 hb4; have d14 : w4.cell? ⟨w.heap.size + 1, 0, none⟩ = some (.int .i64 k') := (Y1.step B4).cell 0; have d44 : w4.cell? ⟨w.heap.size + 1, 4, none⟩ = some (.slice A' n' c') := (Y1.step B4).cell 4)
        | (go_at_call 54; (with_reducible refine (clone_any _ _ _ (ys.drop c') _ (HF.out _ B4) (by omega)).mono ?_); rintro e w5 ⟨⟨A5, c5, rfl, _, hS5, hN5⟩, hb5⟩; have B5 := bst B4 hb5; have d15 : w5.cell? ⟨w.heap.size + 1, 0, none⟩ = some (.int .i64 k') := (Y1.step B5).cell 0; have d45 : w5.cell? ⟨w.heap.size + 1, 4, none⟩ = some (.slice A' n' c') := (Y1.step B5).cell 4)
        | (go_at_call 43; (with_reducible refine (mvector_any k' A5 _ c5 _).mono ?_); rintro e w6 ⟨rfl, hb6⟩; have B6 := bst B5 hb6; have d16 : w6.cell? ⟨w.heap.size + 1, 0, none⟩ = some (.int .i64 k') := (Y1.step B6).cell 0; have d46 : w6.cell? ⟨w.heap.size + 1, 4, none⟩ = some (.slice A' n' c') := (Y1.step B6).cell 4; have g2 : ∀ i, w6.cell? ⟨w.heap.size + 1 + 1, i, none⟩ = _ := (Y2.step B6).cell; have g3 : ∀ i, w6.cell? ⟨w.heap.size + 1 + 1 + 1, i, none⟩ = _ := (Y3.step B6).cell; have f2 : ∀ i, w6.frozen? ⟨w.heap.size + 1 + 1, i, none⟩ = false := (Y2.step B6).frozen; have f3 : ∀ i, w6.frozen? ⟨w.heap.size + 1 + 1 + 1, i, none⟩ = false := (Y3.step B6).frozen))
    have l3 := Y3.lt
    have N3 : New w A3 := hN3.mono b2.size
    have N5 : New w A5 := hN5.mono (Nat.le_trans b2.size B4.size)
    have n3 : ∀ b o, A3 = some ⟨b, o, none⟩ → w2.heap.size ≤ b := fun b o e => hN3 b o none e
    have n5 : ∀ b o, A5 = some ⟨b, o, none⟩ → w2.heap.size ≤ b := fun b o e => Nat.le_trans B4.size (hN5 b o none e)
    have z2 : Bx ((((((((((w6.setCell ⟨(w.heap.size + 1 + 1), 0, none⟩ (.int .i64 k')).setCell ⟨(w.heap.size + 1 + 1), 1, none⟩ (.int .i64 1)).setCell ⟨(w.heap.size + 1 + 1), 2, none⟩ (.int .i64 (c' : Nat))).setCell ⟨(w.heap.size + 1 + 1), 3, none⟩ (.int .i64 0)).setCell ⟨(w.heap.size + 1 + 1), 4, none⟩ (.slice A3 c' c3)).setCell ⟨(w.heap.size + 1 + 1 + 1), 0, none⟩ (.int .i64 k')).setCell ⟨(w.heap.size + 1 + 1 + 1), 1, none⟩ (.int .i64 1)).setCell ⟨(w.heap.size + 1 + 1 + 1), 2, none⟩ (.int .i64 0)).setCell ⟨(w.heap.size + 1 + 1 + 1), 3, none⟩ (.int .i64 0)).setCell ⟨(w.heap.size + 1 + 1 + 1), 4, none⟩ (.slice A5 0 c5)) (w.heap.size + 1 + 1) #[.int .i64 k', .int .i64 1, .int .i64 (c' : Nat), .int .i64 0, .slice A3 c' c3] 25 := ((Y2.step B6).set5 _ _ _ _ _).past5 _ _ _ _ _ (by omega)
    have z3 : Bx ((((((((((w6.setCell ⟨(w.heap.size + 1 + 1), 0, none⟩ (.int .i64 k')).setCell ⟨(w.heap.size + 1 + 1), 1, none⟩ (.int .i64 1)).setCell ⟨(w.heap.size + 1 + 1), 2, none⟩ (.int .i64 (c' : Nat))).setCell ⟨(w.heap.size + 1 + 1), 3, none⟩ (.int .i64 0)).setCell ⟨(w.heap.size + 1 + 1), 4, none⟩ (.slice A3 c' c3)).setCell ⟨(w.heap.size + 1 + 1 + 1), 0, none⟩ (.int .i64 k')).setCell ⟨(w.heap.size + 1 + 1 + 1), 1, none⟩ (.int .i64 1)).setCell ⟨(w.heap.size + 1 + 1 + 1), 2, none⟩ (.int .i64 0)).setCell ⟨(w.heap.size + 1 + 1 + 1), 3, none⟩ (.int .i64 0)).setCell ⟨(w.heap.size + 1 + 1 + 1), 4, none⟩ (.slice A5 0 c5)) (w.heap.size + 1 + 1 + 1) #[.int .i64 k', .int .i64 1, .int .i64 0, .int .i64 0, .slice A5 0 c5] 25 := ((Y3.step B6).past5 _ _ _ _ _ (by omega)).set5 _ _ _ _ _
    have s3 : Sl ((((((((((w6.setCell ⟨(w.heap.size + 1 + 1), 0, none⟩ (.int .i64 k')).setCell ⟨(w.heap.size + 1 + 1), 1, none⟩ (.int .i64 1)).setCell ⟨(w.heap.size + 1 + 1), 2, none⟩ (.int .i64 (c' : Nat))).setCell ⟨(w.heap.size + 1 + 1), 3, none⟩ (.int .i64 0)).setCell ⟨(w.heap.size + 1 + 1), 4, none⟩ (.slice A3 c' c3)).setCell ⟨(w.heap.size + 1 + 1 + 1), 0, none⟩ (.int .i64 k')).setCell ⟨(w.heap.size + 1 + 1 + 1), 1, none⟩ (.int .i64 1)).setCell ⟨(w.heap.size + 1 + 1 + 1), 2, none⟩ (.int .i64 0)).setCell ⟨(w.heap.size + 1 + 1 + 1), 3, none⟩ (.int .i64 0)).setCell ⟨(w.heap.size + 1 + 1 + 1), 4, none⟩ (.slice A5 0 c5)) A3 c' c3 (ys.take c') := ((((hS3.step hb4).step hb5).step hb6).past5 _ _ _ _ _ (fun b o e => by have := n3 b o e; omega)).past5 _ _ _ _ _ (fun b o e => by have := n3 b o e; omega)
    have s5 : Sl ((((((((((w6.setCell ⟨(w.heap.size + 1 + 1), 0, none⟩ (.int .i64 k')).setCell ⟨(w.heap.size + 1 + 1), 1, none⟩ (.int .i64 1)).setCell ⟨(w.heap.size + 1 + 1), 2, none⟩ (.int .i64 (c' : Nat))).setCell ⟨(w.heap.size + 1 + 1), 3, none⟩ (.int .i64 0)).setCell ⟨(w.heap.size + 1 + 1), 4, none⟩ (.slice A3 c' c3)).setCell ⟨(w.heap.size + 1 + 1 + 1), 0, none⟩ (.int .i64 k')).setCell ⟨(w.heap.size + 1 + 1 + 1), 1, none⟩ (.int .i64 1)).setCell ⟨(w.heap.size + 1 + 1 + 1), 2, none⟩ (.int .i64 0)).setCell ⟨(w.heap.size + 1 + 1 + 1), 3, none⟩ (.int .i64 0)).setCell ⟨(w.heap.size + 1 + 1 + 1), 4, none⟩ (.slice A5 0 c5)) A5 0 c5 (ys.drop c') := ((hS5.step hb6).past5 _ _ _ _ _ (fun b o e => by have := n5 b o e; omega)).past5 _ _ _ _ _ (fun b o e => by have := n5 b o e; omega)
    have b7 : Below w.heap.size w ((((((((((w6.setCell ⟨(w.heap.size + 1 + 1), 0, none⟩ (.int .i64 k')).setCell ⟨(w.heap.size + 1 + 1), 1, none⟩ (.int .i64 1)).setCell ⟨(w.heap.size + 1 + 1), 2, none⟩ (.int .i64 (c' : Nat))).setCell ⟨(w.heap.size + 1 + 1), 3, none⟩ (.int .i64 0)).setCell ⟨(w.heap.size + 1 + 1), 4, none⟩ (.slice A3 c' c3)).setCell ⟨(w.heap.size + 1 + 1 + 1), 0, none⟩ (.int .i64 k')).setCell ⟨(w.heap.size + 1 + 1 + 1), 1, none⟩ (.int .i64 1)).setCell ⟨(w.heap.size + 1 + 1 + 1), 2, none⟩ (.int .i64 0)).setCell ⟨(w.heap.size + 1 + 1 + 1), 3, none⟩ (.int .i64 0)).setCell ⟨(w.heap.size + 1 + 1 + 1), 4, none⟩ (.slice A5 0 c5)) := below_set5 (below_set5 (bst b2 B6) (by omega) _ _ _ _ _) (by omega) _ _ _ _ _
    generalize ((((((((((w6.setCell ⟨(w.heap.size + 1 + 1), 0, none⟩ (.int .i64 k')).setCell ⟨(w.heap.size + 1 + 1), 1, none⟩ (.int .i64 1)).setCell ⟨(w.heap.size + 1 + 1), 2, none⟩ (.int .i64 (c' : Nat))).setCell ⟨(w.heap.size + 1 + 1), 3, none⟩ (.int .i64 0)).setCell ⟨(w.heap.size + 1 + 1), 4, none⟩ (.slice A3 c' c3)).setCell ⟨(w.heap.size + 1 + 1 + 1), 0, none⟩ (.int .i64 k')).setCell ⟨(w.heap.size + 1 + 1 + 1), 1, none⟩ (.int .i64 1)).setCell ⟨(w.heap.size + 1 + 1 + 1), 2, none⟩ (.int .i64 0)).setCell ⟨(w.heap.size + 1 + 1 + 1), 3, none⟩ (.int .i64 0)).setCell ⟨(w.heap.size + 1 + 1 + 1), 4, none⟩ (.slice A5 0 c5)) = w7 at z2 z3 s3 s5 b7 ⊢
    have S3 := Lib.hid s3
    have S5 := Lib.hid s5
    clear s3 s5 g2 g3 f2 f3 d10 d40 d13 d43 d14 d44 d15 d45 d16 d46
    have g2 : ∀ i, w7.cell? ⟨w.heap.size + 1 + 1, i, none⟩ = _ := z2.cell
    have g3 : ∀ i, w7.cell? ⟨w.heap.size + 1 + 1 + 1, i, none⟩ = _ := z3.cell
    have f2 : ∀ i, w7.frozen? ⟨w.heap.size + 1 + 1, i, none⟩ = false := z2.frozen
    have f3 : ∀ i, w7.frozen? ⟨w.heap.size + 1 + 1 + 1, i, none⟩ = false := z3.frozen
    by_cases hx : x < 0
    · go_wp2
      go_region
      have y2wA : Bx (((((w7.setCell ⟨(w.heap.size + 1 + 1), 0, none⟩ (.int .i64 k')).setCell ⟨(w.heap.size + 1 + 1), 1, none⟩ (.int .i64 1)).setCell ⟨(w.heap.size + 1 + 1), 2, none⟩ (.int .i64 0)).setCell ⟨(w.heap.size + 1 + 1), 3, none⟩ (.int .i64 0)).setCell ⟨(w.heap.size + 1 + 1), 4, none⟩ (.slice A5 0 c5)) (w.heap.size + 1 + 1) #[.int .i64 k', .int .i64 1, .int .i64 0, .int .i64 0, .slice A5 0 c5] 25 := (z2).set5 _ _ _ _ _
      have y3wA : Bx (((((w7.setCell ⟨(w.heap.size + 1 + 1), 0, none⟩ (.int .i64 k')).setCell ⟨(w.heap.size + 1 + 1), 1, none⟩ (.int .i64 1)).setCell ⟨(w.heap.size + 1 + 1), 2, none⟩ (.int .i64 0)).setCell ⟨(w.heap.size + 1 + 1), 3, none⟩ (.int .i64 0)).setCell ⟨(w.heap.size + 1 + 1), 4, none⟩ (.slice A5 0 c5)) (w.heap.size + 1 + 1 + 1) #[.int .i64 k', .int .i64 1, .int .i64 0, .int .i64 0, .slice A5 0 c5] 25 := (z3).past5 _ _ _ _ _ (by omega)
      have t3wA : Sl (((((w7.setCell ⟨(w.heap.size + 1 + 1), 0, none⟩ (.int .i64 k')).setCell ⟨(w.heap.size + 1 + 1), 1, none⟩ (.int .i64 1)).setCell ⟨(w.heap.size + 1 + 1), 2, none⟩ (.int .i64 0)).setCell ⟨(w.heap.size + 1 + 1), 3, none⟩ (.int .i64 0)).setCell ⟨(w.heap.size + 1 + 1), 4, none⟩ (.slice A5 0 c5)) A3 c' c3 (ys.take c') := (S3.out).past5 _ _ _ _ _ (fun b o e => by have := n3 b o e; omega)
      have t5wA : Sl (((((w7.setCell ⟨(w.heap.size + 1 + 1), 0, none⟩ (.int .i64 k')).setCell ⟨(w.heap.size + 1 + 1), 1, none⟩ (.int .i64 1)).setCell ⟨(w.heap.size + 1 + 1), 2, none⟩ (.int .i64 0)).setCell ⟨(w.heap.size + 1 + 1), 3, none⟩ (.int .i64 0)).setCell ⟨(w.heap.size + 1 + 1), 4, none⟩ (.slice A5 0 c5)) A5 0 c5 (ys.drop c') := (S5.out).past5 _ _ _ _ _ (fun b o e => by have := n5 b o e; omega)
      have bwA : Below w.heap.size w (((((w7.setCell ⟨(w.heap.size + 1 + 1), 0, none⟩ (.int .i64 k')).setCell ⟨(w.heap.size + 1 + 1), 1, none⟩ (.int .i64 1)).setCell ⟨(w.heap.size + 1 + 1), 2, none⟩ (.int .i64 0)).setCell ⟨(w.heap.size + 1 + 1), 3, none⟩ (.int .i64 0)).setCell ⟨(w.heap.size + 1 + 1), 4, none⟩ (.slice A5 0 c5)) := below_set5 (b7) (by omega) _ _ _ _ _
      generalize (((((w7.setCell ⟨(w.heap.size + 1 + 1), 0, none⟩ (.int .i64 k')).setCell ⟨(w.heap.size + 1 + 1), 1, none⟩ (.int .i64 1)).setCell ⟨(w.heap.size + 1 + 1), 2, none⟩ (.int .i64 0)).setCell ⟨(w.heap.size + 1 + 1), 3, none⟩ (.int .i64 0)).setCell ⟨(w.heap.size + 1 + 1), 4, none⟩ (.slice A5 0 c5)) = wA at y2wA y3wA t3wA t5wA bwA ⊢
      have y2wB : Bx (((((wA.setCell ⟨(w.heap.size + 1 + 1 + 1), 0, none⟩ (.int .i64 k')).setCell ⟨(w.heap.size + 1 + 1 + 1), 1, none⟩ (.int .i64 1)).setCell ⟨(w.heap.size + 1 + 1 + 1), 2, none⟩ (.int .i64 (c' : Nat))).setCell ⟨(w.heap.size + 1 + 1 + 1), 3, none⟩ (.int .i64 0)).setCell ⟨(w.heap.size + 1 + 1 + 1), 4, none⟩ (.slice A3 c' c3)) (w.heap.size + 1 + 1) #[.int .i64 k', .int .i64 1, .int .i64 0, .int .i64 0, .slice A5 0 c5] 25 := (y2wA).past5 _ _ _ _ _ (by omega)
      have y3wB : Bx (((((wA.setCell ⟨(w.heap.size + 1 + 1 + 1), 0, none⟩ (.int .i64 k')).setCell ⟨(w.heap.size + 1 + 1 + 1), 1, none⟩ (.int .i64 1)).setCell ⟨(w.heap.size + 1 + 1 + 1), 2, none⟩ (.int .i64 (c' : Nat))).setCell ⟨(w.heap.size + 1 + 1 + 1), 3, none⟩ (.int .i64 0)).setCell ⟨(w.heap.size + 1 + 1 + 1), 4, none⟩ (.slice A3 c' c3)) (w.heap.size + 1 + 1 + 1) #[.int .i64 k', .int .i64 1, .int .i64 (c' : Nat), .int .i64 0, .slice A3 c' c3] 25 := (y3wA).set5 _ _ _ _ _
      have t3wB : Sl (((((wA.setCell ⟨(w.heap.size + 1 + 1 + 1), 0, none⟩ (.int .i64 k')).setCell ⟨(w.heap.size + 1 + 1 + 1), 1, none⟩ (.int .i64 1)).setCell ⟨(w.heap.size + 1 + 1 + 1), 2, none⟩ (.int .i64 (c' : Nat))).setCell ⟨(w.heap.size + 1 + 1 + 1), 3, none⟩ (.int .i64 0)).setCell ⟨(w.heap.size + 1 + 1 + 1), 4, none⟩ (.slice A3 c' c3)) A3 c' c3 (ys.take c') := (t3wA).past5 _ _ _ _ _ (fun b o e => by have := n3 b o e; omega)
      have t5wB : Sl (((((wA.setCell ⟨(w.heap.size + 1 + 1 + 1), 0, none⟩ (.int .i64 k')).setCell ⟨(w.heap.size + 1 + 1 + 1), 1, none⟩ (.int .i64 1)).setCell ⟨(w.heap.size + 1 + 1 + 1), 2, none⟩ (.int .i64 (c' : Nat))).setCell ⟨(w.heap.size + 1 + 1 + 1), 3, none⟩ (.int .i64 0)).setCell ⟨(w.heap.size + 1 + 1 + 1), 4, none⟩ (.slice A3 c' c3)) A5 0 c5 (ys.drop c') := (t5wA).past5 _ _ _ _ _ (fun b o e => by have := n5 b o e; omega)
      have bwB : Below w.heap.size w (((((wA.setCell ⟨(w.heap.size + 1 + 1 + 1), 0, none⟩ (.int .i64 k')).setCell ⟨(w.heap.size + 1 + 1 + 1), 1, none⟩ (.int .i64 1)).setCell ⟨(w.heap.size + 1 + 1 + 1), 2, none⟩ (.int .i64 (c' : Nat))).setCell ⟨(w.heap.size + 1 + 1 + 1), 3, none⟩ (.int .i64 0)).setCell ⟨(w.heap.size + 1 + 1 + 1), 4, none⟩ (.slice A3 c' c3)) := below_set5 (bwA) (by omega) _ _ _ _ _
      generalize (((((wA.setCell ⟨(w.heap.size + 1 + 1 + 1), 0, none⟩ (.int .i64 k')).setCell ⟨(w.heap.size + 1 + 1 + 1), 1, none⟩ (.int .i64 1)).setCell ⟨(w.heap.size + 1 + 1 + 1), 2, none⟩ (.int .i64 (c' : Nat))).setCell ⟨(w.heap.size + 1 + 1 + 1), 3, none⟩ (.int .i64 0)).setCell ⟨(w.heap.size + 1 + 1 + 1), 4, none⟩ (.slice A3 c' c3)) = wB at y2wB y3wB t3wB t5wB bwB ⊢
      have y2wC : Bx (((((wB.setCell ⟨(w.heap.size + 1 + 1), 0, none⟩ (.int .i64 k')).setCell ⟨(w.heap.size + 1 + 1), 1, none⟩ (.int .i64 1)).setCell ⟨(w.heap.size + 1 + 1), 2, none⟩ (.int .i64 0)).setCell ⟨(w.heap.size + 1 + 1), 3, none⟩ (.int .i64 0)).setCell ⟨(w.heap.size + 1 + 1), 4, none⟩ (.slice A5 0 c5)) (w.heap.size + 1 + 1) #[.int .i64 k', .int .i64 1, .int .i64 0, .int .i64 0, .slice A5 0 c5] 25 := (y2wB).set5 _ _ _ _ _
      have y3wC : Bx (((((wB.setCell ⟨(w.heap.size + 1 + 1), 0, none⟩ (.int .i64 k')).setCell ⟨(w.heap.size + 1 + 1), 1, none⟩ (.int .i64 1)).setCell ⟨(w.heap.size + 1 + 1), 2, none⟩ (.int .i64 0)).setCell ⟨(w.heap.size + 1 + 1), 3, none⟩ (.int .i64 0)).setCell ⟨(w.heap.size + 1 + 1), 4, none⟩ (.slice A5 0 c5)) (w.heap.size + 1 + 1 + 1) #[.int .i64 k', .int .i64 1, .int .i64 (c' : Nat), .int .i64 0, .slice A3 c' c3] 25 := (y3wB).past5 _ _ _ _ _ (by omega)
      have t3wC : Sl (((((wB.setCell ⟨(w.heap.size + 1 + 1), 0, none⟩ (.int .i64 k')).setCell ⟨(w.heap.size + 1 + 1), 1, none⟩ (.int .i64 1)).setCell ⟨(w.heap.size + 1 + 1), 2, none⟩ (.int .i64 0)).setCell ⟨(w.heap.size + 1 + 1), 3, none⟩ (.int .i64 0)).setCell ⟨(w.heap.size + 1 + 1), 4, none⟩ (.slice A5 0 c5)) A3 c' c3 (ys.take c') := (t3wB).past5 _ _ _ _ _ (fun b o e => by have := n3 b o e; omega)
      have t5wC : Sl (((((wB.setCell ⟨(w.heap.size + 1 + 1), 0, none⟩ (.int .i64 k')).setCell ⟨(w.heap.size + 1 + 1), 1, none⟩ (.int .i64 1)).setCell ⟨(w.heap.size + 1 + 1), 2, none⟩ (.int .i64 0)).setCell ⟨(w.heap.size + 1 + 1), 3, none⟩ (.int .i64 0)).setCell ⟨(w.heap.size + 1 + 1), 4, none⟩ (.slice A5 0 c5)) A5 0 c5 (ys.drop c') := (t5wB).past5 _ _ _ _ _ (fun b o e => by have := n5 b o e; omega)
      have bwC : Below w.heap.size w (((((wB.setCell ⟨(w.heap.size + 1 + 1), 0, none⟩ (.int .i64 k')).setCell ⟨(w.heap.size + 1 + 1), 1, none⟩ (.int .i64 1)).setCell ⟨(w.heap.size + 1 + 1), 2, none⟩ (.int .i64 0)).setCell ⟨(w.heap.size + 1 + 1), 3, none⟩ (.int .i64 0)).setCell ⟨(w.heap.size + 1 + 1), 4, none⟩ (.slice A5 0 c5)) := below_set5 (bwB) (by omega) _ _ _ _ _
      generalize (((((wB.setCell ⟨(w.heap.size + 1 + 1), 0, none⟩ (.int .i64 k')).setCell ⟨(w.heap.size + 1 + 1), 1, none⟩ (.int .i64 1)).setCell ⟨(w.heap.size + 1 + 1), 2, none⟩ (.int .i64 0)).setCell ⟨(w.heap.size + 1 + 1), 3, none⟩ (.int .i64 0)).setCell ⟨(w.heap.size + 1 + 1), 4, none⟩ (.slice A5 0 c5)) = wC at y2wC y3wC t3wC t5wC bwC ⊢
      have y2wD : Bx (((((wC.setCell ⟨(w.heap.size + 1 + 1 + 1), 0, none⟩ (.int .i64 k')).setCell ⟨(w.heap.size + 1 + 1 + 1), 1, none⟩ (.int .i64 1)).setCell ⟨(w.heap.size + 1 + 1 + 1), 2, none⟩ (.int .i64 (c' : Nat))).setCell ⟨(w.heap.size + 1 + 1 + 1), 3, none⟩ (.int .i64 0)).setCell ⟨(w.heap.size + 1 + 1 + 1), 4, none⟩ (.slice A3 c' c3)) (w.heap.size + 1 + 1) #[.int .i64 k', .int .i64 1, .int .i64 0, .int .i64 0, .slice A5 0 c5] 25 := (y2wC).past5 _ _ _ _ _ (by omega)
      have y3wD : Bx (((((wC.setCell ⟨(w.heap.size + 1 + 1 + 1), 0, none⟩ (.int .i64 k')).setCell ⟨(w.heap.size + 1 + 1 + 1), 1, none⟩ (.int .i64 1)).setCell ⟨(w.heap.size + 1 + 1 + 1), 2, none⟩ (.int .i64 (c' : Nat))).setCell ⟨(w.heap.size + 1 + 1 + 1), 3, none⟩ (.int .i64 0)).setCell ⟨(w.heap.size + 1 + 1 + 1), 4, none⟩ (.slice A3 c' c3)) (w.heap.size + 1 + 1 + 1) #[.int .i64 k', .int .i64 1, .int .i64 (c' : Nat), .int .i64 0, .slice A3 c' c3] 25 := (y3wC).set5 _ _ _ _ _
      have t3wD : Sl (((((wC.setCell ⟨(w.heap.size + 1 + 1 + 1), 0, none⟩ (.int .i64 k')).setCell ⟨(w.heap.size + 1 + 1 + 1), 1, none⟩ (.int .i64 1)).setCell ⟨(w.heap.size + 1 + 1 + 1), 2, none⟩ (.int .i64 (c' : Nat))).setCell ⟨(w.heap.size + 1 + 1 + 1), 3, none⟩ (.int .i64 0)).setCell ⟨(w.heap.size + 1 + 1 + 1), 4, none⟩ (.slice A3 c' c3)) A3 c' c3 (ys.take c') := (t3wC).past5 _ _ _ _ _ (fun b o e => by have := n3 b o e; omega)
      have t5wD : Sl (((((wC.setCell ⟨(w.heap.size + 1 + 1 + 1), 0, none⟩ (.int .i64 k')).setCell ⟨(w.heap.size + 1 + 1 + 1), 1, none⟩ (.int .i64 1)).setCell ⟨(w.heap.size + 1 + 1 + 1), 2, none⟩ (.int .i64 (c' : Nat))).setCell ⟨(w.heap.size + 1 + 1 + 1), 3, none⟩ (.int .i64 0)).setCell ⟨(w.heap.size + 1 + 1 + 1), 4, none⟩ (.slice A3 c' c3)) A5 0 c5 (ys.drop c') := (t5wC).past5 _ _ _ _ _ (fun b o e => by have := n5 b o e; omega)
      have bwD : Below w.heap.size w (((((wC.setCell ⟨(w.heap.size + 1 + 1 + 1), 0, none⟩ (.int .i64 k')).setCell ⟨(w.heap.size + 1 + 1 + 1), 1, none⟩ (.int .i64 1)).setCell ⟨(w.heap.size + 1 + 1 + 1), 2, none⟩ (.int .i64 (c' : Nat))).setCell ⟨(w.heap.size + 1 + 1 + 1), 3, none⟩ (.int .i64 0)).setCell ⟨(w.heap.size + 1 + 1 + 1), 4, none⟩ (.slice A3 c' c3)) := below_set5 (bwC) (by omega) _ _ _ _ _
      generalize (((((wC.setCell ⟨(w.heap.size + 1 + 1 + 1), 0, none⟩ (.int .i64 k')).setCell ⟨(w.heap.size + 1 + 1 + 1), 1, none⟩ (.int .i64 1)).setCell ⟨(w.heap.size + 1 + 1 + 1), 2, none⟩ (.int .i64 (c' : Nat))).setCell ⟨(w.heap.size + 1 + 1 + 1), 3, none⟩ (.int .i64 0)).setCell ⟨(w.heap.size + 1 + 1 + 1), 4, none⟩ (.slice A3 c' c3)) = wD at y2wD y3wD t3wD t5wD bwD ⊢
      have U3 := Lib.hid (t3wD.step (bdr (Below.refl _ _)))
      have U5 := Lib.hid (t5wD.step (bdr (Below.refl _ _)))
      clear t3wA t5wA t3wB t5wB t3wC t5wC t3wD t5wD g2 g3 f2 f3
      have g2 : ∀ i, wD.cell? ⟨w.heap.size + 1 + 1, i, none⟩ = _ := y2wD.cell
      have g3 : ∀ i, wD.cell? ⟨w.heap.size + 1 + 1 + 1, i, none⟩ = _ := y3wD.cell
      go_wp2
      refine bodyPost_ret (v := .tuple #[.agg #[.int .i64 k', .int .i64 1, .int .i64 0, .int .i64 0, .slice A5 0 c5], .agg #[.int .i64 k', .int .i64 1, .int .i64 (c' : Nat), .int .i64 0, .slice A3 c' c3], .int .i64 0]) (by simp [results, Try.results39, go_sem, g2, g3]) rfl ?_
      have e1 := HZ1.out
      have e2 := HZ2.out
      rw [if_pos (show x < 0 by omega)] at e1 e2
      subst e1 e2
      exact ⟨⟨_, _, _, _, _, _, rfl, U5.out, U3.out, N5, N3⟩, bdr bwD⟩
    · go_wp2
      go_region
      have y2wA : Bx (((((w7.setCell ⟨(w.heap.size + 1 + 1), 0, none⟩ (.int .i64 k')).setCell ⟨(w.heap.size + 1 + 1), 1, none⟩ (.int .i64 1)).setCell ⟨(w.heap.size + 1 + 1), 2, none⟩ (.int .i64 (c' : Nat))).setCell ⟨(w.heap.size + 1 + 1), 3, none⟩ (.int .i64 0)).setCell ⟨(w.heap.size + 1 + 1), 4, none⟩ (.slice A3 c' c3)) (w.heap.size + 1 + 1) #[.int .i64 k', .int .i64 1, .int .i64 (c' : Nat), .int .i64 0, .slice A3 c' c3] 25 := (z2).set5 _ _ _ _ _
      have y3wA : Bx (((((w7.setCell ⟨(w.heap.size + 1 + 1), 0, none⟩ (.int .i64 k')).setCell ⟨(w.heap.size + 1 + 1), 1, none⟩ (.int .i64 1)).setCell ⟨(w.heap.size + 1 + 1), 2, none⟩ (.int .i64 (c' : Nat))).setCell ⟨(w.heap.size + 1 + 1), 3, none⟩ (.int .i64 0)).setCell ⟨(w.heap.size + 1 + 1), 4, none⟩ (.slice A3 c' c3)) (w.heap.size + 1 + 1 + 1) #[.int .i64 k', .int .i64 1, .int .i64 0, .int .i64 0, .slice A5 0 c5] 25 := (z3).past5 _ _ _ _ _ (by omega)
      have t3wA : Sl (((((w7.setCell ⟨(w.heap.size + 1 + 1), 0, none⟩ (.int .i64 k')).setCell ⟨(w.heap.size + 1 + 1), 1, none⟩ (.int .i64 1)).setCell ⟨(w.heap.size + 1 + 1), 2, none⟩ (.int .i64 (c' : Nat))).setCell ⟨(w.heap.size + 1 + 1), 3, none⟩ (.int .i64 0)).setCell ⟨(w.heap.size + 1 + 1), 4, none⟩ (.slice A3 c' c3)) A3 c' c3 (ys.take c') := (S3.out).past5 _ _ _ _ _ (fun b o e => by have := n3 b o e; omega)
      have t5wA : Sl (((((w7.setCell ⟨(w.heap.size + 1 + 1), 0, none⟩ (.int .i64 k')).setCell ⟨(w.heap.size + 1 + 1), 1, none⟩ (.int .i64 1)).setCell ⟨(w.heap.size + 1 + 1), 2, none⟩ (.int .i64 (c' : Nat))).setCell ⟨(w.heap.size + 1 + 1), 3, none⟩ (.int .i64 0)).setCell ⟨(w.heap.size + 1 + 1), 4, none⟩ (.slice A3 c' c3)) A5 0 c5 (ys.drop c') := (S5.out).past5 _ _ _ _ _ (fun b o e => by have := n5 b o e; omega)
      have bwA : Below w.heap.size w (((((w7.setCell ⟨(w.heap.size + 1 + 1), 0, none⟩ (.int .i64 k')).setCell ⟨(w.heap.size + 1 + 1), 1, none⟩ (.int .i64 1)).setCell ⟨(w.heap.size + 1 + 1), 2, none⟩ (.int .i64 (c' : Nat))).setCell ⟨(w.heap.size + 1 + 1), 3, none⟩ (.int .i64 0)).setCell ⟨(w.heap.size + 1 + 1), 4, none⟩ (.slice A3 c' c3)) := below_set5 (b7) (by omega) _ _ _ _ _
      generalize (((((w7.setCell ⟨(w.heap.size + 1 + 1), 0, none⟩ (.int .i64 k')).setCell ⟨(w.heap.size + 1 + 1), 1, none⟩ (.int .i64 1)).setCell ⟨(w.heap.size + 1 + 1), 2, none⟩ (.int .i64 (c' : Nat))).setCell ⟨(w.heap.size + 1 + 1), 3, none⟩ (.int .i64 0)).setCell ⟨(w.heap.size + 1 + 1), 4, none⟩ (.slice A3 c' c3)) = wA at y2wA y3wA t3wA t5wA bwA ⊢
      have y2wB : Bx (((((wA.setCell ⟨(w.heap.size + 1 + 1 + 1), 0, none⟩ (.int .i64 k')).setCell ⟨(w.heap.size + 1 + 1 + 1), 1, none⟩ (.int .i64 1)).setCell ⟨(w.heap.size + 1 + 1 + 1), 2, none⟩ (.int .i64 0)).setCell ⟨(w.heap.size + 1 + 1 + 1), 3, none⟩ (.int .i64 0)).setCell ⟨(w.heap.size + 1 + 1 + 1), 4, none⟩ (.slice A5 0 c5)) (w.heap.size + 1 + 1) #[.int .i64 k', .int .i64 1, .int .i64 (c' : Nat), .int .i64 0, .slice A3 c' c3] 25 := (y2wA).past5 _ _ _ _ _ (by omega)
      have y3wB : Bx (((((wA.setCell ⟨(w.heap.size + 1 + 1 + 1), 0, none⟩ (.int .i64 k')).setCell ⟨(w.heap.size + 1 + 1 + 1), 1, none⟩ (.int .i64 1)).setCell ⟨(w.heap.size + 1 + 1 + 1), 2, none⟩ (.int .i64 0)).setCell ⟨(w.heap.size + 1 + 1 + 1), 3, none⟩ (.int .i64 0)).setCell ⟨(w.heap.size + 1 + 1 + 1), 4, none⟩ (.slice A5 0 c5)) (w.heap.size + 1 + 1 + 1) #[.int .i64 k', .int .i64 1, .int .i64 0, .int .i64 0, .slice A5 0 c5] 25 := (y3wA).set5 _ _ _ _ _
      have t3wB : Sl (((((wA.setCell ⟨(w.heap.size + 1 + 1 + 1), 0, none⟩ (.int .i64 k')).setCell ⟨(w.heap.size + 1 + 1 + 1), 1, none⟩ (.int .i64 1)).setCell ⟨(w.heap.size + 1 + 1 + 1), 2, none⟩ (.int .i64 0)).setCell ⟨(w.heap.size + 1 + 1 + 1), 3, none⟩ (.int .i64 0)).setCell ⟨(w.heap.size + 1 + 1 + 1), 4, none⟩ (.slice A5 0 c5)) A3 c' c3 (ys.take c') := (t3wA).past5 _ _ _ _ _ (fun b o e => by have := n3 b o e; omega)
      have t5wB : Sl (((((wA.setCell ⟨(w.heap.size + 1 + 1 + 1), 0, none⟩ (.int .i64 k')).setCell ⟨(w.heap.size + 1 + 1 + 1), 1, none⟩ (.int .i64 1)).setCell ⟨(w.heap.size + 1 + 1 + 1), 2, none⟩ (.int .i64 0)).setCell ⟨(w.heap.size + 1 + 1 + 1), 3, none⟩ (.int .i64 0)).setCell ⟨(w.heap.size + 1 + 1 + 1), 4, none⟩ (.slice A5 0 c5)) A5 0 c5 (ys.drop c') := (t5wA).past5 _ _ _ _ _ (fun b o e => by have := n5 b o e; omega)
      have bwB : Below w.heap.size w (((((wA.setCell ⟨(w.heap.size + 1 + 1 + 1), 0, none⟩ (.int .i64 k')).setCell ⟨(w.heap.size + 1 + 1 + 1), 1, none⟩ (.int .i64 1)).setCell ⟨(w.heap.size + 1 + 1 + 1), 2, none⟩ (.int .i64 0)).setCell ⟨(w.heap.size + 1 + 1 + 1), 3, none⟩ (.int .i64 0)).setCell ⟨(w.heap.size + 1 + 1 + 1), 4, none⟩ (.slice A5 0 c5)) := below_set5 (bwA) (by omega) _ _ _ _ _
      generalize (((((wA.setCell ⟨(w.heap.size + 1 + 1 + 1), 0, none⟩ (.int .i64 k')).setCell ⟨(w.heap.size + 1 + 1 + 1), 1, none⟩ (.int .i64 1)).setCell ⟨(w.heap.size + 1 + 1 + 1), 2, none⟩ (.int .i64 0)).setCell ⟨(w.heap.size + 1 + 1 + 1), 3, none⟩ (.int .i64 0)).setCell ⟨(w.heap.size + 1 + 1 + 1), 4, none⟩ (.slice A5 0 c5)) = wB at y2wB y3wB t3wB t5wB bwB ⊢
      have U3 := Lib.hid (t3wB.step (bdr (Below.refl _ _)))
      have U5 := Lib.hid (t5wB.step (bdr (Below.refl _ _)))
      clear t3wA t5wA t3wB t5wB g2 g3 f2 f3
      have g2 : ∀ i, wB.cell? ⟨w.heap.size + 1 + 1, i, none⟩ = _ := y2wB.cell
      have g3 : ∀ i, wB.cell? ⟨w.heap.size + 1 + 1 + 1, i, none⟩ = _ := y3wB.cell
      go_wp2
      refine bodyPost_ret (v := .tuple #[.agg #[.int .i64 k', .int .i64 1, .int .i64 (c' : Nat), .int .i64 0, .slice A3 c' c3], .agg #[.int .i64 k', .int .i64 1, .int .i64 0, .int .i64 0, .slice A5 0 c5], .int .i64 0]) (by simp [results, Try.results39, go_sem, g2, g3]) rfl ?_
      have e1 := HZ1.out
      have e2 := HZ2.out
      rw [if_neg (show ¬ x < 0 by omega)] at e1 e2
      subst e1 e2
      exact ⟨⟨_, _, _, _, _, _, rfl, U3.out, U5.out, N3, N5⟩, bdr bwB⟩
  · have hF : ∀ W, Below w2.heap.size w2 W → Sl W (A'.map (·.add q)) (n' - q) (c' - q) (ys.drop q) := fun W hb => by
      have := (HS0.out.step hb).from hcut
      rw [if_neg hcq] at this
      exact this
    have HF := Lib.hid hF
    clear hF
    have d10 : w2.drew.cell? ⟨w.heap.size + 1, 0, none⟩ = some (.int .i64 k') := d1
    have d40 : w2.drew.cell? ⟨w.heap.size + 1, 4, none⟩ = some (.slice A' n' c') := d4
    have B0 : Below w2.heap.size w2 w2.drew := bdr (Below.refl _ _)
    go_region_held3 (fun w' => w'.cell? ⟨w.heap.size + 1, 0, none⟩ = some (.int .i64 k') ∧ w'.cell? ⟨w.heap.size + 1, 4, none⟩ = some (.slice A' n' c'))
      (first | (with_reducible exact ⟨d10, d40⟩) | (with_reducible exact ⟨d13, d43⟩) | (with_reducible exact ⟨d14, d44⟩) | (with_reducible exact ⟨d15, d45⟩) | (with_reducible exact ⟨d16, d46⟩) | (with_reducible exact ⟨(set5_cell _ _ _ _ _ _ _ (by omega)).trans d16, (set5_cell _ _ _ _ _ _ _ (by omega)).trans d46⟩) | (with_reducible exact ⟨(set5_cell _ _ _ _ _ _ _ (by omega)).trans ((set5_cell _ _ _ _ _ _ _ (by omega)).trans d16), (set5_cell _ _ _ _ _ _ _ (by omega)).trans ((set5_cell _ _ _ _ _ _ _ (by omega)).trans d46)⟩))
      (first
        | (go_at_call 54; (with_reducible refine (clone_any A' q c' (ys.take q) _ ((HS0.out.step (bdr (Below.refl _ _))).to hcut) (by omega)).mono ?_); rintro e w3 ⟨⟨A3, c3, rfl, _, hS3, hN3⟩, hb3⟩; have B3 := bst (bdr (Below.refl _ _)) hb3; have d13 : w3.cell? ⟨w.heap.size + 1, 0, none⟩ = some (.int .i64 k') := (Y1.step B3).cell 0; have d43 : w3.cell? ⟨w.heap.size + 1, 4, none⟩ = some (.slice A' n' c') := (Y1.step B3).cell 4)
        | (go_at_call 43; (with_reducible refine (mvector_any k' A3 q c3 _).mono ?_); rintro e w4 ⟨rfl, hb4⟩; have B4 := bst B3 hb4; have d14 : w4.cell? ⟨w.heap.size + 1, 0, none⟩ = some (.int .i64 k') := (Y1.step B4).cell 0; have d44 : w4.cell? ⟨w.heap.size + 1, 4, none⟩ = some (.slice A' n' c') := (Y1.step B4).cell 4)
        | (go_at_call 54; (with_reducible refine (clone_any _ _ _ (ys.drop q) _ (HF.out _ B4) (by omega)).mono ?_); rintro e w5 ⟨⟨A5, c5, rfl, _, hS5, hN5⟩, hb5⟩; have B5 := bst B4 hb5; have d15 : w5.cell? ⟨w.heap.size + 1, 0, none⟩ = some (.int .i64 k') := (Y1.step B5).cell 0; have d45 : w5.cell? ⟨w.heap.size + 1, 4, none⟩ = some (.slice A' n' c') := (Y1.step B5).cell 4)
        | (go_at_call 43; (with_reducible refine (mvector_any k' A5 _ c5 _).mono ?_); rintro e w6 ⟨rfl, hb6⟩; have B6 := bst B5 hb6; have d16 : w6.cell? ⟨w.heap.size + 1, 0, none⟩ = some (.int .i64 k') := (Y1.step B6).cell 0; have d46 : w6.cell? ⟨w.heap.size + 1, 4, none⟩ = some (.slice A' n' c') := (Y1.step B6).cell 4; have g2 : ∀ i, w6.cell? ⟨w.heap.size + 1 + 1, i, none⟩ = _ := (Y2.step B6).cell; have g3 : ∀ i, w6.cell? ⟨w.heap.size + 1 + 1 + 1, i, none⟩ = _ := (Y3.step B6).cell; have f2 : ∀ i, w6.frozen? ⟨w.heap.size + 1 + 1, i, none⟩ = false := (Y2.step B6).frozen; have f3 : ∀ i, w6.frozen? ⟨w.heap.size + 1 + 1 + 1, i, none⟩ = false := (Y3.step B6).frozen))
    have l3 := Y3.lt
    have N3 : New w A3 := hN3.mono b2.size
    have N5 : New w A5 := hN5.mono (Nat.le_trans b2.size B4.size)
    have n3 : ∀ b o, A3 = some ⟨b, o, none⟩ → w2.heap.size ≤ b := fun b o e => hN3 b o none e
    have n5 : ∀ b o, A5 = some ⟨b, o, none⟩ → w2.heap.size ≤ b := fun b o e => Nat.le_trans B4.size (hN5 b o none e)
    have z2 : Bx ((((((((((w6.setCell ⟨(w.heap.size + 1 + 1), 0, none⟩ (.int .i64 k')).setCell ⟨(w.heap.size + 1 + 1), 1, none⟩ (.int .i64 1)).setCell ⟨(w.heap.size + 1 + 1), 2, none⟩ (.int .i64 (q : Nat))).setCell ⟨(w.heap.size + 1 + 1), 3, none⟩ (.int .i64 0)).setCell ⟨(w.heap.size + 1 + 1), 4, none⟩ (.slice A3 q c3)).setCell ⟨(w.heap.size + 1 + 1 + 1), 0, none⟩ (.int .i64 k')).setCell ⟨(w.heap.size + 1 + 1 + 1), 1, none⟩ (.int .i64 1)).setCell ⟨(w.heap.size + 1 + 1 + 1), 2, none⟩ (.int .i64 ((n' - q : Nat) : Int))).setCell ⟨(w.heap.size + 1 + 1 + 1), 3, none⟩ (.int .i64 0)).setCell ⟨(w.heap.size + 1 + 1 + 1), 4, none⟩ (.slice A5 (n' - q) c5)) (w.heap.size + 1 + 1) #[.int .i64 k', .int .i64 1, .int .i64 (q : Nat), .int .i64 0, .slice A3 q c3] 25 := ((Y2.step B6).set5 _ _ _ _ _).past5 _ _ _ _ _ (by omega)
    have z3 : Bx ((((((((((w6.setCell ⟨(w.heap.size + 1 + 1), 0, none⟩ (.int .i64 k')).setCell ⟨(w.heap.size + 1 + 1), 1, none⟩ (.int .i64 1)).setCell ⟨(w.heap.size + 1 + 1), 2, none⟩ (.int .i64 (q : Nat))).setCell ⟨(w.heap.size + 1 + 1), 3, none⟩ (.int .i64 0)).setCell ⟨(w.heap.size + 1 + 1), 4, none⟩ (.slice A3 q c3)).setCell ⟨(w.heap.size + 1 + 1 + 1), 0, none⟩ (.int .i64 k')).setCell ⟨(w.heap.size + 1 + 1 + 1), 1, none⟩ (.int .i64 1)).setCell ⟨(w.heap.size + 1 + 1 + 1), 2, none⟩ (.int .i64 ((n' - q : Nat) : Int))).setCell ⟨(w.heap.size + 1 + 1 + 1), 3, none⟩ (.int .i64 0)).setCell ⟨(w.heap.size + 1 + 1 + 1), 4, none⟩ (.slice A5 (n' - q) c5)) (w.heap.size + 1 + 1 + 1) #[.int .i64 k', .int .i64 1, .int .i64 ((n' - q : Nat) : Int), .int .i64 0, .slice A5 (n' - q) c5] 25 := ((Y3.step B6).past5 _ _ _ _ _ (by omega)).set5 _ _ _ _ _
    have s3 : Sl ((((((((((w6.setCell ⟨(w.heap.size + 1 + 1), 0, none⟩ (.int .i64 k')).setCell ⟨(w.heap.size + 1 + 1), 1, none⟩ (.int .i64 1)).setCell ⟨(w.heap.size + 1 + 1), 2, none⟩ (.int .i64 (q : Nat))).setCell ⟨(w.heap.size + 1 + 1), 3, none⟩ (.int .i64 0)).setCell ⟨(w.heap.size + 1 + 1), 4, none⟩ (.slice A3 q c3)).setCell ⟨(w.heap.size + 1 + 1 + 1), 0, none⟩ (.int .i64 k')).setCell ⟨(w.heap.size + 1 + 1 + 1), 1, none⟩ (.int .i64 1)).setCell ⟨(w.heap.size + 1 + 1 + 1), 2, none⟩ (.int .i64 ((n' - q : Nat) : Int))).setCell ⟨(w.heap.size + 1 + 1 + 1), 3, none⟩ (.int .i64 0)).setCell ⟨(w.heap.size + 1 + 1 + 1), 4, none⟩ (.slice A5 (n' - q) c5)) A3 q c3 (ys.take q) := ((((hS3.step hb4).step hb5).step hb6).past5 _ _ _ _ _ (fun b o e => by have := n3 b o e; omega)).past5 _ _ _ _ _ (fun b o e => by have := n3 b o e; omega)
    have s5 : Sl ((((((((((w6.setCell ⟨(w.heap.size + 1 + 1), 0, none⟩ (.int .i64 k')).setCell ⟨(w.heap.size + 1 + 1), 1, none⟩ (.int .i64 1)).setCell ⟨(w.heap.size + 1 + 1), 2, none⟩ (.int .i64 (q : Nat))).setCell ⟨(w.heap.size + 1 + 1), 3, none⟩ (.int .i64 0)).setCell ⟨(w.heap.size + 1 + 1), 4, none⟩ (.slice A3 q c3)).setCell ⟨(w.heap.size + 1 + 1 + 1), 0, none⟩ (.int .i64 k')).setCell ⟨(w.heap.size + 1 + 1 + 1), 1, none⟩ (.int .i64 1)).setCell ⟨(w.heap.size + 1 + 1 + 1), 2, none⟩ (.int .i64 ((n' - q : Nat) : Int))).setCell ⟨(w.heap.size + 1 + 1 + 1), 3, none⟩ (.int .i64 0)).setCell ⟨(w.heap.size + 1 + 1 + 1), 4, none⟩ (.slice A5 (n' - q) c5)) A5 (n' - q) c5 (ys.drop q) := ((hS5.step hb6).past5 _ _ _ _ _ (fun b o e => by have := n5 b o e; omega)).past5 _ _ _ _ _ (fun b o e => by have := n5 b o e; omega)
    have b7 : Below w.heap.size w ((((((((((w6.setCell ⟨(w.heap.size + 1 + 1), 0, none⟩ (.int .i64 k')).setCell ⟨(w.heap.size + 1 + 1), 1, none⟩ (.int .i64 1)).setCell ⟨(w.heap.size + 1 + 1), 2, none⟩ (.int .i64 (q : Nat))).setCell ⟨(w.heap.size + 1 + 1), 3, none⟩ (.int .i64 0)).setCell ⟨(w.heap.size + 1 + 1), 4, none⟩ (.slice A3 q c3)).setCell ⟨(w.heap.size + 1 + 1 + 1), 0, none⟩ (.int .i64 k')).setCell ⟨(w.heap.size + 1 + 1 + 1), 1, none⟩ (.int .i64 1)).setCell ⟨(w.heap.size + 1 + 1 + 1), 2, none⟩ (.int .i64 ((n' - q : Nat) : Int))).setCell ⟨(w.heap.size + 1 + 1 + 1), 3, none⟩ (.int .i64 0)).setCell ⟨(w.heap.size + 1 + 1 + 1), 4, none⟩ (.slice A5 (n' - q) c5)) := below_set5 (below_set5 (bst b2 B6) (by omega) _ _ _ _ _) (by omega) _ _ _ _ _
    generalize ((((((((((w6.setCell ⟨(w.heap.size + 1 + 1), 0, none⟩ (.int .i64 k')).setCell ⟨(w.heap.size + 1 + 1), 1, none⟩ (.int .i64 1)).setCell ⟨(w.heap.size + 1 + 1), 2, none⟩ (.int .i64 (q : Nat))).setCell ⟨(w.heap.size + 1 + 1), 3, none⟩ (.int .i64 0)).setCell ⟨(w.heap.size + 1 + 1), 4, none⟩ (.slice A3 q c3)).setCell ⟨(w.heap.size + 1 + 1 + 1), 0, none⟩ (.int .i64 k')).setCell ⟨(w.heap.size + 1 + 1 + 1), 1, none⟩ (.int .i64 1)).setCell ⟨(w.heap.size + 1 + 1 + 1), 2, none⟩ (.int .i64 ((n' - q : Nat) : Int))).setCell ⟨(w.heap.size + 1 + 1 + 1), 3, none⟩ (.int .i64 0)).setCell ⟨(w.heap.size + 1 + 1 + 1), 4, none⟩ (.slice A5 (n' - q) c5)) = w7 at z2 z3 s3 s5 b7 ⊢
    have S3 := Lib.hid s3
    have S5 := Lib.hid s5
    clear s3 s5 g2 g3 f2 f3 d10 d40 d13 d43 d14 d44 d15 d45 d16 d46
    have g2 : ∀ i, w7.cell? ⟨w.heap.size + 1 + 1, i, none⟩ = _ := z2.cell
    have g3 : ∀ i, w7.cell? ⟨w.heap.size + 1 + 1 + 1, i, none⟩ = _ := z3.cell
    have f2 : ∀ i, w7.frozen? ⟨w.heap.size + 1 + 1, i, none⟩ = false := z2.frozen
    have f3 : ∀ i, w7.frozen? ⟨w.heap.size + 1 + 1 + 1, i, none⟩ = false := z3.frozen
    by_cases hx : x < 0
    · go_wp2
      go_region
      have y2wA : Bx (((((w7.setCell ⟨(w.heap.size + 1 + 1), 0, none⟩ (.int .i64 k')).setCell ⟨(w.heap.size + 1 + 1), 1, none⟩ (.int .i64 1)).setCell ⟨(w.heap.size + 1 + 1), 2, none⟩ (.int .i64 ((n' - q : Nat) : Int))).setCell ⟨(w.heap.size + 1 + 1), 3, none⟩ (.int .i64 0)).setCell ⟨(w.heap.size + 1 + 1), 4, none⟩ (.slice A5 (n' - q) c5)) (w.heap.size + 1 + 1) #[.int .i64 k', .int .i64 1, .int .i64 ((n' - q : Nat) : Int), .int .i64 0, .slice A5 (n' - q) c5] 25 := (z2).set5 _ _ _ _ _
      have y3wA : Bx (((((w7.setCell ⟨(w.heap.size + 1 + 1), 0, none⟩ (.int .i64 k')).setCell ⟨(w.heap.size + 1 + 1), 1, none⟩ (.int .i64 1)).setCell ⟨(w.heap.size + 1 + 1), 2, none⟩ (.int .i64 ((n' - q : Nat) : Int))).setCell ⟨(w.heap.size + 1 + 1), 3, none⟩ (.int .i64 0)).setCell ⟨(w.heap.size + 1 + 1), 4, none⟩ (.slice A5 (n' - q) c5)) (w.heap.size + 1 + 1 + 1) #[.int .i64 k', .int .i64 1, .int .i64 ((n' - q : Nat) : Int), .int .i64 0, .slice A5 (n' - q) c5] 25 := (z3).past5 _ _ _ _ _ (by omega)
      have t3wA : Sl (((((w7.setCell ⟨(w.heap.size + 1 + 1), 0, none⟩ (.int .i64 k')).setCell ⟨(w.heap.size + 1 + 1), 1, none⟩ (.int .i64 1)).setCell ⟨(w.heap.size + 1 + 1), 2, none⟩ (.int .i64 ((n' - q : Nat) : Int))).setCell ⟨(w.heap.size + 1 + 1), 3, none⟩ (.int .i64 0)).setCell ⟨(w.heap.size + 1 + 1), 4, none⟩ (.slice A5 (n' - q) c5)) A3 q c3 (ys.take q) := (S3.out).past5 _ _ _ _ _ (fun b o e => by have := n3 b o e; omega)
      have t5wA : Sl (((((w7.setCell ⟨(w.heap.size + 1 + 1), 0, none⟩ (.int .i64 k')).setCell ⟨(w.heap.size + 1 + 1), 1, none⟩ (.int .i64 1)).setCell ⟨(w.heap.size + 1 + 1), 2, none⟩ (.int .i64 ((n' - q : Nat) : Int))).setCell ⟨(w.heap.size + 1 + 1), 3, none⟩ (.int .i64 0)).setCell ⟨(w.heap.size + 1 + 1), 4, none⟩ (.slice A5 (n' - q) c5)) A5 (n' - q) c5 (ys.drop q) := (S5.out).past5 _ _ _ _ _ (fun b o e => by have := n5 b o e; omega)
      have bwA : Below w.heap.size w (((((w7.setCell ⟨(w.heap.size + 1 + 1), 0, none⟩ (.int .i64 k')).setCell ⟨(w.heap.size + 1 + 1), 1, none⟩ (.int .i64 1)).setCell ⟨(w.heap.size + 1 + 1), 2, none⟩ (.int .i64 ((n' - q : Nat) : Int))).setCell ⟨(w.heap.size + 1 + 1), 3, none⟩ (.int .i64 0)).setCell ⟨(w.heap.size + 1 + 1), 4, none⟩ (.slice A5 (n' - q) c5)) := below_set5 (b7) (by omega) _ _ _ _ _
      generalize (((((w7.setCell ⟨(w.heap.size + 1 + 1), 0, none⟩ (.int .i64 k')).setCell ⟨(w.heap.size + 1 + 1), 1, none⟩ (.int .i64 1)).setCell ⟨(w.heap.size + 1 + 1), 2, none⟩ (.int .i64 ((n' - q : Nat) : Int))).setCell ⟨(w.heap.size + 1 + 1), 3, none⟩ (.int .i64 0)).setCell ⟨(w.heap.size + 1 + 1), 4, none⟩ (.slice A5 (n' - q) c5)) = wA at y2wA y3wA t3wA t5wA bwA ⊢
      have y2wB : Bx (((((wA.setCell ⟨(w.heap.size + 1 + 1 + 1), 0, none⟩ (.int .i64 k')).setCell ⟨(w.heap.size + 1 + 1 + 1), 1, none⟩ (.int .i64 1)).setCell ⟨(w.heap.size + 1 + 1 + 1), 2, none⟩ (.int .i64 (q : Nat))).setCell ⟨(w.heap.size + 1 + 1 + 1), 3, none⟩ (.int .i64 0)).setCell ⟨(w.heap.size + 1 + 1 + 1), 4, none⟩ (.slice A3 q c3)) (w.heap.size + 1 + 1) #[.int .i64 k', .int .i64 1, .int .i64 ((n' - q : Nat) : Int), .int .i64 0, .slice A5 (n' - q) c5] 25 := (y2wA).past5 _ _ _ _ _ (by omega)
      have y3wB : Bx (((((wA.setCell ⟨(w.heap.size + 1 + 1 + 1), 0, none⟩ (.int .i64 k')).setCell ⟨(w.heap.size + 1 + 1 + 1), 1, none⟩ (.int .i64 1)).setCell ⟨(w.heap.size + 1 + 1 + 1), 2, none⟩ (.int .i64 (q : Nat))).setCell ⟨(w.heap.size + 1 + 1 + 1), 3, none⟩ (.int .i64 0)).setCell ⟨(w.heap.size + 1 + 1 + 1), 4, none⟩ (.slice A3 q c3)) (w.heap.size + 1 + 1 + 1) #[.int .i64 k', .int .i64 1, .int .i64 (q : Nat), .int .i64 0, .slice A3 q c3] 25 := (y3wA).set5 _ _ _ _ _
      have t3wB : Sl (((((wA.setCell ⟨(w.heap.size + 1 + 1 + 1), 0, none⟩ (.int .i64 k')).setCell ⟨(w.heap.size + 1 + 1 + 1), 1, none⟩ (.int .i64 1)).setCell ⟨(w.heap.size + 1 + 1 + 1), 2, none⟩ (.int .i64 (q : Nat))).setCell ⟨(w.heap.size + 1 + 1 + 1), 3, none⟩ (.int .i64 0)).setCell ⟨(w.heap.size + 1 + 1 + 1), 4, none⟩ (.slice A3 q c3)) A3 q c3 (ys.take q) := (t3wA).past5 _ _ _ _ _ (fun b o e => by have := n3 b o e; omega)
      have t5wB : Sl (((((wA.setCell ⟨(w.heap.size + 1 + 1 + 1), 0, none⟩ (.int .i64 k')).setCell ⟨(w.heap.size + 1 + 1 + 1), 1, none⟩ (.int .i64 1)).setCell ⟨(w.heap.size + 1 + 1 + 1), 2, none⟩ (.int .i64 (q : Nat))).setCell ⟨(w.heap.size + 1 + 1 + 1), 3, none⟩ (.int .i64 0)).setCell ⟨(w.heap.size + 1 + 1 + 1), 4, none⟩ (.slice A3 q c3)) A5 (n' - q) c5 (ys.drop q) := (t5wA).past5 _ _ _ _ _ (fun b o e => by have := n5 b o e; omega)
      have bwB : Below w.heap.size w (((((wA.setCell ⟨(w.heap.size + 1 + 1 + 1), 0, none⟩ (.int .i64 k')).setCell ⟨(w.heap.size + 1 + 1 + 1), 1, none⟩ (.int .i64 1)).setCell ⟨(w.heap.size + 1 + 1 + 1), 2, none⟩ (.int .i64 (q : Nat))).setCell ⟨(w.heap.size + 1 + 1 + 1), 3, none⟩ (.int .i64 0)).setCell ⟨(w.heap.size + 1 + 1 + 1), 4, none⟩ (.slice A3 q c3)) := below_set5 (bwA) (by omega) _ _ _ _ _
      generalize (((((wA.setCell ⟨(w.heap.size + 1 + 1 + 1), 0, none⟩ (.int .i64 k')).setCell ⟨(w.heap.size + 1 + 1 + 1), 1, none⟩ (.int .i64 1)).setCell ⟨(w.heap.size + 1 + 1 + 1), 2, none⟩ (.int .i64 (q : Nat))).setCell ⟨(w.heap.size + 1 + 1 + 1), 3, none⟩ (.int .i64 0)).setCell ⟨(w.heap.size + 1 + 1 + 1), 4, none⟩ (.slice A3 q c3)) = wB at y2wB y3wB t3wB t5wB bwB ⊢
      have y2wC : Bx (((((wB.setCell ⟨(w.heap.size + 1 + 1), 0, none⟩ (.int .i64 k')).setCell ⟨(w.heap.size + 1 + 1), 1, none⟩ (.int .i64 1)).setCell ⟨(w.heap.size + 1 + 1), 2, none⟩ (.int .i64 ((n' - q : Nat) : Int))).setCell ⟨(w.heap.size + 1 + 1), 3, none⟩ (.int .i64 0)).setCell ⟨(w.heap.size + 1 + 1), 4, none⟩ (.slice A5 (n' - q) c5)) (w.heap.size + 1 + 1) #[.int .i64 k', .int .i64 1, .int .i64 ((n' - q : Nat) : Int), .int .i64 0, .slice A5 (n' - q) c5] 25 := (y2wB).set5 _ _ _ _ _
      have y3wC : Bx (((((wB.setCell ⟨(w.heap.size + 1 + 1), 0, none⟩ (.int .i64 k')).setCell ⟨(w.heap.size + 1 + 1), 1, none⟩ (.int .i64 1)).setCell ⟨(w.heap.size + 1 + 1), 2, none⟩ (.int .i64 ((n' - q : Nat) : Int))).setCell ⟨(w.heap.size + 1 + 1), 3, none⟩ (.int .i64 0)).setCell ⟨(w.heap.size + 1 + 1), 4, none⟩ (.slice A5 (n' - q) c5)) (w.heap.size + 1 + 1 + 1) #[.int .i64 k', .int .i64 1, .int .i64 (q : Nat), .int .i64 0, .slice A3 q c3] 25 := (y3wB).past5 _ _ _ _ _ (by omega)
      have t3wC : Sl (((((wB.setCell ⟨(w.heap.size + 1 + 1), 0, none⟩ (.int .i64 k')).setCell ⟨(w.heap.size + 1 + 1), 1, none⟩ (.int .i64 1)).setCell ⟨(w.heap.size + 1 + 1), 2, none⟩ (.int .i64 ((n' - q : Nat) : Int))).setCell ⟨(w.heap.size + 1 + 1), 3, none⟩ (.int .i64 0)).setCell ⟨(w.heap.size + 1 + 1), 4, none⟩ (.slice A5 (n' - q) c5)) A3 q c3 (ys.take q) := (t3wB).past5 _ _ _ _ _ (fun b o e => by have := n3 b o e; omega)
      have t5wC : Sl (((((wB.setCell ⟨(w.heap.size + 1 + 1), 0, none⟩ (.int .i64 k')).setCell ⟨(w.heap.size + 1 + 1), 1, none⟩ (.int .i64 1)).setCell ⟨(w.heap.size + 1 + 1), 2, none⟩ (.int .i64 ((n' - q : Nat) : Int))).setCell ⟨(w.heap.size + 1 + 1), 3, none⟩ (.int .i64 0)).setCell ⟨(w.heap.size + 1 + 1), 4, none⟩ (.slice A5 (n' - q) c5)) A5 (n' - q) c5 (ys.drop q) := (t5wB).past5 _ _ _ _ _ (fun b o e => by have := n5 b o e; omega)
      have bwC : Below w.heap.size w (((((wB.setCell ⟨(w.heap.size + 1 + 1), 0, none⟩ (.int .i64 k')).setCell ⟨(w.heap.size + 1 + 1), 1, none⟩ (.int .i64 1)).setCell ⟨(w.heap.size + 1 + 1), 2, none⟩ (.int .i64 ((n' - q : Nat) : Int))).setCell ⟨(w.heap.size + 1 + 1), 3, none⟩ (.int .i64 0)).setCell ⟨(w.heap.size + 1 + 1), 4, none⟩ (.slice A5 (n' - q) c5)) := below_set5 (bwB) (by omega) _ _ _ _ _
      generalize (((((wB.setCell ⟨(w.heap.size + 1 + 1), 0, none⟩ (.int .i64 k')).setCell ⟨(w.heap.size + 1 + 1), 1, none⟩ (.int .i64 1)).setCell ⟨(w.heap.size + 1 + 1), 2, none⟩ (.int .i64 ((n' - q : Nat) : Int))).setCell ⟨(w.heap.size + 1 + 1), 3, none⟩ (.int .i64 0)).setCell ⟨(w.heap.size + 1 + 1), 4, none⟩ (.slice A5 (n' - q) c5)) = wC at y2wC y3wC t3wC t5wC bwC ⊢
      have y2wD : Bx (((((wC.setCell ⟨(w.heap.size + 1 + 1 + 1), 0, none⟩ (.int .i64 k')).setCell ⟨(w.heap.size + 1 + 1 + 1), 1, none⟩ (.int .i64 1)).setCell ⟨(w.heap.size + 1 + 1 + 1), 2, none⟩ (.int .i64 (q : Nat))).setCell ⟨(w.heap.size + 1 + 1 + 1), 3, none⟩ (.int .i64 0)).setCell ⟨(w.heap.size + 1 + 1 + 1), 4, none⟩ (.slice A3 q c3)) (w.heap.size + 1 + 1) #[.int .i64 k', .int .i64 1, .int .i64 ((n' - q : Nat) : Int), .int .i64 0, .slice A5 (n' - q) c5] 25 := (y2wC).past5 _ _ _ _ _ (by omega)
      have y3wD : Bx (((((wC.setCell ⟨(w.heap.size + 1 + 1 + 1), 0, none⟩ (.int .i64 k')).setCell ⟨(w.heap.size + 1 + 1 + 1), 1, none⟩ (.int .i64 1)).setCell ⟨(w.heap.size + 1 + 1 + 1), 2, none⟩ (.int .i64 (q : Nat))).setCell ⟨(w.heap.size + 1 + 1 + 1), 3, none⟩ (.int .i64 0)).setCell ⟨(w.heap.size + 1 + 1 + 1), 4, none⟩ (.slice A3 q c3)) (w.heap.size + 1 + 1 + 1) #[.int .i64 k', .int .i64 1, .int .i64 (q : Nat), .int .i64 0, .slice A3 q c3] 25 := (y3wC).set5 _ _ _ _ _
      have t3wD : Sl (((((wC.setCell ⟨(w.heap.size + 1 + 1 + 1), 0, none⟩ (.int .i64 k')).setCell ⟨(w.heap.size + 1 + 1 + 1), 1, none⟩ (.int .i64 1)).setCell ⟨(w.heap.size + 1 + 1 + 1), 2, none⟩ (.int .i64 (q : Nat))).setCell ⟨(w.heap.size + 1 + 1 + 1), 3, none⟩ (.int .i64 0)).setCell ⟨(w.heap.size + 1 + 1 + 1), 4, none⟩ (.slice A3 q c3)) A3 q c3 (ys.take q) := (t3wC).past5 _ _ _ _ _ (fun b o e => by have := n3 b o e; omega)
      have t5wD : Sl (((((wC.setCell ⟨(w.heap.size + 1 + 1 + 1), 0, none⟩ (.int .i64 k')).setCell ⟨(w.heap.size + 1 + 1 + 1), 1, none⟩ (.int .i64 1)).setCell ⟨(w.heap.size + 1 + 1 + 1), 2, none⟩ (.int .i64 (q : Nat))).setCell ⟨(w.heap.size + 1 + 1 + 1), 3, none⟩ (.int .i64 0)).setCell ⟨(w.heap.size + 1 + 1 + 1), 4, none⟩ (.slice A3 q c3)) A5 (n' - q) c5 (ys.drop q) := (t5wC).past5 _ _ _ _ _ (fun b o e => by have := n5 b o e; omega)
      have bwD : Below w.heap.size w (((((wC.setCell ⟨(w.heap.size + 1 + 1 + 1), 0, none⟩ (.int .i64 k')).setCell ⟨(w.heap.size + 1 + 1 + 1), 1, none⟩ (.int .i64 1)).setCell ⟨(w.heap.size + 1 + 1 + 1), 2, none⟩ (.int .i64 (q : Nat))).setCell ⟨(w.heap.size + 1 + 1 + 1), 3, none⟩ (.int .i64 0)).setCell ⟨(w.heap.size + 1 + 1 + 1), 4, none⟩ (.slice A3 q c3)) := below_set5 (bwC) (by omega) _ _ _ _ _
      generalize (((((wC.setCell ⟨(w.heap.size + 1 + 1 + 1), 0, none⟩ (.int .i64 k')).setCell ⟨(w.heap.size + 1 + 1 + 1), 1, none⟩ (.int .i64 1)).setCell ⟨(w.heap.size + 1 + 1 + 1), 2, none⟩ (.int .i64 (q : Nat))).setCell ⟨(w.heap.size + 1 + 1 + 1), 3, none⟩ (.int .i64 0)).setCell ⟨(w.heap.size + 1 + 1 + 1), 4, none⟩ (.slice A3 q c3)) = wD at y2wD y3wD t3wD t5wD bwD ⊢
      have U3 := Lib.hid (t3wD.step (bdr (Below.refl _ _)))
      have U5 := Lib.hid (t5wD.step (bdr (Below.refl _ _)))
      clear t3wA t5wA t3wB t5wB t3wC t5wC t3wD t5wD g2 g3 f2 f3
      have g2 : ∀ i, wD.cell? ⟨w.heap.size + 1 + 1, i, none⟩ = _ := y2wD.cell
      have g3 : ∀ i, wD.cell? ⟨w.heap.size + 1 + 1 + 1, i, none⟩ = _ := y3wD.cell
      go_wp2
      refine bodyPost_ret (v := .tuple #[.agg #[.int .i64 k', .int .i64 1, .int .i64 ((n' - q : Nat) : Int), .int .i64 0, .slice A5 (n' - q) c5], .agg #[.int .i64 k', .int .i64 1, .int .i64 (q : Nat), .int .i64 0, .slice A3 q c3], .int .i64 0]) (by simp [results, Try.results39, go_sem, g2, g3]) rfl ?_
      have e1 := HZ1.out
      have e2 := HZ2.out
      rw [if_pos (show x < 0 by omega)] at e1 e2
      subst e1 e2
      exact ⟨⟨_, _, _, _, _, _, rfl, U5.out, U3.out, N5, N3⟩, bdr bwD⟩
    · go_wp2
      go_region
      have y2wA : Bx (((((w7.setCell ⟨(w.heap.size + 1 + 1), 0, none⟩ (.int .i64 k')).setCell ⟨(w.heap.size + 1 + 1), 1, none⟩ (.int .i64 1)).setCell ⟨(w.heap.size + 1 + 1), 2, none⟩ (.int .i64 (q : Nat))).setCell ⟨(w.heap.size + 1 + 1), 3, none⟩ (.int .i64 0)).setCell ⟨(w.heap.size + 1 + 1), 4, none⟩ (.slice A3 q c3)) (w.heap.size + 1 + 1) #[.int .i64 k', .int .i64 1, .int .i64 (q : Nat), .int .i64 0, .slice A3 q c3] 25 := (z2).set5 _ _ _ _ _
      have y3wA : Bx (((((w7.setCell ⟨(w.heap.size + 1 + 1), 0, none⟩ (.int .i64 k')).setCell ⟨(w.heap.size + 1 + 1), 1, none⟩ (.int .i64 1)).setCell ⟨(w.heap.size + 1 + 1), 2, none⟩ (.int .i64 (q : Nat))).setCell ⟨(w.heap.size + 1 + 1), 3, none⟩ (.int .i64 0)).setCell ⟨(w.heap.size + 1 + 1), 4, none⟩ (.slice A3 q c3)) (w.heap.size + 1 + 1 + 1) #[.int .i64 k', .int .i64 1, .int .i64 ((n' - q : Nat) : Int), .int .i64 0, .slice A5 (n' - q) c5] 25 := (z3).past5 _ _ _ _ _ (by omega)
      have t3wA : Sl (((((w7.setCell ⟨(w.heap.size + 1 + 1), 0, none⟩ (.int .i64 k')).setCell ⟨(w.heap.size + 1 + 1), 1, none⟩ (.int .i64 1)).setCell ⟨(w.heap.size + 1 + 1), 2, none⟩ (.int .i64 (q : Nat))).setCell ⟨(w.heap.size + 1 + 1), 3, none⟩ (.int .i64 0)).setCell ⟨(w.heap.size + 1 + 1), 4, none⟩ (.slice A3 q c3)) A3 q c3 (ys.take q) := (S3.out).past5 _ _ _ _ _ (fun b o e => by have := n3 b o e; omega)
      have t5wA : Sl (((((w7.setCell ⟨(w.heap.size + 1 + 1), 0, none⟩ (.int .i64 k')).setCell ⟨(w.heap.size + 1 + 1), 1, none⟩ (.int .i64 1)).setCell ⟨(w.heap.size + 1 + 1), 2, none⟩ (.int .i64 (q : Nat))).setCell ⟨(w.heap.size + 1 + 1), 3, none⟩ (.int .i64 0)).setCell ⟨(w.heap.size + 1 + 1), 4, none⟩ (.slice A3 q c3)) A5 (n' - q) c5 (ys.drop q) := (S5.out).past5 _ _ _ _ _ (fun b o e => by have := n5 b o e; omega)
      have bwA : Below w.heap.size w (((((w7.setCell ⟨(w.heap.size + 1 + 1), 0, none⟩ (.int .i64 k')).setCell ⟨(w.heap.size + 1 + 1), 1, none⟩ (.int .i64 1)).setCell ⟨(w.heap.size + 1 + 1), 2, none⟩ (.int .i64 (q : Nat))).setCell ⟨(w.heap.size + 1 + 1), 3, none⟩ (.int .i64 0)).setCell ⟨(w.heap.size + 1 + 1), 4, none⟩ (.slice A3 q c3)) := below_set5 (b7) (by omega) _ _ _ _ _
      generalize (((((w7.setCell ⟨(w.heap.size + 1 + 1), 0, none⟩ (.int .i64 k')).setCell ⟨(w.heap.size + 1 + 1), 1, none⟩ (.int .i64 1)).setCell ⟨(w.heap.size + 1 + 1), 2, none⟩ (.int .i64 (q : Nat))).setCell ⟨(w.heap.size + 1 + 1), 3, none⟩ (.int .i64 0)).setCell ⟨(w.heap.size + 1 + 1), 4, none⟩ (.slice A3 q c3)) = wA at y2wA y3wA t3wA t5wA bwA ⊢
      have y2wB : Bx (((((wA.setCell ⟨(w.heap.size + 1 + 1 + 1), 0, none⟩ (.int .i64 k')).setCell ⟨(w.heap.size + 1 + 1 + 1), 1, none⟩ (.int .i64 1)).setCell ⟨(w.heap.size + 1 + 1 + 1), 2, none⟩ (.int .i64 ((n' - q : Nat) : Int))).setCell ⟨(w.heap.size + 1 + 1 + 1), 3, none⟩ (.int .i64 0)).setCell ⟨(w.heap.size + 1 + 1 + 1), 4, none⟩ (.slice A5 (n' - q) c5)) (w.heap.size + 1 + 1) #[.int .i64 k', .int .i64 1, .int .i64 (q : Nat), .int .i64 0, .slice A3 q c3] 25 := (y2wA).past5 _ _ _ _ _ (by omega)
      have y3wB : Bx (((((wA.setCell ⟨(w.heap.size + 1 + 1 + 1), 0, none⟩ (.int .i64 k')).setCell ⟨(w.heap.size + 1 + 1 + 1), 1, none⟩ (.int .i64 1)).setCell ⟨(w.heap.size + 1 + 1 + 1), 2, none⟩ (.int .i64 ((n' - q : Nat) : Int))).setCell ⟨(w.heap.size + 1 + 1 + 1), 3, none⟩ (.int .i64 0)).setCell ⟨(w.heap.size + 1 + 1 + 1), 4, none⟩ (.slice A5 (n' - q) c5)) (w.heap.size + 1 + 1 + 1) #[.int .i64 k', .int .i64 1, .int .i64 ((n' - q : Nat) : Int), .int .i64 0, .slice A5 (n' - q) c5] 25 := (y3wA).set5 _ _ _ _ _
      have t3wB : Sl (((((wA.setCell ⟨(w.heap.size + 1 + 1 + 1), 0, none⟩ (.int .i64 k')).setCell ⟨(w.heap.size + 1 + 1 + 1), 1, none⟩ (.int .i64 1)).setCell ⟨(w.heap.size + 1 + 1 + 1), 2, none⟩ (.int .i64 ((n' - q : Nat) : Int))).setCell ⟨(w.heap.size + 1 + 1 + 1), 3, none⟩ (.int .i64 0)).setCell ⟨(w.heap.size + 1 + 1 + 1), 4, none⟩ (.slice A5 (n' - q) c5)) A3 q c3 (ys.take q) := (t3wA).past5 _ _ _ _ _ (fun b o e => by have := n3 b o e; omega)
      have t5wB : Sl (((((wA.setCell ⟨(w.heap.size + 1 + 1 + 1), 0, none⟩ (.int .i64 k')).setCell ⟨(w.heap.size + 1 + 1 + 1), 1, none⟩ (.int .i64 1)).setCell ⟨(w.heap.size + 1 + 1 + 1), 2, none⟩ (.int .i64 ((n' - q : Nat) : Int))).setCell ⟨(w.heap.size + 1 + 1 + 1), 3, none⟩ (.int .i64 0)).setCell ⟨(w.heap.size + 1 + 1 + 1), 4, none⟩ (.slice A5 (n' - q) c5)) A5 (n' - q) c5 (ys.drop q) := (t5wA).past5 _ _ _ _ _ (fun b o e => by have := n5 b o e; omega)
      have bwB : Below w.heap.size w (((((wA.setCell ⟨(w.heap.size + 1 + 1 + 1), 0, none⟩ (.int .i64 k')).setCell ⟨(w.heap.size + 1 + 1 + 1), 1, none⟩ (.int .i64 1)).setCell ⟨(w.heap.size + 1 + 1 + 1), 2, none⟩ (.int .i64 ((n' - q : Nat) : Int))).setCell ⟨(w.heap.size + 1 + 1 + 1), 3, none⟩ (.int .i64 0)).setCell ⟨(w.heap.size + 1 + 1 + 1), 4, none⟩ (.slice A5 (n' - q) c5)) := below_set5 (bwA) (by omega) _ _ _ _ _
      generalize (((((wA.setCell ⟨(w.heap.size + 1 + 1 + 1), 0, none⟩ (.int .i64 k')).setCell ⟨(w.heap.size + 1 + 1 + 1), 1, none⟩ (.int .i64 1)).setCell ⟨(w.heap.size + 1 + 1 + 1), 2, none⟩ (.int .i64 ((n' - q : Nat) : Int))).setCell ⟨(w.heap.size + 1 + 1 + 1), 3, none⟩ (.int .i64 0)).setCell ⟨(w.heap.size + 1 + 1 + 1), 4, none⟩ (.slice A5 (n' - q) c5)) = wB at y2wB y3wB t3wB t5wB bwB ⊢
      have U3 := Lib.hid (t3wB.step (bdr (Below.refl _ _)))
      have U5 := Lib.hid (t5wB.step (bdr (Below.refl _ _)))
      clear t3wA t5wA t3wB t5wB g2 g3 f2 f3
      have g2 : ∀ i, wB.cell? ⟨w.heap.size + 1 + 1, i, none⟩ = _ := y2wB.cell
      have g3 : ∀ i, wB.cell? ⟨w.heap.size + 1 + 1 + 1, i, none⟩ = _ := y3wB.cell
      go_wp2
      refine bodyPost_ret (v := .tuple #[.agg #[.int .i64 k', .int .i64 1, .int .i64 (q : Nat), .int .i64 0, .slice A3 q c3], .agg #[.int .i64 k', .int .i64 1, .int .i64 ((n' - q : Nat) : Int), .int .i64 0, .slice A5 (n' - q) c5], .int .i64 0]) (by simp [results, Try.results39, go_sem, g2, g3]) rfl ?_
      have e1 := HZ1.out
      have e2 := HZ2.out
      rw [if_neg (show ¬ x < 0 by omega)] at e1 e2
      subst e1 e2
      exact ⟨⟨_, _, _, _, _, _, rfl, U3.out, U5.out, N3, N5⟩, bdr bwB⟩
end Go.Proofs.Ytoapgknkenlcgaa

/-
  moves.Fill, moves.Grid.
-/
import Derived.Test.YtoapgknkenlcgaaMrav
namespace Go.Proofs.Ytoapgknkenlcgaa
open Go.RowKit

theorem sFill_ok {n s : Arr} {x : Int} (h : twoE n s 0 0 = 0) (hx : n.c = [x]) : sFill n s = if x < 0 then (zA, 13) else if 400 < x then (zA, 15) else (vecA s.k (List.replicate x.toNat (s.c.getD 0 0)), 0) := by
  unfold sFill
  rw [if_neg (fun h' => h' h), hx]
  rfl
theorem sFill_err {n s : Arr} (h : twoE n s 0 0 ≠ 0) : sFill n s = (zA, twoE n s 0 0) := by unfold sFill; rw [if_pos h]
theorem sGrid_ok {l v : Arr} (h : twoE l v 1 1 = 0) : sGrid l v = if lensE l.c ≠ 0 then (zA, lensE l.c) else if v.c.length = 0 ∧ 0 < l.c.getD 0 0 * l.c.getD 1 0 then (zA, 13)
    else (matA v.k (l.c.getD 0 0) (l.c.getD 1 0) (again v.c (l.c.getD 0 0 * l.c.getD 1 0).toNat), 0) := by
  unfold sGrid
  rw [if_neg (fun h' => h' h)]
theorem sGrid_err {l v : Arr} (h : twoE l v 1 1 ≠ 0) : sGrid l v = (zA, twoE l v 1 1) := by unfold sGrid; rw [if_pos h]
theorem again_one (y : Int) (n : Nat) : again [y] n = List.replicate n y := by
  apply List.ext_getElem
  · simp [again]
  · intro i h1 h2
    simp [again, Nat.mod_one]

set_option maxHeartbeats 400000 in
theorem mmatrix_any (k m l : Int) (A : Option Addr) (n c : Nat) (w : World) :
    Calls Try.prog 45 #[.int .i64 k, .int .i64 m, .int .i64 l, .slice A n c] w fun e w' => e = .returned (.agg #[.int .i64 k, .int .i64 2, .int .i64 m, .int .i64 l, .slice A n c]) ∧ Below w.heap.size w w' := by
  go_enter Try.func45, Try.ntmps45
  go_wp2
  refine bodyPost_ret (v := .agg #[.int .i64 k, .int .i64 2, .int .i64 m, .int .i64 l, .slice A n c]) (by simp [results, Try.results45, go_sem]) rfl ?_
  exact ⟨rfl, bal (Below.refl _ _) _⟩


set_option maxHeartbeats 4000000 in
theorem mFill_any (k r l0 l1 : Int) (A : Option Addr) (n c : Nat) (xs : List Int) (k' r' l0' l1' : Int) (A' : Option Addr) (n' c' : Nat) (ys : List Int) (R : Arr × Int) (w : World)
    (hs : Sl w A n c xs) (hs' : Sl w A' n' c' ys) (hwf : ∀ x ∈ xs, -9223372036854775808 ≤ x ∧ x ≤ 9223372036854775807) (h : sFill ⟨k, r, l0, l1, xs⟩ ⟨k', r', l0', l1', ys⟩ = R) :
    Calls Try.prog 18 #[.agg #[.int .i64 k, .int .i64 r, .int .i64 l0, .int .i64 l1, .slice A n c], .agg #[.int .i64 k', .int .i64 r', .int .i64 l0', .int .i64 l1', .slice A' n' c']] w (RetA w R) := by
  by_cases h0 : twoE ⟨k, r, l0, l1, xs⟩ ⟨k', r', l0', l1', ys⟩ 0 0 = 0
  · obtain ⟨ha, hv, hk, hr, hr'⟩ := twoE_ok h0
    simp only [chkA] at ha hv
    obtain ⟨x, rfl⟩ := scalar_one ha hr
    obtain ⟨y, rfl⟩ := scalar_one hv hr'
    obtain rfl : n = 1 := hs.len.symm
    obtain rfl : n' = 1 := hs'.len.symm
    obtain ⟨b, o, rfl, hbl, hcx⟩ := hs.at_ (k := 0) (by omega)
    obtain ⟨hx0, hx1⟩ := hwf x (by simp)
    rw [sFill_ok h0 rfl] at h
    simp only [List.getD_cons_zero] at h
    have H0 := Lib.hid h0
    have HS := Lib.hid hs
    have HS' := Lib.hid hs'
    have HCX := Lib.hid hcx
    obtain ⟨ys, hys⟩ : ∃ ys, ys = [y] := ⟨_, rfl⟩
    rw [← hys] at H0 HS'
    have HYS := Lib.hid hys
    clear hs hs' hwf ha hv hk hr hr' hcx h0 hys
    by_cases hx : x < 0
    · rw [if_pos hx] at h
      have HR := Lib.hid h
      clear h
      go_enter Try.func18, Try.ntmps18
      go_wp2_with fail
      refine (two_any _ _ _ _ _ _ _ [x] _ _ _ _ _ _ _ ys _ _ _ _ (HS.out.step (below3 _ _ _ _)) (HS'.out.step (below3 _ _ _ _)) H0.out).mono ?_
      rintro e w1 ⟨rfl, hb1⟩
      obtain ⟨X0, X1, X2, b1⟩ := after3 hb1
      clear hb1
      have q2 := Bx.lt X2
      have c0 : ∀ i, w1.cell? ⟨w.heap.size, i, none⟩ = _ := Bx.cell X0
      have c1 : ∀ i, w1.cell? ⟨w.heap.size + 1, i, none⟩ = _ := Bx.cell X1
      have c2 : ∀ i, w1.cell? ⟨w.heap.size + 1 + 1, i, none⟩ = _ := Bx.cell X2
      have f2 : ∀ i, w1.frozen? ⟨w.heap.size + 1 + 1, i, none⟩ = false := Bx.frozen X2
      have cx : w1.cell? ⟨b, o, none⟩ = some (.int .i64 x) := (b1.cell (p := ⟨b, o, none⟩) hbl).trans HCX.out
      go_wp2
      refine retAE (B := w.heap.size + 1 + 1) rfl rfl rfl rfl (Bx.set5 X2 _ _ _ _ _) ?_
      exact RetA.mk HR.out.symm (Sl.nil _) (fun _ _ _ h => by cases h) (below_set5 b1 (by omega) _ _ _ _ _)
    · rw [if_neg hx] at h
      by_cases hx4 : 400 < x
      · rw [if_pos hx4] at h
        have HR := Lib.hid h
        clear h
        go_enter Try.func18, Try.ntmps18
        go_wp2_with fail
        refine (two_any _ _ _ _ _ _ _ [x] _ _ _ _ _ _ _ ys _ _ _ _ (HS.out.step (below3 _ _ _ _)) (HS'.out.step (below3 _ _ _ _)) H0.out).mono ?_
        rintro e w1 ⟨rfl, hb1⟩
        obtain ⟨X0, X1, X2, b1⟩ := after3 hb1
        clear hb1
        have q2 := Bx.lt X2
        have c0 : ∀ i, w1.cell? ⟨w.heap.size, i, none⟩ = _ := Bx.cell X0
        have c1 : ∀ i, w1.cell? ⟨w.heap.size + 1, i, none⟩ = _ := Bx.cell X1
        have c2 : ∀ i, w1.cell? ⟨w.heap.size + 1 + 1, i, none⟩ = _ := Bx.cell X2
        have f2 : ∀ i, w1.frozen? ⟨w.heap.size + 1 + 1, i, none⟩ = false := Bx.frozen X2
        have cx : w1.cell? ⟨b, o, none⟩ = some (.int .i64 x) := (b1.cell (p := ⟨b, o, none⟩) hbl).trans HCX.out
        go_wp2
        refine retAE (B := w.heap.size + 1 + 1) rfl rfl rfl rfl (Bx.set5 X2 _ _ _ _ _) ?_
        exact RetA.mk HR.out.symm (Sl.nil _) (fun _ _ _ h => by cases h) (below_set5 b1 (by omega) _ _ _ _ _)
      · rw [if_neg hx4] at h
        obtain ⟨m, rfl⟩ : ∃ m : Nat, x = (m : Int) := ⟨x.toNat, by omega⟩
        have hR : R = (⟨k', 1, m, 0, again ys m⟩, 0) := by
          rw [← h, HYS.out, again_one]
          simp [vecA]
        have HR := Lib.hid hR
        have hm : m ≤ 400 := by omega
        clear h hR
        go_enter Try.func18, Try.ntmps18
        go_wp2_with fail
        refine (two_any _ _ _ _ _ _ _ [(m : Int)] _ _ _ _ _ _ _ ys _ _ _ _ (HS.out.step (below3 _ _ _ _)) (HS'.out.step (below3 _ _ _ _)) H0.out).mono ?_
        rintro e w1 ⟨rfl, hb1⟩
        obtain ⟨X0, X1, X2, b1⟩ := after3 hb1
        clear hb1
        have q2 := Bx.lt X2
        have c0 : ∀ i, w1.cell? ⟨w.heap.size, i, none⟩ = _ := Bx.cell X0
        have c1 : ∀ i, w1.cell? ⟨w.heap.size + 1, i, none⟩ = _ := Bx.cell X1
        have c2 : ∀ i, w1.cell? ⟨w.heap.size + 1 + 1, i, none⟩ = _ := Bx.cell X2
        have f2 : ∀ i, w1.frozen? ⟨w.heap.size + 1 + 1, i, none⟩ = false := Bx.frozen X2
        have cx : w1.cell? ⟨b, o, none⟩ = some (.int .i64 (m : Int)) := (b1.cell (p := ⟨b, o, none⟩) hbl).trans HCX.out
        go_wp2_with fail
        have d00 : w1.drew.cell? ⟨w.heap.size + 1, 0, none⟩ = some (.int .i64 k') := c1 0
        have d04 : w1.drew.cell? ⟨w.heap.size + 1, 4, none⟩ = some (.slice A' 1 c') := c1 4
        have B0 : Below w1.heap.size w1 w1.drew := bdr (Below.refl _ _)
        go_region_held3 (fun w' => w'.cell? ⟨w.heap.size + 1, 0, none⟩ = some (.int .i64 k') ∧ w'.cell? ⟨w.heap.size + 1, 4, none⟩ = some (.slice A' 1 c'))
          (first | (with_reducible exact ⟨d00, d04⟩) | (with_reducible exact ⟨d30, d34⟩) | (with_reducible exact ⟨d40, d44⟩) | (with_reducible exact ⟨(set5_cell _ _ _ _ _ _ _ (by omega)).trans d40, (set5_cell _ _ _ _ _ _ _ (by omega)).trans d44⟩))
          (first
            | (go_at_call 44; (with_reducible refine (repeat_any A' 1 c' m ys _ (HS'.out.step (bst b1 B0)) (by omega) (.inr (by omega))).mono ?_); rintro e w3 ⟨⟨A3, c3, rfl, hS3, hN3⟩, hb3⟩; have B3 := bst B0 hb3; have d30 : w3.cell? ⟨w.heap.size + 1, 0, none⟩ = some (.int .i64 k') := (Bx.step X1 B3).cell 0; have d34 : w3.cell? ⟨w.heap.size + 1, 4, none⟩ = some (.slice A' 1 c') := (Bx.step X1 B3).cell 4)
            | (go_at_call 43; (with_reducible refine (mvector_any k' A3 m c3 _).mono ?_); rintro e w4 ⟨rfl, hb4⟩; have B4 := bst B3 hb4; have d40 : w4.cell? ⟨w.heap.size + 1, 0, none⟩ = some (.int .i64 k') := (Bx.step X1 B4).cell 0; have d44 : w4.cell? ⟨w.heap.size + 1, 4, none⟩ = some (.slice A' 1 c') := (Bx.step X1 B4).cell 4; have g1 : ∀ i, w4.cell? ⟨w.heap.size + 1 + 1, i, none⟩ = _ := (Bx.step X2 B4).cell; have k1 : ∀ i, w4.frozen? ⟨w.heap.size + 1 + 1, i, none⟩ = false := (Bx.step X2 B4).frozen))
        go_wp2
        refine retAE (B := w.heap.size + 1 + 1) rfl rfl rfl rfl ((Bx.step X2 B4).set5 _ _ _ _ _) ?_
        have M3 : ∀ b o, A3 = some ⟨b, o, none⟩ → b ≠ w.heap.size + 1 + 1 := fun b o e => by have := hN3 b o none e; simp at this; omega
        exact RetA.mk HR.out ((hS3.step hb4).past5 _ _ _ _ _ M3) (hN3.mono (Nat.le_trans b1.size B0.size)) (below_set5 (bst b1 B4) (by omega) _ _ _ _ _)
  · have he : (zA, twoE ⟨k, r, l0, l1, xs⟩ ⟨k', r', l0', l1', ys⟩ 0 0) = R := by
      rw [← h]; exact (sFill_err h0).symm
    obtain ⟨ec, hec⟩ : ∃ ec, twoE ⟨k, r, l0, l1, xs⟩ ⟨k', r', l0', l1', ys⟩ 0 0 = ec := ⟨_, rfl⟩
    rw [hec] at h0 he
    have HEC := Lib.hid hec
    have HR := Lib.hid he
    have HS := Lib.hid hs
    have HS' := Lib.hid hs'
    have hne : (ec != 0) = true := by simpa using h0
    clear hec h0 he h hs hs'
    go_enter Try.func18, Try.ntmps18
    go_wp2_with fail
    refine (two_any _ _ _ _ _ _ _ xs _ _ _ _ _ _ _ ys _ _ _ _ (HS.out.step (below3 _ _ _ _)) (HS'.out.step (below3 _ _ _ _)) HEC.out).mono ?_
    rintro e w1 ⟨rfl, hb1⟩
    obtain ⟨X0, X1, X2, b1⟩ := after3 hb1
    clear hb1
    have q2 := Bx.lt X2
    have c0 : ∀ i, w1.cell? ⟨w.heap.size, i, none⟩ = _ := Bx.cell X0
    have c1 : ∀ i, w1.cell? ⟨w.heap.size + 1, i, none⟩ = _ := Bx.cell X1
    have c2 : ∀ i, w1.cell? ⟨w.heap.size + 1 + 1, i, none⟩ = _ := Bx.cell X2
    have f2 : ∀ i, w1.frozen? ⟨w.heap.size + 1 + 1, i, none⟩ = false := Bx.frozen X2
    go_wp2
    refine retAE (B := w.heap.size + 1 + 1) rfl rfl rfl rfl (Bx.set5 X2 _ _ _ _ _) ?_
    exact RetA.mk HR.out.symm (Sl.nil _) (fun _ _ _ h => by cases h) (below_set5 b1 (by omega) _ _ _ _ _)
end Go.Proofs.Ytoapgknkenlcgaa

/-
  shapes.Check: its error number is 'shp'. Written by gen_chk.py.
-/
import Derived.Test.YtfbloddffhafdaaShp
namespace Go.Proofs.Ytfbloddffhafdaa
open Go.RowKit

set_option maxHeartbeats 1000000 in
theorem check_rank0 (l0 l1 ec : Int) (w : World) (hec : shp 0 l0 l1 = ec) :
    Calls Try.prog 62 #[.int .i64 0, .agg #[.int .i64 l0, .int .i64 l1]] w fun e w' => e = .returned (.int .i64 ec) ∧ Below w.heap.size w w' := by
  have HE := Lib.hid hec
  clear hec
  obtain ⟨t1, ht1⟩ : ∃ t, ([] : List Int).any (fun x => decide (x < 0)) = t := ⟨_, rfl⟩
  obtain ⟨t2, ht2⟩ : ∃ t, ([l0, l1] : List Int).any (fun x => x != 0) = t := ⟨_, rfl⟩
  obtain ⟨t3, ht3⟩ : ∃ t, ([] : List Int).any (fun x => decide (400 < x)) = t := ⟨_, rfl⟩
  obtain ⟨t4, ht4⟩ : ∃ t, decide (400 < prodI 0 l0 l1) = t := ⟨_, rfl⟩
  have H1 := Lib.hid ht1
  have H2 := Lib.hid ht2
  have H3 := Lib.hid ht3
  have H4 := Lib.hid ht4
  clear ht1 ht2 ht3 ht4
  go_enter Try.func62, Try.ntmps62
  go_wp2
  go_quiet (fail)
  have X0 : Bx ((w.alloc (.cells #[.int .i64 l0, .int .i64 l1] 22)).drewN nq) w.heap.size #[.int .i64 l0, .int .i64 l1] 22 := Bx.new _ _ _
  have b0 : Below w.heap.size w ((w.alloc (.cells #[.int .i64 l0, .int .i64 l1] 22)).drewN nq) := bdn (bal (Below.refl _ _) _) _
  generalize hw0 : (w.alloc (.cells #[.int .i64 l0, .int .i64 l1] 22)).drewN nq = w0 at X0 b0 ⊢
  have HW := Lib.hid hw0
  clear hw0
  go_wp2_with fail
  refine (containsFunc_int 68 #[] (fun x => decide (x < 0)) enters1 _ _ _ [] t1 _ (Sl.empty _ _ _ (by unfold maxLen; omega)) (fun x W _ => closure1 x W) H1.out).mono ?_
  rintro e w1 ⟨rfl, hb1⟩
  cases t1 with
  | true => cases H1.out
  | false =>
    have X1 := X0.step hb1
    go_wp2_with fail
    refine (containsFunc_int 69 #[] (fun x => x != 0) enters2 _ _ _ [l0, l1] t2 _ (Sl.of_box X1 rfl (by simp) (by unfold maxLen; omega) (by intro j hj; match j, hj with | 0, _ => rfl | 1, _ => rfl)) (fun x W _ => closure2 x W) H2.out).mono ?_
    rintro e w2 ⟨rfl, hb2⟩
    cases t2 with
    | true =>
      go_wp2
      go_ret
      refine ⟨?_, bst (bst b0 hb1) hb2⟩
      have h1 := H1.out
      have h2 := H2.out
      simp at h1 h2
      rw [← HE.out]
      have : shp 0 l0 l1 = 6 := by unfold shp; simp; omega
      rw [this]; rfl
    | false =>
      have X2 := X1.step hb2
      go_wp2_with fail
      refine (containsFunc_int 70 #[] (fun x => decide (400 < x)) enters3 _ _ _ [] t3 _ (Sl.empty _ _ _ (by unfold maxLen; omega)) (fun x W _ => closure3 x W) H3.out).mono ?_
      rintro e w3 ⟨rfl, hb3⟩
      cases t3 with
      | true => cases H3.out
      | false =>
        have X3 := X2.step hb3
        have k0 : w3.cell? ⟨w.heap.size, 0, none⟩ = some (.int .i64 l0) := X3.cell 0
        have k1 : w3.cell? ⟨w.heap.size, 1, none⟩ = some (.int .i64 l1) := X3.cell 1
        have f1 : 0 ≤ l0 ∧ l0 ≤ 400 ∧ 0 ≤ l1 ∧ l1 ≤ 400 := by
          have h1 := H1.out
          have h2 := H2.out
          have h3 := H3.out
          simp at h1 h2 h3
          omega
        go_wp2_with fail
        refine (product_any _ l0 l1 _ (by omega) (by omega) (by omega) (by omega)).mono ?_
        rintro e w4 ⟨rfl, hb4⟩
        cases t4 with
        | true =>
          have h4 : 400 < prodI 0 l0 l1 := by simpa using H4.out
          go_wp2
          go_ret
          refine ⟨?_, bst (bst (bst (bst b0 hb1) hb2) hb3) hb4⟩
          have h2 := H2.out
          simp at h2
          rw [← HE.out]
          have : shp 0 l0 l1 = 15 := by unfold shp; rw [if_neg (by omega), if_neg (by omega), if_neg (by omega), if_pos (by omega)]
          rw [this]; rfl
        | false =>
          have h4 : decide (400 < prodI 0 l0 l1) = false := H4.out
          go_wp2
          go_ret
          refine ⟨?_, bst (bst (bst (bst b0 hb1) hb2) hb3) hb4⟩
          have h4' : ¬ 400 < prodI 0 l0 l1 := by simpa using H4.out
          have h2 := H2.out
          simp at h2
          rw [← HE.out]
          have : shp 0 l0 l1 = 0 := by unfold shp; rw [if_neg (by omega), if_neg (by omega), if_neg (by omega), if_neg (by omega)]
          rw [this]; rfl

set_option maxHeartbeats 1000000 in
theorem check_rank1 (l0 l1 ec : Int) (w : World) (hec : shp 1 l0 l1 = ec) :
    Calls Try.prog 62 #[.int .i64 1, .agg #[.int .i64 l0, .int .i64 l1]] w fun e w' => e = .returned (.int .i64 ec) ∧ Below w.heap.size w w' := by
  have HE := Lib.hid hec
  clear hec
  obtain ⟨t1, ht1⟩ : ∃ t, ([l0] : List Int).any (fun x => decide (x < 0)) = t := ⟨_, rfl⟩
  obtain ⟨t2, ht2⟩ : ∃ t, ([l1] : List Int).any (fun x => x != 0) = t := ⟨_, rfl⟩
  obtain ⟨t3, ht3⟩ : ∃ t, ([l0] : List Int).any (fun x => decide (400 < x)) = t := ⟨_, rfl⟩
  obtain ⟨t4, ht4⟩ : ∃ t, decide (400 < prodI 1 l0 l1) = t := ⟨_, rfl⟩
  have H1 := Lib.hid ht1
  have H2 := Lib.hid ht2
  have H3 := Lib.hid ht3
  have H4 := Lib.hid ht4
  clear ht1 ht2 ht3 ht4
  go_enter Try.func62, Try.ntmps62
  go_wp2
  go_quiet (fail)
  have X0 : Bx ((w.alloc (.cells #[.int .i64 l0, .int .i64 l1] 22)).drewN nq) w.heap.size #[.int .i64 l0, .int .i64 l1] 22 := Bx.new _ _ _
  have b0 : Below w.heap.size w ((w.alloc (.cells #[.int .i64 l0, .int .i64 l1] 22)).drewN nq) := bdn (bal (Below.refl _ _) _) _
  generalize hw0 : (w.alloc (.cells #[.int .i64 l0, .int .i64 l1] 22)).drewN nq = w0 at X0 b0 ⊢
  have HW := Lib.hid hw0
  clear hw0
  go_wp2_with fail
  refine (containsFunc_int 68 #[] (fun x => decide (x < 0)) enters1 _ _ _ [l0] t1 _ (Sl.of_box X0 rfl (by simp) (by unfold maxLen; omega) (by intro j hj; match j, hj with | 0, _ => rfl)) (fun x W _ => closure1 x W) H1.out).mono ?_
  rintro e w1 ⟨rfl, hb1⟩
  cases t1 with
  | true =>
    go_wp2
    go_ret
    refine ⟨?_, bst b0 hb1⟩
    have h1 := H1.out
    simp at h1
    rw [← HE.out]
    have : shp 1 l0 l1 = 7 := by unfold shp; simp; omega
    rw [this]; rfl
  | false =>
    have X1 := X0.step hb1
    go_wp2_with fail
    refine (containsFunc_int 69 #[] (fun x => x != 0) enters2 _ _ _ [l1] t2 _ (Sl.of_box X1 rfl (by simp) (by unfold maxLen; omega) (by intro j hj; match j, hj with | 0, _ => rfl)) (fun x W _ => closure2 x W) H2.out).mono ?_
    rintro e w2 ⟨rfl, hb2⟩
    cases t2 with
    | true =>
      go_wp2
      go_ret
      refine ⟨?_, bst (bst b0 hb1) hb2⟩
      have h1 := H1.out
      have h2 := H2.out
      simp at h1 h2
      rw [← HE.out]
      have : shp 1 l0 l1 = 6 := by unfold shp; simp; omega
      rw [this]; rfl
    | false =>
      have X2 := X1.step hb2
      go_wp2_with fail
      refine (containsFunc_int 70 #[] (fun x => decide (400 < x)) enters3 _ _ _ [l0] t3 _ (Sl.of_box X2 rfl (by simp) (by unfold maxLen; omega) (by intro j hj; match j, hj with | 0, _ => rfl)) (fun x W _ => closure3 x W) H3.out).mono ?_
      rintro e w3 ⟨rfl, hb3⟩
      cases t3 with
      | true =>
        go_wp2
        go_ret
        refine ⟨?_, bst (bst (bst b0 hb1) hb2) hb3⟩
        have h1 := H1.out
        have h2 := H2.out
        have h3 := H3.out
        simp at h1 h2 h3
        rw [← HE.out]
        have : shp 1 l0 l1 = 15 := by unfold shp; simp; omega
        rw [this]; rfl
      | false =>
        have X3 := X2.step hb3
        have k0 : w3.cell? ⟨w.heap.size, 0, none⟩ = some (.int .i64 l0) := X3.cell 0
        have k1 : w3.cell? ⟨w.heap.size, 1, none⟩ = some (.int .i64 l1) := X3.cell 1
        have f1 : 0 ≤ l0 ∧ l0 ≤ 400 ∧ 0 ≤ l1 ∧ l1 ≤ 400 := by
          have h1 := H1.out
          have h2 := H2.out
          have h3 := H3.out
          simp at h1 h2 h3
          omega
        go_wp2_with fail
        refine (product_any _ l0 l1 _ (by omega) (by omega) (by omega) (by omega)).mono ?_
        rintro e w4 ⟨rfl, hb4⟩
        cases t4 with
        | true =>
          have h4 : 400 < prodI 1 l0 l1 := by simpa using H4.out
          go_wp2
          go_ret
          refine ⟨?_, bst (bst (bst (bst b0 hb1) hb2) hb3) hb4⟩
          have h2 := H2.out
          simp at h2
          rw [← HE.out]
          have : shp 1 l0 l1 = 15 := by unfold shp; rw [if_neg (by omega), if_neg (by omega), if_neg (by omega), if_pos (by omega)]
          rw [this]; rfl
        | false =>
          have h4 : decide (400 < prodI 1 l0 l1) = false := H4.out
          go_wp2
          go_ret
          refine ⟨?_, bst (bst (bst (bst b0 hb1) hb2) hb3) hb4⟩
          have h4' : ¬ 400 < prodI 1 l0 l1 := by simpa using H4.out
          have h2 := H2.out
          simp at h2
          rw [← HE.out]
          have : shp 1 l0 l1 = 0 := by unfold shp; rw [if_neg (by omega), if_neg (by omega), if_neg (by omega), if_neg (by omega)]
          rw [this]; rfl

set_option maxHeartbeats 1000000 in
theorem check_rank2 (l0 l1 ec : Int) (w : World) (hec : shp 2 l0 l1 = ec) :
    Calls Try.prog 62 #[.int .i64 2, .agg #[.int .i64 l0, .int .i64 l1]] w fun e w' => e = .returned (.int .i64 ec) ∧ Below w.heap.size w w' := by
  have HE := Lib.hid hec
  clear hec
  obtain ⟨t1, ht1⟩ : ∃ t, ([l0, l1] : List Int).any (fun x => decide (x < 0)) = t := ⟨_, rfl⟩
  obtain ⟨t2, ht2⟩ : ∃ t, ([] : List Int).any (fun x => x != 0) = t := ⟨_, rfl⟩
  obtain ⟨t3, ht3⟩ : ∃ t, ([l0, l1] : List Int).any (fun x => decide (400 < x)) = t := ⟨_, rfl⟩
  obtain ⟨t4, ht4⟩ : ∃ t, decide (400 < prodI 2 l0 l1) = t := ⟨_, rfl⟩
  have H1 := Lib.hid ht1
  have H2 := Lib.hid ht2
  have H3 := Lib.hid ht3
  have H4 := Lib.hid ht4
  clear ht1 ht2 ht3 ht4
  go_enter Try.func62, Try.ntmps62
  go_wp2
  go_quiet (fail)
  have X0 : Bx ((w.alloc (.cells #[.int .i64 l0, .int .i64 l1] 22)).drewN nq) w.heap.size #[.int .i64 l0, .int .i64 l1] 22 := Bx.new _ _ _
  have b0 : Below w.heap.size w ((w.alloc (.cells #[.int .i64 l0, .int .i64 l1] 22)).drewN nq) := bdn (bal (Below.refl _ _) _) _
  generalize hw0 : (w.alloc (.cells #[.int .i64 l0, .int .i64 l1] 22)).drewN nq = w0 at X0 b0 ⊢
  have HW := Lib.hid hw0
  clear hw0
  go_wp2_with fail
  refine (containsFunc_int 68 #[] (fun x => decide (x < 0)) enters1 _ _ _ [l0, l1] t1 _ (Sl.of_box X0 rfl (by simp) (by unfold maxLen; omega) (by intro j hj; match j, hj with | 0, _ => rfl | 1, _ => rfl)) (fun x W _ => closure1 x W) H1.out).mono ?_
  rintro e w1 ⟨rfl, hb1⟩
  cases t1 with
  | true =>
    go_wp2
    go_ret
    refine ⟨?_, bst b0 hb1⟩
    have h1 := H1.out
    simp at h1
    rw [← HE.out]
    have : shp 2 l0 l1 = 7 := by unfold shp; simp; omega
    rw [this]; rfl
  | false =>
    have X1 := X0.step hb1
    go_wp2_with fail
    refine (containsFunc_int 69 #[] (fun x => x != 0) enters2 _ _ _ [] t2 _ (Sl.empty _ _ _ (by unfold maxLen; omega)) (fun x W _ => closure2 x W) H2.out).mono ?_
    rintro e w2 ⟨rfl, hb2⟩
    cases t2 with
    | true => cases H2.out
    | false =>
      have X2 := X1.step hb2
      go_wp2_with fail
      refine (containsFunc_int 70 #[] (fun x => decide (400 < x)) enters3 _ _ _ [l0, l1] t3 _ (Sl.of_box X2 rfl (by simp) (by unfold maxLen; omega) (by intro j hj; match j, hj with | 0, _ => rfl | 1, _ => rfl)) (fun x W _ => closure3 x W) H3.out).mono ?_
      rintro e w3 ⟨rfl, hb3⟩
      cases t3 with
      | true =>
        go_wp2
        go_ret
        refine ⟨?_, bst (bst (bst b0 hb1) hb2) hb3⟩
        have h1 := H1.out
        have h2 := H2.out
        have h3 := H3.out
        simp at h1 h2 h3
        rw [← HE.out]
        have : shp 2 l0 l1 = 15 := by unfold shp; simp; omega
        rw [this]; rfl
      | false =>
        have X3 := X2.step hb3
        have k0 : w3.cell? ⟨w.heap.size, 0, none⟩ = some (.int .i64 l0) := X3.cell 0
        have k1 : w3.cell? ⟨w.heap.size, 1, none⟩ = some (.int .i64 l1) := X3.cell 1
        have f1 : 0 ≤ l0 ∧ l0 ≤ 400 ∧ 0 ≤ l1 ∧ l1 ≤ 400 := by
          have h1 := H1.out
          have h2 := H2.out
          have h3 := H3.out
          simp at h1 h2 h3
          omega
        go_wp2_with fail
        refine (product_any _ l0 l1 _ (by omega) (by omega) (by omega) (by omega)).mono ?_
        rintro e w4 ⟨rfl, hb4⟩
        cases t4 with
        | true =>
          have h4 : 400 < prodI 2 l0 l1 := by simpa using H4.out
          go_wp2
          go_ret
          refine ⟨?_, bst (bst (bst (bst b0 hb1) hb2) hb3) hb4⟩
          have h2 := H2.out
          simp at h2
          rw [← HE.out]
          have : shp 2 l0 l1 = 15 := by unfold shp; rw [if_neg (by omega), if_neg (by omega), if_neg (by omega), if_pos (by omega)]
          rw [this]; rfl
        | false =>
          have h4 : decide (400 < prodI 2 l0 l1) = false := H4.out
          go_wp2
          go_ret
          refine ⟨?_, bst (bst (bst (bst b0 hb1) hb2) hb3) hb4⟩
          have h4' : ¬ 400 < prodI 2 l0 l1 := by simpa using H4.out
          have h2 := H2.out
          simp at h2
          rw [← HE.out]
          have : shp 2 l0 l1 = 0 := by unfold shp; rw [if_neg (by omega), if_neg (by omega), if_neg (by omega), if_neg (by omega)]
          rw [this]; rfl

set_option maxHeartbeats 400000 in
/-- shapes.Check returns the error number of the shape. -/
theorem check_any (r l0 l1 ec : Int) (w : World) (hec : shp r l0 l1 = ec) :
    Calls Try.prog 62 #[.int .i64 r, .agg #[.int .i64 l0, .int .i64 l1]] w fun e w' => e = .returned (.int .i64 ec) ∧ Below w.heap.size w w' := by
  by_cases h0 : r < 0
  · have : shp r l0 l1 = 7 := by unfold shp; rw [if_pos (by omega)]
    rw [this] at hec
    subst hec
    go_enter Try.func62, Try.ntmps62
    go_wp2
    go_ret
    exact ⟨rfl, bal (Below.refl _ _) _⟩
  · by_cases h2 : 2 < r
    · have : shp r l0 l1 = 7 := by unfold shp; rw [if_pos (by omega)]
      rw [this] at hec
      subst hec
      go_enter Try.func62, Try.ntmps62
      go_wp2
      go_ret
      exact ⟨rfl, bal (Below.refl _ _) _⟩
    · have hr : r = 0 ∨ r = 1 ∨ r = 2 := by omega
      rcases hr with rfl | rfl | rfl
      · exact check_rank0 l0 l1 ec w hec
      · exact check_rank1 l0 l1 ec w hec
      · exact check_rank2 l0 l1 ec w hec

end Go.Proofs.Ytfbloddffhafdaa

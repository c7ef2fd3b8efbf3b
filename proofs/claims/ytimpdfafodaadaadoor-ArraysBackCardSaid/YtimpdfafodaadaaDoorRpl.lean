/-
  The reference's Place.
-/
import Derived.Test.YtimpdfafodaadaaDoorPl
namespace Go.Proofs.YtimpdfafodaadaaDoor
open Go.RowKit


set_option maxHeartbeats 2000000 in
theorem rplace_ok0 (l0 l1 x0 x1 p ec : Int) (w : World) (hs : shp 0 l0 l1 = 0) (_h1 : 0 ≤ l0) (_h2 : l0 ≤ 400) (h3 : 0 ≤ l1) (h4 : l1 ≤ 400) (h : sPlace 0 l0 l1 x0 x1 = (p, ec)) :
    Calls Tryd.prog 55 #[.int .i64 0, .agg #[.int .i64 l0, .int .i64 l1], .agg #[.int .i64 x0, .int .i64 x1]] w fun e w' => e = .returned (.tuple #[.int .i64 p, .int .i64 ec]) ∧ Below w.heap.size w w' := by
  have HP := Lib.hid h
  have HS := Lib.hid hs
  clear h hs
  by_cases a0 : x0 < 0
  · have d0 : decide (x0 < 0) = true := decide_eq_true a0
    have n0 : (x0 != 0) = true := by simp; omega
    obtain ⟨rfl, rfl⟩ := Prod.mk.inj ((show sPlace 0 l0 l1 x0 x1 = (0, 4) by unfold sPlace; rw [if_neg (fun h => h HS.out), if_pos (by simp [mst]; omega)]).symm.trans HP.out)
    clear HP
    go_enter Tryd.func55, Tryd.ntmps55
    go_wp2_with fail
    refine (rcheck_any 0 l0 l1 0 _ HS.out).mono ?_
    rintro e w1 ⟨rfl, hb1⟩
    obtain ⟨X0, X1, b1⟩ := after2 hb1
    clear hb1
    have c0 : ∀ i, w1.cell? ⟨w.heap.size, i, none⟩ = _ := Bx.cell X0
    have c1 : ∀ i, w1.cell? ⟨w.heap.size + 1, i, none⟩ = _ := Bx.cell X1
    go_wp2
    refine wp_loop_rounds 1 ?_
    rw [rounds_succ]
    go_wp2
    go_quiet (fail)
    go_wp2
    go_ret2
    exact ⟨rfl, bdn b1 _⟩
  · have d0 : decide (x0 < 0) = false := decide_eq_false a0
    by_cases a1 : 1 ≤ x0
    · have d1 : decide (1 ≤ x0) = true := decide_eq_true a1
      have n0 : (x0 != 0) = true := by simp; omega
      obtain ⟨rfl, rfl⟩ := Prod.mk.inj ((show sPlace 0 l0 l1 x0 x1 = (0, 4) by unfold sPlace; rw [if_neg (fun h => h HS.out), if_pos (by simp [mst]; omega)]).symm.trans HP.out)
      clear HP
      go_enter Tryd.func55, Tryd.ntmps55
      go_wp2_with fail
      refine (rcheck_any 0 l0 l1 0 _ HS.out).mono ?_
      rintro e w1 ⟨rfl, hb1⟩
      obtain ⟨X0, X1, b1⟩ := after2 hb1
      clear hb1
      have c0 : ∀ i, w1.cell? ⟨w.heap.size, i, none⟩ = _ := Bx.cell X0
      have c1 : ∀ i, w1.cell? ⟨w.heap.size + 1, i, none⟩ = _ := Bx.cell X1
      go_wp2
      refine wp_loop_rounds 1 ?_
      rw [rounds_succ]
      go_wp2
      go_quiet (fail)
      go_wp2
      go_ret2
      exact ⟨rfl, bdn b1 _⟩
    · have d1 : decide (1 ≤ x0) = false := decide_eq_false a1
      by_cases a2 : x1 < 0
      · have d2 : decide (x1 < 0) = true := decide_eq_true a2
        have n0 : (x0 != 0) = false := by simp; omega
        have n1 : (x1 != 0) = true := by simp; omega
        obtain ⟨rfl, rfl⟩ := Prod.mk.inj ((show sPlace 0 l0 l1 x0 x1 = (0, 4) by unfold sPlace; rw [if_neg (fun h => h HS.out), if_pos (by simp [mst]; omega)]).symm.trans HP.out)
        clear HP
        go_enter Tryd.func55, Tryd.ntmps55
        go_wp2_with fail
        refine (rcheck_any 0 l0 l1 0 _ HS.out).mono ?_
        rintro e w1 ⟨rfl, hb1⟩
        obtain ⟨X0, X1, b1⟩ := after2 hb1
        clear hb1
        have c0 : ∀ i, w1.cell? ⟨w.heap.size, i, none⟩ = _ := Bx.cell X0
        have c1 : ∀ i, w1.cell? ⟨w.heap.size + 1, i, none⟩ = _ := Bx.cell X1
        go_wp2
        refine wp_loop_rounds 2 ?_
        rw [rounds_succ]
        go_wp2
        go_quiet (fail)
        have b2 := bdn b1 nq
        have X0' := Bx.drewN X0 nq
        have X1' := Bx.drewN X1 nq
        generalize hw2 : w1.drewN nq = w2 at b2 X0' X1' ⊢
        have c0' : ∀ i, w2.cell? ⟨w.heap.size, i, none⟩ = _ := Bx.cell X0'
        have c1' : ∀ i, w2.cell? ⟨w.heap.size + 1, i, none⟩ = _ := Bx.cell X1'
        clear c0 c1 X0 X1 hw2
        go_wp2
        rw [rounds_succ]
        go_wp2
        go_quiet (fail)
        go_wp2
        go_ret2
        exact ⟨rfl, bdn b2 _⟩
      · have d2 : decide (x1 < 0) = false := decide_eq_false a2
        by_cases a3 : 1 ≤ x1
        · have d3 : decide (1 ≤ x1) = true := decide_eq_true a3
          have n0 : (x0 != 0) = false := by simp; omega
          have n1 : (x1 != 0) = true := by simp; omega
          obtain ⟨rfl, rfl⟩ := Prod.mk.inj ((show sPlace 0 l0 l1 x0 x1 = (0, 4) by unfold sPlace; rw [if_neg (fun h => h HS.out), if_pos (by simp [mst]; omega)]).symm.trans HP.out)
          clear HP
          go_enter Tryd.func55, Tryd.ntmps55
          go_wp2_with fail
          refine (rcheck_any 0 l0 l1 0 _ HS.out).mono ?_
          rintro e w1 ⟨rfl, hb1⟩
          obtain ⟨X0, X1, b1⟩ := after2 hb1
          clear hb1
          have c0 : ∀ i, w1.cell? ⟨w.heap.size, i, none⟩ = _ := Bx.cell X0
          have c1 : ∀ i, w1.cell? ⟨w.heap.size + 1, i, none⟩ = _ := Bx.cell X1
          go_wp2
          refine wp_loop_rounds 2 ?_
          rw [rounds_succ]
          go_wp2
          go_quiet (fail)
          have b2 := bdn b1 nq
          have X0' := Bx.drewN X0 nq
          have X1' := Bx.drewN X1 nq
          generalize hw2 : w1.drewN nq = w2 at b2 X0' X1' ⊢
          have c0' : ∀ i, w2.cell? ⟨w.heap.size, i, none⟩ = _ := Bx.cell X0'
          have c1' : ∀ i, w2.cell? ⟨w.heap.size + 1, i, none⟩ = _ := Bx.cell X1'
          clear c0 c1 X0 X1 hw2
          go_wp2
          rw [rounds_succ]
          go_wp2
          go_quiet (fail)
          go_wp2
          go_ret2
          exact ⟨rfl, bdn b2 _⟩
        · have d3 : decide (1 ≤ x1) = false := decide_eq_false a3
          have n0 : (x0 != 0) = false := by simp; omega
          have n1 : (x1 != 0) = false := by simp; omega
          have hb0 : 0 ≤ x0 * l1 := Int.mul_nonneg (by omega) (by omega)
          have hb2 : x0 * l1 ≤ 160000 := by have := Int.mul_le_mul (show x0 ≤ 400 by omega) (show l1 ≤ 400 by omega) (by omega) (by omega : (0:Int) ≤ 400); omega
          have he := (show sPlace 0 l0 l1 x0 x1 = (x0 * mst 0 1 l1 + x1, 0) by unfold sPlace; rw [if_neg (fun h => h HS.out), if_neg (by simp [mst]; omega)]).symm.trans HP.out
          obtain ⟨hp, rfl⟩ := Prod.mk.inj he
          have HQ := Lib.hid hp
          have HX : Hid ((0 : Int) < 2 → x1 = 0) := Lib.hid (by omega)
          clear HP he hp
          go_enter Tryd.func55, Tryd.ntmps55
          go_wp2_with fail
          refine (rcheck_any 0 l0 l1 0 _ HS.out).mono ?_
          rintro e w1 ⟨rfl, hb1⟩
          obtain ⟨X0, X1, b1⟩ := after2 hb1
          clear hb1
          have c0 : ∀ i, w1.cell? ⟨w.heap.size, i, none⟩ = _ := Bx.cell X0
          have c1 : ∀ i, w1.cell? ⟨w.heap.size + 1, i, none⟩ = _ := Bx.cell X1
          go_wp2
          refine wp_loop_rounds 3 ?_
          rw [rounds_succ]
          go_wp2
          go_quiet (fail)
          have b2 := bdn b1 nq
          have X0' := Bx.drewN X0 nq
          have X1' := Bx.drewN X1 nq
          generalize hw2 : w1.drewN nq = w2 at b2 X0' X1' ⊢
          have c0' : ∀ i, w2.cell? ⟨w.heap.size, i, none⟩ = _ := Bx.cell X0'
          have c1' : ∀ i, w2.cell? ⟨w.heap.size + 1, i, none⟩ = _ := Bx.cell X1'
          clear c0 c1 X0 X1 hw2
          go_wp2
          rw [rounds_succ]
          go_wp2
          go_quiet (fail)
          have b3 := bdn b2 nq
          have X0'' := Bx.drewN X0' nq
          have X1'' := Bx.drewN X1' nq
          generalize hw3 : w2.drewN nq = w3 at b3 X0'' X1'' ⊢
          have c0'' : ∀ i, w3.cell? ⟨w.heap.size, i, none⟩ = _ := Bx.cell X0''
          have c1'' : ∀ i, w3.cell? ⟨w.heap.size + 1, i, none⟩ = _ := Bx.cell X1''
          clear c0' c1' X0' X1' hw3
          go_wp2
          rw [rounds_succ]
          go_wp2
          skip
          go_ret2
          refine ⟨?_, b3⟩
          rw [← HQ.out]
          have hx := HX.out
          simp [mst] at hx ⊢
          try omega
set_option maxHeartbeats 2000000 in
theorem rplace_ok1 (l0 l1 x0 x1 p ec : Int) (w : World) (hs : shp 1 l0 l1 = 0) (_h1 : 0 ≤ l0) (_h2 : l0 ≤ 400) (h3 : 0 ≤ l1) (h4 : l1 ≤ 400) (h : sPlace 1 l0 l1 x0 x1 = (p, ec)) :
    Calls Tryd.prog 55 #[.int .i64 1, .agg #[.int .i64 l0, .int .i64 l1], .agg #[.int .i64 x0, .int .i64 x1]] w fun e w' => e = .returned (.tuple #[.int .i64 p, .int .i64 ec]) ∧ Below w.heap.size w w' := by
  have HP := Lib.hid h
  have HS := Lib.hid hs
  clear h hs
  by_cases a0 : x0 < 0
  · have d0 : decide (x0 < 0) = true := decide_eq_true a0
    skip
    obtain ⟨rfl, rfl⟩ := Prod.mk.inj ((show sPlace 1 l0 l1 x0 x1 = (0, 4) by unfold sPlace; rw [if_neg (fun h => h HS.out), if_pos (by simp [mst]; omega)]).symm.trans HP.out)
    clear HP
    go_enter Tryd.func55, Tryd.ntmps55
    go_wp2_with fail
    refine (rcheck_any 1 l0 l1 0 _ HS.out).mono ?_
    rintro e w1 ⟨rfl, hb1⟩
    obtain ⟨X0, X1, b1⟩ := after2 hb1
    clear hb1
    have c0 : ∀ i, w1.cell? ⟨w.heap.size, i, none⟩ = _ := Bx.cell X0
    have c1 : ∀ i, w1.cell? ⟨w.heap.size + 1, i, none⟩ = _ := Bx.cell X1
    go_wp2
    refine wp_loop_rounds 1 ?_
    rw [rounds_succ]
    go_wp2
    go_quiet (fail)
    go_wp2
    go_ret2
    exact ⟨rfl, bdn b1 _⟩
  · have d0 : decide (x0 < 0) = false := decide_eq_false a0
    by_cases a1 : l0 ≤ x0
    · have d1 : decide (l0 ≤ x0) = true := decide_eq_true a1
      skip
      obtain ⟨rfl, rfl⟩ := Prod.mk.inj ((show sPlace 1 l0 l1 x0 x1 = (0, 4) by unfold sPlace; rw [if_neg (fun h => h HS.out), if_pos (by simp [mst]; omega)]).symm.trans HP.out)
      clear HP
      go_enter Tryd.func55, Tryd.ntmps55
      go_wp2_with fail
      refine (rcheck_any 1 l0 l1 0 _ HS.out).mono ?_
      rintro e w1 ⟨rfl, hb1⟩
      obtain ⟨X0, X1, b1⟩ := after2 hb1
      clear hb1
      have c0 : ∀ i, w1.cell? ⟨w.heap.size, i, none⟩ = _ := Bx.cell X0
      have c1 : ∀ i, w1.cell? ⟨w.heap.size + 1, i, none⟩ = _ := Bx.cell X1
      go_wp2
      refine wp_loop_rounds 1 ?_
      rw [rounds_succ]
      go_wp2
      go_quiet (fail)
      go_wp2
      go_ret2
      exact ⟨rfl, bdn b1 _⟩
    · have d1 : decide (l0 ≤ x0) = false := decide_eq_false a1
      by_cases a2 : x1 < 0
      · have d2 : decide (x1 < 0) = true := decide_eq_true a2
        have n1 : (x1 != 0) = true := by simp; omega
        obtain ⟨rfl, rfl⟩ := Prod.mk.inj ((show sPlace 1 l0 l1 x0 x1 = (0, 4) by unfold sPlace; rw [if_neg (fun h => h HS.out), if_pos (by simp [mst]; omega)]).symm.trans HP.out)
        clear HP
        go_enter Tryd.func55, Tryd.ntmps55
        go_wp2_with fail
        refine (rcheck_any 1 l0 l1 0 _ HS.out).mono ?_
        rintro e w1 ⟨rfl, hb1⟩
        obtain ⟨X0, X1, b1⟩ := after2 hb1
        clear hb1
        have c0 : ∀ i, w1.cell? ⟨w.heap.size, i, none⟩ = _ := Bx.cell X0
        have c1 : ∀ i, w1.cell? ⟨w.heap.size + 1, i, none⟩ = _ := Bx.cell X1
        go_wp2
        refine wp_loop_rounds 2 ?_
        rw [rounds_succ]
        go_wp2
        go_quiet (fail)
        have b2 := bdn b1 nq
        have X0' := Bx.drewN X0 nq
        have X1' := Bx.drewN X1 nq
        generalize hw2 : w1.drewN nq = w2 at b2 X0' X1' ⊢
        have c0' : ∀ i, w2.cell? ⟨w.heap.size, i, none⟩ = _ := Bx.cell X0'
        have c1' : ∀ i, w2.cell? ⟨w.heap.size + 1, i, none⟩ = _ := Bx.cell X1'
        clear c0 c1 X0 X1 hw2
        go_wp2
        rw [rounds_succ]
        go_wp2
        go_quiet (fail)
        go_wp2
        go_ret2
        exact ⟨rfl, bdn b2 _⟩
      · have d2 : decide (x1 < 0) = false := decide_eq_false a2
        by_cases a3 : 1 ≤ x1
        · have d3 : decide (1 ≤ x1) = true := decide_eq_true a3
          have n1 : (x1 != 0) = true := by simp; omega
          obtain ⟨rfl, rfl⟩ := Prod.mk.inj ((show sPlace 1 l0 l1 x0 x1 = (0, 4) by unfold sPlace; rw [if_neg (fun h => h HS.out), if_pos (by simp [mst]; omega)]).symm.trans HP.out)
          clear HP
          go_enter Tryd.func55, Tryd.ntmps55
          go_wp2_with fail
          refine (rcheck_any 1 l0 l1 0 _ HS.out).mono ?_
          rintro e w1 ⟨rfl, hb1⟩
          obtain ⟨X0, X1, b1⟩ := after2 hb1
          clear hb1
          have c0 : ∀ i, w1.cell? ⟨w.heap.size, i, none⟩ = _ := Bx.cell X0
          have c1 : ∀ i, w1.cell? ⟨w.heap.size + 1, i, none⟩ = _ := Bx.cell X1
          go_wp2
          refine wp_loop_rounds 2 ?_
          rw [rounds_succ]
          go_wp2
          go_quiet (fail)
          have b2 := bdn b1 nq
          have X0' := Bx.drewN X0 nq
          have X1' := Bx.drewN X1 nq
          generalize hw2 : w1.drewN nq = w2 at b2 X0' X1' ⊢
          have c0' : ∀ i, w2.cell? ⟨w.heap.size, i, none⟩ = _ := Bx.cell X0'
          have c1' : ∀ i, w2.cell? ⟨w.heap.size + 1, i, none⟩ = _ := Bx.cell X1'
          clear c0 c1 X0 X1 hw2
          go_wp2
          rw [rounds_succ]
          go_wp2
          go_quiet (fail)
          go_wp2
          go_ret2
          exact ⟨rfl, bdn b2 _⟩
        · have d3 : decide (1 ≤ x1) = false := decide_eq_false a3
          have n1 : (x1 != 0) = false := by simp; omega
          have hb0 : 0 ≤ x0 * l1 := Int.mul_nonneg (by omega) (by omega)
          have hb2 : x0 * l1 ≤ 160000 := by have := Int.mul_le_mul (show x0 ≤ 400 by omega) (show l1 ≤ 400 by omega) (by omega) (by omega : (0:Int) ≤ 400); omega
          have he := (show sPlace 1 l0 l1 x0 x1 = (x0 * mst 1 1 l1 + x1, 0) by unfold sPlace; rw [if_neg (fun h => h HS.out), if_neg (by simp [mst]; omega)]).symm.trans HP.out
          obtain ⟨hp, rfl⟩ := Prod.mk.inj he
          have HQ := Lib.hid hp
          have HX : Hid ((1 : Int) < 2 → x1 = 0) := Lib.hid (by omega)
          clear HP he hp
          go_enter Tryd.func55, Tryd.ntmps55
          go_wp2_with fail
          refine (rcheck_any 1 l0 l1 0 _ HS.out).mono ?_
          rintro e w1 ⟨rfl, hb1⟩
          obtain ⟨X0, X1, b1⟩ := after2 hb1
          clear hb1
          have c0 : ∀ i, w1.cell? ⟨w.heap.size, i, none⟩ = _ := Bx.cell X0
          have c1 : ∀ i, w1.cell? ⟨w.heap.size + 1, i, none⟩ = _ := Bx.cell X1
          go_wp2
          refine wp_loop_rounds 3 ?_
          rw [rounds_succ]
          go_wp2
          go_quiet (fail)
          have b2 := bdn b1 nq
          have X0' := Bx.drewN X0 nq
          have X1' := Bx.drewN X1 nq
          generalize hw2 : w1.drewN nq = w2 at b2 X0' X1' ⊢
          have c0' : ∀ i, w2.cell? ⟨w.heap.size, i, none⟩ = _ := Bx.cell X0'
          have c1' : ∀ i, w2.cell? ⟨w.heap.size + 1, i, none⟩ = _ := Bx.cell X1'
          clear c0 c1 X0 X1 hw2
          go_wp2
          rw [rounds_succ]
          go_wp2
          go_quiet (fail)
          have b3 := bdn b2 nq
          have X0'' := Bx.drewN X0' nq
          have X1'' := Bx.drewN X1' nq
          generalize hw3 : w2.drewN nq = w3 at b3 X0'' X1'' ⊢
          have c0'' : ∀ i, w3.cell? ⟨w.heap.size, i, none⟩ = _ := Bx.cell X0''
          have c1'' : ∀ i, w3.cell? ⟨w.heap.size + 1, i, none⟩ = _ := Bx.cell X1''
          clear c0' c1' X0' X1' hw3
          go_wp2
          rw [rounds_succ]
          go_wp2
          skip
          go_ret2
          refine ⟨?_, b3⟩
          rw [← HQ.out]
          have hx := HX.out
          simp [mst] at hx ⊢
          try omega
set_option maxHeartbeats 2000000 in
theorem rplace_ok2 (l0 l1 x0 x1 p ec : Int) (w : World) (hs : shp 2 l0 l1 = 0) (_h1 : 0 ≤ l0) (_h2 : l0 ≤ 400) (h3 : 0 ≤ l1) (h4 : l1 ≤ 400) (h : sPlace 2 l0 l1 x0 x1 = (p, ec)) :
    Calls Tryd.prog 55 #[.int .i64 2, .agg #[.int .i64 l0, .int .i64 l1], .agg #[.int .i64 x0, .int .i64 x1]] w fun e w' => e = .returned (.tuple #[.int .i64 p, .int .i64 ec]) ∧ Below w.heap.size w w' := by
  have HP := Lib.hid h
  have HS := Lib.hid hs
  clear h hs
  by_cases a0 : x0 < 0
  · have d0 : decide (x0 < 0) = true := decide_eq_true a0
    skip
    obtain ⟨rfl, rfl⟩ := Prod.mk.inj ((show sPlace 2 l0 l1 x0 x1 = (0, 4) by unfold sPlace; rw [if_neg (fun h => h HS.out), if_pos (by simp [mst]; omega)]).symm.trans HP.out)
    clear HP
    go_enter Tryd.func55, Tryd.ntmps55
    go_wp2_with fail
    refine (rcheck_any 2 l0 l1 0 _ HS.out).mono ?_
    rintro e w1 ⟨rfl, hb1⟩
    obtain ⟨X0, X1, b1⟩ := after2 hb1
    clear hb1
    have c0 : ∀ i, w1.cell? ⟨w.heap.size, i, none⟩ = _ := Bx.cell X0
    have c1 : ∀ i, w1.cell? ⟨w.heap.size + 1, i, none⟩ = _ := Bx.cell X1
    go_wp2
    refine wp_loop_rounds 1 ?_
    rw [rounds_succ]
    go_wp2
    go_quiet (fail)
    go_wp2
    go_ret2
    exact ⟨rfl, bdn b1 _⟩
  · have d0 : decide (x0 < 0) = false := decide_eq_false a0
    by_cases a1 : l0 ≤ x0
    · have d1 : decide (l0 ≤ x0) = true := decide_eq_true a1
      skip
      obtain ⟨rfl, rfl⟩ := Prod.mk.inj ((show sPlace 2 l0 l1 x0 x1 = (0, 4) by unfold sPlace; rw [if_neg (fun h => h HS.out), if_pos (by simp [mst]; omega)]).symm.trans HP.out)
      clear HP
      go_enter Tryd.func55, Tryd.ntmps55
      go_wp2_with fail
      refine (rcheck_any 2 l0 l1 0 _ HS.out).mono ?_
      rintro e w1 ⟨rfl, hb1⟩
      obtain ⟨X0, X1, b1⟩ := after2 hb1
      clear hb1
      have c0 : ∀ i, w1.cell? ⟨w.heap.size, i, none⟩ = _ := Bx.cell X0
      have c1 : ∀ i, w1.cell? ⟨w.heap.size + 1, i, none⟩ = _ := Bx.cell X1
      go_wp2
      refine wp_loop_rounds 1 ?_
      rw [rounds_succ]
      go_wp2
      go_quiet (fail)
      go_wp2
      go_ret2
      exact ⟨rfl, bdn b1 _⟩
    · have d1 : decide (l0 ≤ x0) = false := decide_eq_false a1
      by_cases a2 : x1 < 0
      · have d2 : decide (x1 < 0) = true := decide_eq_true a2
        skip
        obtain ⟨rfl, rfl⟩ := Prod.mk.inj ((show sPlace 2 l0 l1 x0 x1 = (0, 4) by unfold sPlace; rw [if_neg (fun h => h HS.out), if_pos (by simp [mst]; omega)]).symm.trans HP.out)
        clear HP
        go_enter Tryd.func55, Tryd.ntmps55
        go_wp2_with fail
        refine (rcheck_any 2 l0 l1 0 _ HS.out).mono ?_
        rintro e w1 ⟨rfl, hb1⟩
        obtain ⟨X0, X1, b1⟩ := after2 hb1
        clear hb1
        have c0 : ∀ i, w1.cell? ⟨w.heap.size, i, none⟩ = _ := Bx.cell X0
        have c1 : ∀ i, w1.cell? ⟨w.heap.size + 1, i, none⟩ = _ := Bx.cell X1
        go_wp2
        refine wp_loop_rounds 2 ?_
        rw [rounds_succ]
        go_wp2
        go_quiet (fail)
        have b2 := bdn b1 nq
        have X0' := Bx.drewN X0 nq
        have X1' := Bx.drewN X1 nq
        generalize hw2 : w1.drewN nq = w2 at b2 X0' X1' ⊢
        have c0' : ∀ i, w2.cell? ⟨w.heap.size, i, none⟩ = _ := Bx.cell X0'
        have c1' : ∀ i, w2.cell? ⟨w.heap.size + 1, i, none⟩ = _ := Bx.cell X1'
        clear c0 c1 X0 X1 hw2
        go_wp2
        rw [rounds_succ]
        go_wp2
        go_quiet (fail)
        go_wp2
        go_ret2
        exact ⟨rfl, bdn b2 _⟩
      · have d2 : decide (x1 < 0) = false := decide_eq_false a2
        by_cases a3 : l1 ≤ x1
        · have d3 : decide (l1 ≤ x1) = true := decide_eq_true a3
          skip
          obtain ⟨rfl, rfl⟩ := Prod.mk.inj ((show sPlace 2 l0 l1 x0 x1 = (0, 4) by unfold sPlace; rw [if_neg (fun h => h HS.out), if_pos (by simp [mst]; omega)]).symm.trans HP.out)
          clear HP
          go_enter Tryd.func55, Tryd.ntmps55
          go_wp2_with fail
          refine (rcheck_any 2 l0 l1 0 _ HS.out).mono ?_
          rintro e w1 ⟨rfl, hb1⟩
          obtain ⟨X0, X1, b1⟩ := after2 hb1
          clear hb1
          have c0 : ∀ i, w1.cell? ⟨w.heap.size, i, none⟩ = _ := Bx.cell X0
          have c1 : ∀ i, w1.cell? ⟨w.heap.size + 1, i, none⟩ = _ := Bx.cell X1
          go_wp2
          refine wp_loop_rounds 2 ?_
          rw [rounds_succ]
          go_wp2
          go_quiet (fail)
          have b2 := bdn b1 nq
          have X0' := Bx.drewN X0 nq
          have X1' := Bx.drewN X1 nq
          generalize hw2 : w1.drewN nq = w2 at b2 X0' X1' ⊢
          have c0' : ∀ i, w2.cell? ⟨w.heap.size, i, none⟩ = _ := Bx.cell X0'
          have c1' : ∀ i, w2.cell? ⟨w.heap.size + 1, i, none⟩ = _ := Bx.cell X1'
          clear c0 c1 X0 X1 hw2
          go_wp2
          rw [rounds_succ]
          go_wp2
          go_quiet (fail)
          go_wp2
          go_ret2
          exact ⟨rfl, bdn b2 _⟩
        · have d3 : decide (l1 ≤ x1) = false := decide_eq_false a3
          skip
          have hb0 : 0 ≤ x0 * l1 := Int.mul_nonneg (by omega) (by omega)
          have hb2 : x0 * l1 ≤ 160000 := by have := Int.mul_le_mul (show x0 ≤ 400 by omega) (show l1 ≤ 400 by omega) (by omega) (by omega : (0:Int) ≤ 400); omega
          have he := (show sPlace 2 l0 l1 x0 x1 = (x0 * mst 2 1 l1 + x1, 0) by unfold sPlace; rw [if_neg (fun h => h HS.out), if_neg (by simp [mst]; omega)]).symm.trans HP.out
          obtain ⟨hp, rfl⟩ := Prod.mk.inj he
          have HQ := Lib.hid hp
          have HX : Hid ((2 : Int) < 2 → x1 = 0) := Lib.hid (by omega)
          clear HP he hp
          go_enter Tryd.func55, Tryd.ntmps55
          go_wp2_with fail
          refine (rcheck_any 2 l0 l1 0 _ HS.out).mono ?_
          rintro e w1 ⟨rfl, hb1⟩
          obtain ⟨X0, X1, b1⟩ := after2 hb1
          clear hb1
          have c0 : ∀ i, w1.cell? ⟨w.heap.size, i, none⟩ = _ := Bx.cell X0
          have c1 : ∀ i, w1.cell? ⟨w.heap.size + 1, i, none⟩ = _ := Bx.cell X1
          go_wp2
          refine wp_loop_rounds 3 ?_
          rw [rounds_succ]
          go_wp2
          go_quiet (fail)
          have b2 := bdn b1 nq
          have X0' := Bx.drewN X0 nq
          have X1' := Bx.drewN X1 nq
          generalize hw2 : w1.drewN nq = w2 at b2 X0' X1' ⊢
          have c0' : ∀ i, w2.cell? ⟨w.heap.size, i, none⟩ = _ := Bx.cell X0'
          have c1' : ∀ i, w2.cell? ⟨w.heap.size + 1, i, none⟩ = _ := Bx.cell X1'
          clear c0 c1 X0 X1 hw2
          go_wp2
          rw [rounds_succ]
          go_wp2
          go_quiet (fail)
          have b3 := bdn b2 nq
          have X0'' := Bx.drewN X0' nq
          have X1'' := Bx.drewN X1' nq
          generalize hw3 : w2.drewN nq = w3 at b3 X0'' X1'' ⊢
          have c0'' : ∀ i, w3.cell? ⟨w.heap.size, i, none⟩ = _ := Bx.cell X0''
          have c1'' : ∀ i, w3.cell? ⟨w.heap.size + 1, i, none⟩ = _ := Bx.cell X1''
          clear c0' c1' X0' X1' hw3
          go_wp2
          rw [rounds_succ]
          go_wp2
          skip
          go_ret2
          refine ⟨?_, b3⟩
          rw [← HQ.out]
          have hx := HX.out
          simp [mst] at hx ⊢
          try omega
set_option maxHeartbeats 2000000 in
theorem rplace_any (r l0 l1 x0 x1 p ec : Int) (w : World) (h : sPlace r l0 l1 x0 x1 = (p, ec)) :
    Calls Tryd.prog 55 #[.int .i64 r, .agg #[.int .i64 l0, .int .i64 l1], .agg #[.int .i64 x0, .int .i64 x1]] w fun e w' => e = .returned (.tuple #[.int .i64 p, .int .i64 ec]) ∧ Below w.heap.size w w' := by
  by_cases hs : shp r l0 l1 = 0
  · rcases shp_ok hs with ⟨rfl, h0, h1⟩ | ⟨rfl, h1, h2, h3⟩ | ⟨rfl, h1, h2, h3, h4, h5⟩
    · exact rplace_ok0 l0 l1 x0 x1 p ec w hs (by omega) (by omega) (by omega) (by omega) h
    · exact rplace_ok1 l0 l1 x0 x1 p ec w hs (by omega) (by omega) (by omega) (by omega) h
    · exact rplace_ok2 l0 l1 x0 x1 p ec w hs (by omega) (by omega) (by omega) (by omega) h
  · obtain ⟨rfl, he⟩ := Prod.mk.inj ((if_pos hs : sPlace r l0 l1 x0 x1 = (0, shp r l0 l1)).symm.trans h)
    have hne : (ec != 0) = true := by rw [← he]; simpa using hs
    have HE := Lib.hid he
    clear he hs h
    go_enter Tryd.func55, Tryd.ntmps55
    go_wp2_with fail
    refine (rcheck_any r l0 l1 ec _ HE.out).mono ?_
    rintro e w1 ⟨rfl, hb1⟩
    obtain ⟨X0, X1, b1⟩ := after2 hb1
    clear hb1
    have c0 : ∀ i, w1.cell? ⟨w.heap.size, i, none⟩ = _ := Bx.cell X0
    have c1 : ∀ i, w1.cell? ⟨w.heap.size + 1, i, none⟩ = _ := Bx.cell X1
    go_wp2
    go_ret2
    exact ⟨rfl, b1⟩
end Go.Proofs.YtimpdfafodaadaaDoor

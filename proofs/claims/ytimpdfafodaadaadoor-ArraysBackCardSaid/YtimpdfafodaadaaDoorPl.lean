/-
  shapes.Place and the reference's.
-/
import Derived.Test.YtimpdfafodaadaaDoorRchk
import Derived.Test.YtimpdfafodaadaaDoorS5
namespace Go.Proofs.YtimpdfafodaadaaDoor
open Go.RowKit

def V2 (a b : Int) : Value := .agg #[.int .i64 a, .int .i64 b]



set_option maxHeartbeats 4000000 in
theorem place_any (r l0 l1 x0 x1 p ec : Int) (w : World) (h : sPlace r l0 l1 x0 x1 = (p, ec)) :
    Calls Tryd.prog 78 #[.int .i64 r, .agg #[.int .i64 l0, .int .i64 l1], .agg #[.int .i64 x0, .int .i64 x1]] w fun e w' => e = .returned (.tuple #[.int .i64 p, .int .i64 ec]) ∧ Below w.heap.size w w' := by
  have HP := Lib.hid h
  clear h
  by_cases hs : shp r l0 l1 = 0
  · have HS := Lib.hid hs
    have hok := shp_ok hs
    clear hs
    rcases hok with ⟨rfl, h0, h1⟩ | ⟨rfl, h1, h2, h3⟩ | ⟨rfl, h1, h2, h3, h4, h5⟩
    · have H0 := Lib.hid h0
      have H1 := Lib.hid h1
      have g1 : 0 ≤ l1 ∧ l1 ≤ 400 := by omega
      obtain ⟨g1, g2⟩ := g1
      clear h0 h1
      by_cases a0 : x0 < 0
      · obtain ⟨rfl, rfl⟩ := Prod.mk.inj ((show sPlace 0 l0 l1 x0 x1 = (0, 4) by unfold sPlace; rw [if_neg (fun h => h HS.out), if_pos (by simp [mst]; omega)]).symm.trans HP.out)
        clear HP
        have i0 : ∀ w : World, (Instr.index 22 (.agg #[.int .i64 x0, .int .i64 x1]) (.int .i64 0)).run Tryd.prog w = .ok (.int .i64 x0) w := fun _ => by kernel_rfl
        have i1 : ∀ w : World, (Instr.index 22 (.agg #[.int .i64 x0, .int .i64 x1]) (.int .i64 1)).run Tryd.prog w = .ok (.int .i64 x1) w := fun _ => by kernel_rfl
        go_enter Tryd.func78, Tryd.ntmps78
        go_wp2_with fail
        refine (check_any 0 l0 l1 0 _ HS.out).mono ?_
        rintro e w1 ⟨rfl, hb1⟩
        obtain ⟨X0, X1, b1⟩ := after2 hb1
        clear hb1
        have c0 : ∀ i, w1.cell? ⟨w.heap.size, i, none⟩ = _ := Bx.cell X0
        have c1 : ∀ i, w1.cell? ⟨w.heap.size + 1, i, none⟩ = _ := Bx.cell X1
        clear X0 X1
        go_wp2
        refine wp_loop_rounds 1 ?_
        rw [rounds_succ]
        go_wp2
        go_ret2
        exact ⟨rfl, b1⟩
      · by_cases a1 : 1 ≤ x0
        · obtain ⟨rfl, rfl⟩ := Prod.mk.inj ((show sPlace 0 l0 l1 x0 x1 = (0, 4) by unfold sPlace; rw [if_neg (fun h => h HS.out), if_pos (by simp [mst]; omega)]).symm.trans HP.out)
          clear HP
          have i0 : ∀ w : World, (Instr.index 22 (.agg #[.int .i64 x0, .int .i64 x1]) (.int .i64 0)).run Tryd.prog w = .ok (.int .i64 x0) w := fun _ => by kernel_rfl
          have i1 : ∀ w : World, (Instr.index 22 (.agg #[.int .i64 x0, .int .i64 x1]) (.int .i64 1)).run Tryd.prog w = .ok (.int .i64 x1) w := fun _ => by kernel_rfl
          go_enter Tryd.func78, Tryd.ntmps78
          go_wp2_with fail
          refine (check_any 0 l0 l1 0 _ HS.out).mono ?_
          rintro e w1 ⟨rfl, hb1⟩
          obtain ⟨X0, X1, b1⟩ := after2 hb1
          clear hb1
          have c0 : ∀ i, w1.cell? ⟨w.heap.size, i, none⟩ = _ := Bx.cell X0
          have c1 : ∀ i, w1.cell? ⟨w.heap.size + 1, i, none⟩ = _ := Bx.cell X1
          clear X0 X1
          go_wp2
          refine wp_loop_rounds 1 ?_
          rw [rounds_succ]
          go_wp2
          go_ret2
          exact ⟨rfl, b1⟩
        · by_cases a2 : x1 < 0
          · obtain ⟨rfl, rfl⟩ := Prod.mk.inj ((show sPlace 0 l0 l1 x0 x1 = (0, 4) by unfold sPlace; rw [if_neg (fun h => h HS.out), if_pos (by simp [mst]; omega)]).symm.trans HP.out)
            clear HP
            have i0 : ∀ w : World, (Instr.index 22 (.agg #[.int .i64 x0, .int .i64 x1]) (.int .i64 0)).run Tryd.prog w = .ok (.int .i64 x0) w := fun _ => by kernel_rfl
            have i1 : ∀ w : World, (Instr.index 22 (.agg #[.int .i64 x0, .int .i64 x1]) (.int .i64 1)).run Tryd.prog w = .ok (.int .i64 x1) w := fun _ => by kernel_rfl
            go_enter Tryd.func78, Tryd.ntmps78
            go_wp2_with fail
            refine (check_any 0 l0 l1 0 _ HS.out).mono ?_
            rintro e w1 ⟨rfl, hb1⟩
            obtain ⟨X0, X1, b1⟩ := after2 hb1
            clear hb1
            have c0 : ∀ i, w1.cell? ⟨w.heap.size, i, none⟩ = _ := Bx.cell X0
            have c1 : ∀ i, w1.cell? ⟨w.heap.size + 1, i, none⟩ = _ := Bx.cell X1
            clear X0 X1
            go_wp2
            refine wp_loop_rounds 2 ?_
            rw [rounds_succ]
            go_wp2
            rw [rounds_succ]
            go_wp2
            go_ret2
            exact ⟨rfl, b1⟩
          · by_cases a3 : 1 ≤ x1
            · obtain ⟨rfl, rfl⟩ := Prod.mk.inj ((show sPlace 0 l0 l1 x0 x1 = (0, 4) by unfold sPlace; rw [if_neg (fun h => h HS.out), if_pos (by simp [mst]; omega)]).symm.trans HP.out)
              clear HP
              have i0 : ∀ w : World, (Instr.index 22 (.agg #[.int .i64 x0, .int .i64 x1]) (.int .i64 0)).run Tryd.prog w = .ok (.int .i64 x0) w := fun _ => by kernel_rfl
              have i1 : ∀ w : World, (Instr.index 22 (.agg #[.int .i64 x0, .int .i64 x1]) (.int .i64 1)).run Tryd.prog w = .ok (.int .i64 x1) w := fun _ => by kernel_rfl
              go_enter Tryd.func78, Tryd.ntmps78
              go_wp2_with fail
              refine (check_any 0 l0 l1 0 _ HS.out).mono ?_
              rintro e w1 ⟨rfl, hb1⟩
              obtain ⟨X0, X1, b1⟩ := after2 hb1
              clear hb1
              have c0 : ∀ i, w1.cell? ⟨w.heap.size, i, none⟩ = _ := Bx.cell X0
              have c1 : ∀ i, w1.cell? ⟨w.heap.size + 1, i, none⟩ = _ := Bx.cell X1
              clear X0 X1
              go_wp2
              refine wp_loop_rounds 2 ?_
              rw [rounds_succ]
              go_wp2
              rw [rounds_succ]
              go_wp2
              go_ret2
              exact ⟨rfl, b1⟩
            · have hb0 : 0 ≤ x0 * l1 := Int.mul_nonneg (by omega) (by omega)
              have hb2 : x0 * l1 ≤ 160000 := by have := Int.mul_le_mul (show x0 ≤ 400 by omega) (show l1 ≤ 400 by omega) (by omega) (by omega : (0:Int) ≤ 400); omega
              have he := (show sPlace 0 l0 l1 x0 x1 = (x0 * mst 0 1 l1 + x1, 0) by unfold sPlace; rw [if_neg (fun h => h HS.out), if_neg (by simp [mst]; omega)]).symm.trans HP.out
              obtain ⟨hp, rfl⟩ := Prod.mk.inj he
              have HQ := Lib.hid hp
              clear HP he hp
              have i0 : ∀ w : World, (Instr.index 22 (.agg #[.int .i64 x0, .int .i64 x1]) (.int .i64 0)).run Tryd.prog w = .ok (.int .i64 x0) w := fun _ => by kernel_rfl
              have i1 : ∀ w : World, (Instr.index 22 (.agg #[.int .i64 x0, .int .i64 x1]) (.int .i64 1)).run Tryd.prog w = .ok (.int .i64 x1) w := fun _ => by kernel_rfl
              go_enter Tryd.func78, Tryd.ntmps78
              go_wp2_with fail
              refine (check_any 0 l0 l1 0 _ HS.out).mono ?_
              rintro e w1 ⟨rfl, hb1⟩
              obtain ⟨X0, X1, b1⟩ := after2 hb1
              clear hb1
              have c0 : ∀ i, w1.cell? ⟨w.heap.size, i, none⟩ = _ := Bx.cell X0
              have c1 : ∀ i, w1.cell? ⟨w.heap.size + 1, i, none⟩ = _ := Bx.cell X1
              clear X0 X1
              go_wp2
              refine wp_loop_rounds 3 ?_
              rw [rounds_succ]
              go_wp2
              rw [rounds_succ]
              go_wp2
              rw [rounds_succ]
              go_wp2
              go_ret2
              refine ⟨?_, b1⟩
              rw [← HQ.out]
              simp [mst]
    · have H0 := Lib.hid h3
      have g1 : 0 ≤ l1 ∧ l1 ≤ 400 := by omega
      obtain ⟨g1, g2⟩ := g1
      clear h3
      by_cases a0 : x0 < 0
      · obtain ⟨rfl, rfl⟩ := Prod.mk.inj ((show sPlace 1 l0 l1 x0 x1 = (0, 4) by unfold sPlace; rw [if_neg (fun h => h HS.out), if_pos (by simp [mst]; omega)]).symm.trans HP.out)
        clear HP
        have i0 : ∀ w : World, (Instr.index 22 (.agg #[.int .i64 x0, .int .i64 x1]) (.int .i64 0)).run Tryd.prog w = .ok (.int .i64 x0) w := fun _ => by kernel_rfl
        have i1 : ∀ w : World, (Instr.index 22 (.agg #[.int .i64 x0, .int .i64 x1]) (.int .i64 1)).run Tryd.prog w = .ok (.int .i64 x1) w := fun _ => by kernel_rfl
        go_enter Tryd.func78, Tryd.ntmps78
        go_wp2_with fail
        refine (check_any 1 l0 l1 0 _ HS.out).mono ?_
        rintro e w1 ⟨rfl, hb1⟩
        obtain ⟨X0, X1, b1⟩ := after2 hb1
        clear hb1
        have c0 : ∀ i, w1.cell? ⟨w.heap.size, i, none⟩ = _ := Bx.cell X0
        have c1 : ∀ i, w1.cell? ⟨w.heap.size + 1, i, none⟩ = _ := Bx.cell X1
        clear X0 X1
        go_wp2
        refine wp_loop_rounds 1 ?_
        rw [rounds_succ]
        go_wp2
        go_ret2
        exact ⟨rfl, b1⟩
      · by_cases a1 : l0 ≤ x0
        · obtain ⟨rfl, rfl⟩ := Prod.mk.inj ((show sPlace 1 l0 l1 x0 x1 = (0, 4) by unfold sPlace; rw [if_neg (fun h => h HS.out), if_pos (by simp [mst]; omega)]).symm.trans HP.out)
          clear HP
          have i0 : ∀ w : World, (Instr.index 22 (.agg #[.int .i64 x0, .int .i64 x1]) (.int .i64 0)).run Tryd.prog w = .ok (.int .i64 x0) w := fun _ => by kernel_rfl
          have i1 : ∀ w : World, (Instr.index 22 (.agg #[.int .i64 x0, .int .i64 x1]) (.int .i64 1)).run Tryd.prog w = .ok (.int .i64 x1) w := fun _ => by kernel_rfl
          go_enter Tryd.func78, Tryd.ntmps78
          go_wp2_with fail
          refine (check_any 1 l0 l1 0 _ HS.out).mono ?_
          rintro e w1 ⟨rfl, hb1⟩
          obtain ⟨X0, X1, b1⟩ := after2 hb1
          clear hb1
          have c0 : ∀ i, w1.cell? ⟨w.heap.size, i, none⟩ = _ := Bx.cell X0
          have c1 : ∀ i, w1.cell? ⟨w.heap.size + 1, i, none⟩ = _ := Bx.cell X1
          clear X0 X1
          go_wp2
          refine wp_loop_rounds 1 ?_
          rw [rounds_succ]
          go_wp2
          go_ret2
          exact ⟨rfl, b1⟩
        · by_cases a2 : x1 < 0
          · obtain ⟨rfl, rfl⟩ := Prod.mk.inj ((show sPlace 1 l0 l1 x0 x1 = (0, 4) by unfold sPlace; rw [if_neg (fun h => h HS.out), if_pos (by simp [mst]; omega)]).symm.trans HP.out)
            clear HP
            have i0 : ∀ w : World, (Instr.index 22 (.agg #[.int .i64 x0, .int .i64 x1]) (.int .i64 0)).run Tryd.prog w = .ok (.int .i64 x0) w := fun _ => by kernel_rfl
            have i1 : ∀ w : World, (Instr.index 22 (.agg #[.int .i64 x0, .int .i64 x1]) (.int .i64 1)).run Tryd.prog w = .ok (.int .i64 x1) w := fun _ => by kernel_rfl
            go_enter Tryd.func78, Tryd.ntmps78
            go_wp2_with fail
            refine (check_any 1 l0 l1 0 _ HS.out).mono ?_
            rintro e w1 ⟨rfl, hb1⟩
            obtain ⟨X0, X1, b1⟩ := after2 hb1
            clear hb1
            have c0 : ∀ i, w1.cell? ⟨w.heap.size, i, none⟩ = _ := Bx.cell X0
            have c1 : ∀ i, w1.cell? ⟨w.heap.size + 1, i, none⟩ = _ := Bx.cell X1
            clear X0 X1
            go_wp2
            refine wp_loop_rounds 2 ?_
            rw [rounds_succ]
            go_wp2
            rw [rounds_succ]
            go_wp2
            go_ret2
            exact ⟨rfl, b1⟩
          · by_cases a3 : 1 ≤ x1
            · obtain ⟨rfl, rfl⟩ := Prod.mk.inj ((show sPlace 1 l0 l1 x0 x1 = (0, 4) by unfold sPlace; rw [if_neg (fun h => h HS.out), if_pos (by simp [mst]; omega)]).symm.trans HP.out)
              clear HP
              have i0 : ∀ w : World, (Instr.index 22 (.agg #[.int .i64 x0, .int .i64 x1]) (.int .i64 0)).run Tryd.prog w = .ok (.int .i64 x0) w := fun _ => by kernel_rfl
              have i1 : ∀ w : World, (Instr.index 22 (.agg #[.int .i64 x0, .int .i64 x1]) (.int .i64 1)).run Tryd.prog w = .ok (.int .i64 x1) w := fun _ => by kernel_rfl
              go_enter Tryd.func78, Tryd.ntmps78
              go_wp2_with fail
              refine (check_any 1 l0 l1 0 _ HS.out).mono ?_
              rintro e w1 ⟨rfl, hb1⟩
              obtain ⟨X0, X1, b1⟩ := after2 hb1
              clear hb1
              have c0 : ∀ i, w1.cell? ⟨w.heap.size, i, none⟩ = _ := Bx.cell X0
              have c1 : ∀ i, w1.cell? ⟨w.heap.size + 1, i, none⟩ = _ := Bx.cell X1
              clear X0 X1
              go_wp2
              refine wp_loop_rounds 2 ?_
              rw [rounds_succ]
              go_wp2
              rw [rounds_succ]
              go_wp2
              go_ret2
              exact ⟨rfl, b1⟩
            · have hb0 : 0 ≤ x0 * l1 := Int.mul_nonneg (by omega) (by omega)
              have hb2 : x0 * l1 ≤ 160000 := by have := Int.mul_le_mul (show x0 ≤ 400 by omega) (show l1 ≤ 400 by omega) (by omega) (by omega : (0:Int) ≤ 400); omega
              have he := (show sPlace 1 l0 l1 x0 x1 = (x0 * mst 1 1 l1 + x1, 0) by unfold sPlace; rw [if_neg (fun h => h HS.out), if_neg (by simp [mst]; omega)]).symm.trans HP.out
              obtain ⟨hp, rfl⟩ := Prod.mk.inj he
              have HQ := Lib.hid hp
              clear HP he hp
              have i0 : ∀ w : World, (Instr.index 22 (.agg #[.int .i64 x0, .int .i64 x1]) (.int .i64 0)).run Tryd.prog w = .ok (.int .i64 x0) w := fun _ => by kernel_rfl
              have i1 : ∀ w : World, (Instr.index 22 (.agg #[.int .i64 x0, .int .i64 x1]) (.int .i64 1)).run Tryd.prog w = .ok (.int .i64 x1) w := fun _ => by kernel_rfl
              go_enter Tryd.func78, Tryd.ntmps78
              go_wp2_with fail
              refine (check_any 1 l0 l1 0 _ HS.out).mono ?_
              rintro e w1 ⟨rfl, hb1⟩
              obtain ⟨X0, X1, b1⟩ := after2 hb1
              clear hb1
              have c0 : ∀ i, w1.cell? ⟨w.heap.size, i, none⟩ = _ := Bx.cell X0
              have c1 : ∀ i, w1.cell? ⟨w.heap.size + 1, i, none⟩ = _ := Bx.cell X1
              clear X0 X1
              go_wp2
              refine wp_loop_rounds 3 ?_
              rw [rounds_succ]
              go_wp2
              rw [rounds_succ]
              go_wp2
              rw [rounds_succ]
              go_wp2
              go_ret2
              refine ⟨?_, b1⟩
              rw [← HQ.out]
              simp [mst]
    · by_cases a0 : x0 < 0
      · obtain ⟨rfl, rfl⟩ := Prod.mk.inj ((show sPlace 2 l0 l1 x0 x1 = (0, 4) by unfold sPlace; rw [if_neg (fun h => h HS.out), if_pos (by simp [mst]; omega)]).symm.trans HP.out)
        clear HP
        have i0 : ∀ w : World, (Instr.index 22 (.agg #[.int .i64 x0, .int .i64 x1]) (.int .i64 0)).run Tryd.prog w = .ok (.int .i64 x0) w := fun _ => by kernel_rfl
        have i1 : ∀ w : World, (Instr.index 22 (.agg #[.int .i64 x0, .int .i64 x1]) (.int .i64 1)).run Tryd.prog w = .ok (.int .i64 x1) w := fun _ => by kernel_rfl
        go_enter Tryd.func78, Tryd.ntmps78
        go_wp2_with fail
        refine (check_any 2 l0 l1 0 _ HS.out).mono ?_
        rintro e w1 ⟨rfl, hb1⟩
        obtain ⟨X0, X1, b1⟩ := after2 hb1
        clear hb1
        have c0 : ∀ i, w1.cell? ⟨w.heap.size, i, none⟩ = _ := Bx.cell X0
        have c1 : ∀ i, w1.cell? ⟨w.heap.size + 1, i, none⟩ = _ := Bx.cell X1
        clear X0 X1
        go_wp2
        refine wp_loop_rounds 1 ?_
        rw [rounds_succ]
        go_wp2
        go_ret2
        exact ⟨rfl, b1⟩
      · by_cases a1 : l0 ≤ x0
        · obtain ⟨rfl, rfl⟩ := Prod.mk.inj ((show sPlace 2 l0 l1 x0 x1 = (0, 4) by unfold sPlace; rw [if_neg (fun h => h HS.out), if_pos (by simp [mst]; omega)]).symm.trans HP.out)
          clear HP
          have i0 : ∀ w : World, (Instr.index 22 (.agg #[.int .i64 x0, .int .i64 x1]) (.int .i64 0)).run Tryd.prog w = .ok (.int .i64 x0) w := fun _ => by kernel_rfl
          have i1 : ∀ w : World, (Instr.index 22 (.agg #[.int .i64 x0, .int .i64 x1]) (.int .i64 1)).run Tryd.prog w = .ok (.int .i64 x1) w := fun _ => by kernel_rfl
          go_enter Tryd.func78, Tryd.ntmps78
          go_wp2_with fail
          refine (check_any 2 l0 l1 0 _ HS.out).mono ?_
          rintro e w1 ⟨rfl, hb1⟩
          obtain ⟨X0, X1, b1⟩ := after2 hb1
          clear hb1
          have c0 : ∀ i, w1.cell? ⟨w.heap.size, i, none⟩ = _ := Bx.cell X0
          have c1 : ∀ i, w1.cell? ⟨w.heap.size + 1, i, none⟩ = _ := Bx.cell X1
          clear X0 X1
          go_wp2
          refine wp_loop_rounds 1 ?_
          rw [rounds_succ]
          go_wp2
          go_ret2
          exact ⟨rfl, b1⟩
        · by_cases a2 : x1 < 0
          · obtain ⟨rfl, rfl⟩ := Prod.mk.inj ((show sPlace 2 l0 l1 x0 x1 = (0, 4) by unfold sPlace; rw [if_neg (fun h => h HS.out), if_pos (by simp [mst]; omega)]).symm.trans HP.out)
            clear HP
            have i0 : ∀ w : World, (Instr.index 22 (.agg #[.int .i64 x0, .int .i64 x1]) (.int .i64 0)).run Tryd.prog w = .ok (.int .i64 x0) w := fun _ => by kernel_rfl
            have i1 : ∀ w : World, (Instr.index 22 (.agg #[.int .i64 x0, .int .i64 x1]) (.int .i64 1)).run Tryd.prog w = .ok (.int .i64 x1) w := fun _ => by kernel_rfl
            go_enter Tryd.func78, Tryd.ntmps78
            go_wp2_with fail
            refine (check_any 2 l0 l1 0 _ HS.out).mono ?_
            rintro e w1 ⟨rfl, hb1⟩
            obtain ⟨X0, X1, b1⟩ := after2 hb1
            clear hb1
            have c0 : ∀ i, w1.cell? ⟨w.heap.size, i, none⟩ = _ := Bx.cell X0
            have c1 : ∀ i, w1.cell? ⟨w.heap.size + 1, i, none⟩ = _ := Bx.cell X1
            clear X0 X1
            go_wp2
            refine wp_loop_rounds 2 ?_
            rw [rounds_succ]
            go_wp2
            rw [rounds_succ]
            go_wp2
            go_ret2
            exact ⟨rfl, b1⟩
          · by_cases a3 : l1 ≤ x1
            · obtain ⟨rfl, rfl⟩ := Prod.mk.inj ((show sPlace 2 l0 l1 x0 x1 = (0, 4) by unfold sPlace; rw [if_neg (fun h => h HS.out), if_pos (by simp [mst]; omega)]).symm.trans HP.out)
              clear HP
              have i0 : ∀ w : World, (Instr.index 22 (.agg #[.int .i64 x0, .int .i64 x1]) (.int .i64 0)).run Tryd.prog w = .ok (.int .i64 x0) w := fun _ => by kernel_rfl
              have i1 : ∀ w : World, (Instr.index 22 (.agg #[.int .i64 x0, .int .i64 x1]) (.int .i64 1)).run Tryd.prog w = .ok (.int .i64 x1) w := fun _ => by kernel_rfl
              go_enter Tryd.func78, Tryd.ntmps78
              go_wp2_with fail
              refine (check_any 2 l0 l1 0 _ HS.out).mono ?_
              rintro e w1 ⟨rfl, hb1⟩
              obtain ⟨X0, X1, b1⟩ := after2 hb1
              clear hb1
              have c0 : ∀ i, w1.cell? ⟨w.heap.size, i, none⟩ = _ := Bx.cell X0
              have c1 : ∀ i, w1.cell? ⟨w.heap.size + 1, i, none⟩ = _ := Bx.cell X1
              clear X0 X1
              go_wp2
              refine wp_loop_rounds 2 ?_
              rw [rounds_succ]
              go_wp2
              rw [rounds_succ]
              go_wp2
              go_ret2
              exact ⟨rfl, b1⟩
            · have hb0 : 0 ≤ x0 * l1 := Int.mul_nonneg (by omega) (by omega)
              have hb2 : x0 * l1 ≤ 160000 := by have := Int.mul_le_mul (show x0 ≤ 400 by omega) (show l1 ≤ 400 by omega) (by omega) (by omega : (0:Int) ≤ 400); omega
              have he := (show sPlace 2 l0 l1 x0 x1 = (x0 * mst 2 1 l1 + x1, 0) by unfold sPlace; rw [if_neg (fun h => h HS.out), if_neg (by simp [mst]; omega)]).symm.trans HP.out
              obtain ⟨hp, rfl⟩ := Prod.mk.inj he
              have HQ := Lib.hid hp
              clear HP he hp
              have i0 : ∀ w : World, (Instr.index 22 (.agg #[.int .i64 x0, .int .i64 x1]) (.int .i64 0)).run Tryd.prog w = .ok (.int .i64 x0) w := fun _ => by kernel_rfl
              have i1 : ∀ w : World, (Instr.index 22 (.agg #[.int .i64 x0, .int .i64 x1]) (.int .i64 1)).run Tryd.prog w = .ok (.int .i64 x1) w := fun _ => by kernel_rfl
              go_enter Tryd.func78, Tryd.ntmps78
              go_wp2_with fail
              refine (check_any 2 l0 l1 0 _ HS.out).mono ?_
              rintro e w1 ⟨rfl, hb1⟩
              obtain ⟨X0, X1, b1⟩ := after2 hb1
              clear hb1
              have c0 : ∀ i, w1.cell? ⟨w.heap.size, i, none⟩ = _ := Bx.cell X0
              have c1 : ∀ i, w1.cell? ⟨w.heap.size + 1, i, none⟩ = _ := Bx.cell X1
              clear X0 X1
              go_wp2
              refine wp_loop_rounds 3 ?_
              rw [rounds_succ]
              go_wp2
              rw [rounds_succ]
              go_wp2
              rw [rounds_succ]
              go_wp2
              go_ret2
              refine ⟨?_, b1⟩
              rw [← HQ.out]
              simp [mst]
  · obtain ⟨rfl, he⟩ := Prod.mk.inj ((if_pos hs : sPlace r l0 l1 x0 x1 = (0, shp r l0 l1)).symm.trans HP.out)
    have hne : (ec != 0) = true := by rw [← he]; simpa using hs
    have HE := Lib.hid he
    clear he hs HP
    have i0 : ∀ w : World, (Instr.index 22 (.agg #[.int .i64 x0, .int .i64 x1]) (.int .i64 0)).run Tryd.prog w = .ok (.int .i64 x0) w := fun _ => by kernel_rfl
    have i1 : ∀ w : World, (Instr.index 22 (.agg #[.int .i64 x0, .int .i64 x1]) (.int .i64 1)).run Tryd.prog w = .ok (.int .i64 x1) w := fun _ => by kernel_rfl
    go_enter Tryd.func78, Tryd.ntmps78
    go_wp2_with fail
    refine (check_any r l0 l1 ec _ HE.out).mono ?_
    rintro e w1 ⟨rfl, hb1⟩
    obtain ⟨X0, X1, b1⟩ := after2 hb1
    clear hb1
    have c0 : ∀ i, w1.cell? ⟨w.heap.size, i, none⟩ = _ := Bx.cell X0
    have c1 : ∀ i, w1.cell? ⟨w.heap.size + 1, i, none⟩ = _ := Bx.cell X1
    clear X0 X1
    go_wp2
    go_ret2
    exact ⟨rfl, b1⟩
end Go.Proofs.YtimpdfafodaadaaDoor

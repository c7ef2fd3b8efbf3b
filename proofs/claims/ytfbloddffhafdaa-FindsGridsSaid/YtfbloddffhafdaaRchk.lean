/-
  The reference's Many, Check and Cells (shapes), shapes.Cells. Written by gen_rchk.py.
-/
import Derived.Test.YtfbloddffhafdaaChk
namespace Go.Proofs.Ytfbloddffhafdaa
open Go.RowKit

set_option maxHeartbeats 400000 in
theorem many_any (r l0 l1 : Int) (w : World) (hr : r = 0 ∨ r = 1 ∨ r = 2) (h0 : 0 ≤ l0) (h0' : l0 ≤ 400) (h1 : 0 ≤ l1) (h1' : l1 ≤ 400) :
    Calls Try.prog 55 #[.int .i64 r, .agg #[.int .i64 l0, .int .i64 l1]] w fun e w' => e = .returned (.int .i64 (prodI r l0 l1)) ∧ Below w.heap.size w w' := by
  have hp : 0 ≤ l0 * l1 ∧ l0 * l1 ≤ 160000 := ⟨Int.mul_nonneg h0 h1, by have := Int.mul_le_mul h0' h1' h1 (by omega : (0:Int) ≤ 400); omega⟩
  obtain ⟨hp1, hp2⟩ := hp
  rcases hr with rfl | rfl | rfl
  · go_enter Try.func55, Try.ntmps55
    go_wp2
    refine wp_loop_rounds 1 ?_
    rw [rounds_succ]; go_wp2
    go_ret
    refine ⟨?_, bal (Below.refl _ _) _⟩
    simp [prodI]
  · go_enter Try.func55, Try.ntmps55
    go_wp2
    refine wp_loop_rounds 2 ?_
    rw [rounds_succ]; go_wp2
    rw [rounds_succ]; go_wp2
    go_ret
    refine ⟨?_, bal (Below.refl _ _) _⟩
    simp [prodI]
  · go_enter Try.func55, Try.ntmps55
    go_wp2
    refine wp_loop_rounds 3 ?_
    rw [rounds_succ]; go_wp2
    rw [rounds_succ]; go_wp2
    rw [rounds_succ]; go_wp2
    go_ret
    refine ⟨?_, bal (Below.refl _ _) _⟩
    simp [prodI]

set_option maxHeartbeats 1000000 in
theorem rcheck_rank0 (l0 l1 ec : Int) (w : World) (hec : shp 0 l0 l1 = ec) :
    Calls Try.prog 54 #[.int .i64 0, .agg #[.int .i64 l0, .int .i64 l1]] w fun e w' => e = .returned (.int .i64 ec) ∧ Below w.heap.size w w' := by
  by_cases g0 : (l0 != 0) = true
  · have he : shp 0 l0 l1 = 6 := by unfold shp; simp at *; omega
    rw [he] at hec
    subst hec
    clear he
    go_enter Try.func54, Try.ntmps54
    go_wp2
    refine wp_loop_rounds 1 ?_
    rw [rounds_succ]; go_wp2
    refine wp_loop_rounds 1 ?_
    rw [rounds_succ]; go_wp2
    go_ret
    exact ⟨rfl, bal (Below.refl _ _) _⟩
  by_cases g1 : (l1 != 0) = true
  · have he : shp 0 l0 l1 = 6 := by unfold shp; simp at *; omega
    rw [he] at hec
    subst hec
    clear he
    have z0 : l0 = 0 := by simpa using g0
    subst z0
    go_enter Try.func54, Try.ntmps54
    go_wp2
    refine wp_loop_rounds 1 ?_
    rw [rounds_succ]; go_wp2
    refine wp_loop_rounds 2 ?_
    rw [rounds_succ]; go_wp2
    rw [rounds_succ]; go_wp2
    go_ret
    exact ⟨rfl, bal (Below.refl _ _) _⟩
  have he : shp 0 l0 l1 = 0 := by unfold shp; rw [if_neg (by omega), if_neg (by omega), if_neg (by first | omega | (simp at *; omega)), if_neg (by simp [prodI] at *; omega)]
  rw [he] at hec
  subst hec
  clear he
  have q0 : 0 ≤ l0 ∧ l0 ≤ 400 ∧ 0 ≤ l1 ∧ l1 ≤ 400 := by simp at *; omega
  obtain ⟨q0, q1, q2, q3⟩ := q0
  have q4 : decide (400 < prodI 0 l0 l1) = false := by simp [prodI]
  have z0 : l0 = 0 := by simpa using g0
  subst z0
  have z1 : l1 = 0 := by simpa using g1
  subst z1
  go_enter Try.func54, Try.ntmps54
  go_wp2
  refine wp_loop_rounds 1 ?_
  rw [rounds_succ]; go_wp2
  refine wp_loop_rounds 3 ?_
  rw [rounds_succ]; go_wp2
  rw [rounds_succ]; go_wp2
  rw [rounds_succ]; go_wp2_with fail
  refine (many_any _ _ _ _ (by omega) (by omega) (by omega) (by omega) (by omega)).mono ?_
  rintro e w1 ⟨rfl, hb1⟩
  go_wp2
  go_ret
  exact ⟨rfl, bst (bal (Below.refl _ _) _) hb1⟩

set_option maxHeartbeats 1000000 in
theorem rcheck_rank1 (l0 l1 ec : Int) (w : World) (hec : shp 1 l0 l1 = ec) :
    Calls Try.prog 54 #[.int .i64 1, .agg #[.int .i64 l0, .int .i64 l1]] w fun e w' => e = .returned (.int .i64 ec) ∧ Below w.heap.size w w' := by
  by_cases g0 : l0 < 0
  · have he : shp 1 l0 l1 = 7 := by unfold shp; simp at *; omega
    rw [he] at hec
    subst hec
    clear he
    go_enter Try.func54, Try.ntmps54
    go_wp2
    refine wp_loop_rounds 1 ?_
    rw [rounds_succ]; go_wp2
    go_ret
    exact ⟨rfl, bal (Below.refl _ _) _⟩
  by_cases g1 : (l1 != 0) = true
  · have he : shp 1 l0 l1 = 6 := by unfold shp; simp at *; omega
    rw [he] at hec
    subst hec
    clear he
    go_enter Try.func54, Try.ntmps54
    go_wp2
    refine wp_loop_rounds 2 ?_
    rw [rounds_succ]; go_wp2
    rw [rounds_succ]; go_wp2
    refine wp_loop_rounds 1 ?_
    rw [rounds_succ]; go_wp2
    go_ret
    exact ⟨rfl, bal (Below.refl _ _) _⟩
  by_cases g2 : 400 < l0
  · have he : shp 1 l0 l1 = 15 := by unfold shp; rw [if_neg (by omega), if_neg (by omega), if_neg (by first | omega | (simp at *; omega)), if_pos (by omega)]
    rw [he] at hec
    subst hec
    clear he
    have z1 : l1 = 0 := by simpa using g1
    subst z1
    go_enter Try.func54, Try.ntmps54
    go_wp2
    refine wp_loop_rounds 2 ?_
    rw [rounds_succ]; go_wp2
    rw [rounds_succ]; go_wp2
    refine wp_loop_rounds 2 ?_
    rw [rounds_succ]; go_wp2
    rw [rounds_succ]; go_wp2
    go_ret
    exact ⟨rfl, bal (Below.refl _ _) _⟩
  by_cases g3 : 400 < prodI 1 l0 l1
  · have he : shp 1 l0 l1 = 15 := by unfold shp; rw [if_neg (by omega), if_neg (by omega), if_neg (by first | omega | (simp at *; omega)), if_pos (by omega)]
    rw [he] at hec
    subst hec
    clear he
    have q0 : 0 ≤ l0 ∧ l0 ≤ 400 ∧ 0 ≤ l1 ∧ l1 ≤ 400 := by simp at *; omega
    obtain ⟨q0, q1, q2, q3⟩ := q0
    have z1 : l1 = 0 := by simpa using g1
    subst z1
    go_enter Try.func54, Try.ntmps54
    go_wp2
    refine wp_loop_rounds 2 ?_
    rw [rounds_succ]; go_wp2
    rw [rounds_succ]; go_wp2
    refine wp_loop_rounds 2 ?_
    rw [rounds_succ]; go_wp2
    rw [rounds_succ]; go_wp2_with fail
    refine (many_any _ _ _ _ (by omega) (by omega) (by omega) (by omega) (by omega)).mono ?_
    rintro e w1 ⟨rfl, hb1⟩
    go_wp2
    go_ret
    exact ⟨rfl, bst (bal (Below.refl _ _) _) hb1⟩
  have he : shp 1 l0 l1 = 0 := by unfold shp; rw [if_neg (by omega), if_neg (by omega), if_neg (by first | omega | (simp at *; omega)), if_neg (by simp [prodI] at *; omega)]
  rw [he] at hec
  subst hec
  clear he
  have q0 : 0 ≤ l0 ∧ l0 ≤ 400 ∧ 0 ≤ l1 ∧ l1 ≤ 400 := by simp at *; omega
  obtain ⟨q0, q1, q2, q3⟩ := q0
  have q4 : decide (400 < prodI 1 l0 l1) = false := by simp; omega
  have z1 : l1 = 0 := by simpa using g1
  subst z1
  go_enter Try.func54, Try.ntmps54
  go_wp2
  refine wp_loop_rounds 2 ?_
  rw [rounds_succ]; go_wp2
  rw [rounds_succ]; go_wp2
  refine wp_loop_rounds 2 ?_
  rw [rounds_succ]; go_wp2
  rw [rounds_succ]; go_wp2_with fail
  refine (many_any _ _ _ _ (by omega) (by omega) (by omega) (by omega) (by omega)).mono ?_
  rintro e w1 ⟨rfl, hb1⟩
  go_wp2
  go_ret
  exact ⟨rfl, bst (bal (Below.refl _ _) _) hb1⟩

set_option maxHeartbeats 1000000 in
theorem rcheck_rank2 (l0 l1 ec : Int) (w : World) (hec : shp 2 l0 l1 = ec) :
    Calls Try.prog 54 #[.int .i64 2, .agg #[.int .i64 l0, .int .i64 l1]] w fun e w' => e = .returned (.int .i64 ec) ∧ Below w.heap.size w w' := by
  by_cases g0 : l0 < 0
  · have he : shp 2 l0 l1 = 7 := by unfold shp; simp at *; omega
    rw [he] at hec
    subst hec
    clear he
    go_enter Try.func54, Try.ntmps54
    go_wp2
    refine wp_loop_rounds 1 ?_
    rw [rounds_succ]; go_wp2
    go_ret
    exact ⟨rfl, bal (Below.refl _ _) _⟩
  by_cases g1 : l1 < 0
  · have he : shp 2 l0 l1 = 7 := by unfold shp; simp at *; omega
    rw [he] at hec
    subst hec
    clear he
    go_enter Try.func54, Try.ntmps54
    go_wp2
    refine wp_loop_rounds 2 ?_
    rw [rounds_succ]; go_wp2
    rw [rounds_succ]; go_wp2
    go_ret
    exact ⟨rfl, bal (Below.refl _ _) _⟩
  by_cases g2 : 400 < l0
  · have he : shp 2 l0 l1 = 15 := by unfold shp; rw [if_neg (by omega), if_neg (by omega), if_neg (by first | omega | (simp at *; omega)), if_pos (by omega)]
    rw [he] at hec
    subst hec
    clear he
    go_enter Try.func54, Try.ntmps54
    go_wp2
    refine wp_loop_rounds 3 ?_
    rw [rounds_succ]; go_wp2
    rw [rounds_succ]; go_wp2
    rw [rounds_succ]; go_wp2
    refine wp_loop_rounds 1 ?_
    rw [rounds_succ]; go_wp2
    go_ret
    exact ⟨rfl, bal (Below.refl _ _) _⟩
  by_cases g3 : 400 < l1
  · have he : shp 2 l0 l1 = 15 := by unfold shp; rw [if_neg (by omega), if_neg (by omega), if_neg (by first | omega | (simp at *; omega)), if_pos (by omega)]
    rw [he] at hec
    subst hec
    clear he
    go_enter Try.func54, Try.ntmps54
    go_wp2
    refine wp_loop_rounds 3 ?_
    rw [rounds_succ]; go_wp2
    rw [rounds_succ]; go_wp2
    rw [rounds_succ]; go_wp2
    refine wp_loop_rounds 1 ?_
    rw [rounds_succ]; go_wp2
    go_ret
    exact ⟨rfl, bal (Below.refl _ _) _⟩
  by_cases g4 : 400 < prodI 2 l0 l1
  · have he : shp 2 l0 l1 = 15 := by unfold shp; rw [if_neg (by omega), if_neg (by omega), if_neg (by first | omega | (simp at *; omega)), if_pos (by omega)]
    rw [he] at hec
    subst hec
    clear he
    have q0 : 0 ≤ l0 ∧ l0 ≤ 400 ∧ 0 ≤ l1 ∧ l1 ≤ 400 := by simp at *; omega
    obtain ⟨q0, q1, q2, q3⟩ := q0
    go_enter Try.func54, Try.ntmps54
    go_wp2
    refine wp_loop_rounds 3 ?_
    rw [rounds_succ]; go_wp2
    rw [rounds_succ]; go_wp2
    rw [rounds_succ]; go_wp2
    refine wp_loop_rounds 1 ?_
    rw [rounds_succ]; go_wp2_with fail
    refine (many_any _ _ _ _ (by omega) (by omega) (by omega) (by omega) (by omega)).mono ?_
    rintro e w1 ⟨rfl, hb1⟩
    go_wp2
    go_ret
    exact ⟨rfl, bst (bal (Below.refl _ _) _) hb1⟩
  have he : shp 2 l0 l1 = 0 := by unfold shp; rw [if_neg (by omega), if_neg (by omega), if_neg (by first | omega | (simp at *; omega)), if_neg (by simp [prodI] at *; omega)]
  rw [he] at hec
  subst hec
  clear he
  have q0 : 0 ≤ l0 ∧ l0 ≤ 400 ∧ 0 ≤ l1 ∧ l1 ≤ 400 := by simp at *; omega
  obtain ⟨q0, q1, q2, q3⟩ := q0
  have q4 : decide (400 < prodI 2 l0 l1) = false := by simp; omega
  go_enter Try.func54, Try.ntmps54
  go_wp2
  refine wp_loop_rounds 3 ?_
  rw [rounds_succ]; go_wp2
  rw [rounds_succ]; go_wp2
  rw [rounds_succ]; go_wp2
  refine wp_loop_rounds 1 ?_
  rw [rounds_succ]; go_wp2_with fail
  refine (many_any _ _ _ _ (by omega) (by omega) (by omega) (by omega) (by omega)).mono ?_
  rintro e w1 ⟨rfl, hb1⟩
  go_wp2
  go_ret
  exact ⟨rfl, bst (bal (Below.refl _ _) _) hb1⟩

set_option maxHeartbeats 400000 in
/-- The reference's Check returns the error number of the shape. -/
theorem rcheck_any (r l0 l1 ec : Int) (w : World) (hec : shp r l0 l1 = ec) :
    Calls Try.prog 54 #[.int .i64 r, .agg #[.int .i64 l0, .int .i64 l1]] w fun e w' => e = .returned (.int .i64 ec) ∧ Below w.heap.size w w' := by
  by_cases h0 : r < 0
  · have : shp r l0 l1 = 7 := by unfold shp; rw [if_pos (by omega)]
    rw [this] at hec
    subst hec
    go_enter Try.func54, Try.ntmps54
    go_wp2
    go_ret
    exact ⟨rfl, bal (Below.refl _ _) _⟩
  · by_cases h2 : 2 < r
    · have : shp r l0 l1 = 7 := by unfold shp; rw [if_pos (by omega)]
      rw [this] at hec
      subst hec
      go_enter Try.func54, Try.ntmps54
      go_wp2
      go_ret
      exact ⟨rfl, bal (Below.refl _ _) _⟩
    · have hr : r = 0 ∨ r = 1 ∨ r = 2 := by omega
      rcases hr with rfl | rfl | rfl
      · exact rcheck_rank0 l0 l1 ec w hec
      · exact rcheck_rank1 l0 l1 ec w hec
      · exact rcheck_rank2 l0 l1 ec w hec

set_option maxHeartbeats 400000 in
theorem cells_err (r l0 l1 ec : Int) (w : World) (hec : shp r l0 l1 = ec) (hne : ec ≠ 0) :
    Calls Try.prog 56 #[.int .i64 r, .agg #[.int .i64 l0, .int .i64 l1]] w fun e w' => e = .returned (.tuple #[.int .i64 0, .int .i64 ec]) ∧ Below w.heap.size w w' := by
  have H := Lib.hid hec
  have hn : (ec != 0) = true := by simpa using hne
  clear hec
  go_enter Try.func56, Try.ntmps56
  go_wp2_with fail
  refine (check_any _ _ _ _ _ H.out).mono ?_
  rintro e w1 ⟨rfl, hb1⟩
  go_wp2
  go_ret2
  exact ⟨rfl, bst (bal (Below.refl _ _) _) hb1⟩
set_option maxHeartbeats 400000 in
theorem cells_ok (r l0 l1 : Int) (w : World) (hec : shp r l0 l1 = 0) :
    Calls Try.prog 56 #[.int .i64 r, .agg #[.int .i64 l0, .int .i64 l1]] w fun e w' => e = .returned (.tuple #[.int .i64 (prodI r l0 l1), .int .i64 0]) ∧ Below w.heap.size w w' := by
  have H := Lib.hid hec
  have hb : (r = 0 ∨ r = 1 ∨ r = 2) ∧ 0 ≤ l0 ∧ l0 ≤ 400 ∧ 0 ≤ l1 ∧ l1 ≤ 400 := by rcases shp_ok hec with ⟨_, _, _⟩ | ⟨_, _, _, _⟩ | ⟨_, _, _, _, _, _⟩ <;> omega
  have HB := Lib.hid hb
  clear hec hb
  go_enter Try.func56, Try.ntmps56
  go_wp2_with fail
  refine (check_any _ _ _ _ _ H.out).mono ?_
  rintro e w1 ⟨rfl, hb1⟩
  have X1 : Bx w1 w.heap.size #[.int .i64 l0, .int .i64 l1] 22 := (Bx.new _ _ _).step hb1
  have k0 : w1.cell? ⟨w.heap.size, 0, none⟩ = some (.int .i64 l0) := X1.cell 0
  have k1 : w1.cell? ⟨w.heap.size, 1, none⟩ = some (.int .i64 l1) := X1.cell 1
  go_wp2_with fail
  obtain ⟨hr, q0, q1, q2, q3⟩ := HB.out
  refine (product_any _ _ _ _ (by omega) (by omega) (by omega) (by omega)).mono ?_
  rintro e w2 ⟨rfl, hb2⟩
  go_wp2
  go_ret2
  exact ⟨rfl, bst (bst (bal (Below.refl _ _) _) hb1) hb2⟩

set_option maxHeartbeats 400000 in
theorem rcells_err (r l0 l1 ec : Int) (w : World) (hec : shp r l0 l1 = ec) (hne : ec ≠ 0) :
    Calls Try.prog 47 #[.int .i64 r, .agg #[.int .i64 l0, .int .i64 l1]] w fun e w' => e = .returned (.tuple #[.int .i64 0, .int .i64 ec]) ∧ Below w.heap.size w w' := by
  have H := Lib.hid hec
  have hn : (ec != 0) = true := by simpa using hne
  clear hec
  go_enter Try.func47, Try.ntmps47
  go_wp2_with fail
  refine (rcheck_any _ _ _ _ _ H.out).mono ?_
  rintro e w1 ⟨rfl, hb1⟩
  go_wp2
  go_ret2
  exact ⟨rfl, bst (bal (Below.refl _ _) _) hb1⟩
set_option maxHeartbeats 400000 in
theorem rcells_ok (r l0 l1 : Int) (w : World) (hec : shp r l0 l1 = 0) :
    Calls Try.prog 47 #[.int .i64 r, .agg #[.int .i64 l0, .int .i64 l1]] w fun e w' => e = .returned (.tuple #[.int .i64 (prodI r l0 l1), .int .i64 0]) ∧ Below w.heap.size w w' := by
  have H := Lib.hid hec
  have hb : (r = 0 ∨ r = 1 ∨ r = 2) ∧ 0 ≤ l0 ∧ l0 ≤ 400 ∧ 0 ≤ l1 ∧ l1 ≤ 400 := by rcases shp_ok hec with ⟨_, _, _⟩ | ⟨_, _, _, _⟩ | ⟨_, _, _, _, _, _⟩ <;> omega
  have HB := Lib.hid hb
  clear hec hb
  go_enter Try.func47, Try.ntmps47
  go_wp2_with fail
  refine (rcheck_any _ _ _ _ _ H.out).mono ?_
  rintro e w1 ⟨rfl, hb1⟩
  have X1 : Bx w1 w.heap.size #[.int .i64 l0, .int .i64 l1] 22 := (Bx.new _ _ _).step hb1
  have k0 : w1.cell? ⟨w.heap.size, 0, none⟩ = some (.int .i64 l0) := X1.cell 0
  have k1 : w1.cell? ⟨w.heap.size, 1, none⟩ = some (.int .i64 l1) := X1.cell 1
  go_wp2_with fail
  obtain ⟨hr, q0, q1, q2, q3⟩ := HB.out
  refine (many_any _ _ _ _ (by omega) (by omega) (by omega) (by omega) (by omega)).mono ?_
  rintro e w2 ⟨rfl, hb2⟩
  go_wp2
  go_ret2
  exact ⟨rfl, bst (bst (bal (Below.refl _ _) _) hb1) hb2⟩

end Go.Proofs.Ytfbloddffhafdaa

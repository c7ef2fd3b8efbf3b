/-
  The law ShapesOrder: its walk.
-/
import Derived.Test.YteegipfgbcnfkaaDoorLarj5
import Derived.Deep.QuietTactic
import Derived.BigQuiet
import Derived.RegionTactic
namespace Go.Proofs.YteegipfgbcnfkaaDoor
open Go.RowKit
attribute [local go_sem] Oper.semAt_some


/-- What lies in 'last' at the head of round k. -/
def OrdRel (r l0 l1 : Int) (k : Nat) (a0 a1 : Int) : Prop := (k = 0 ∧ a0 = -1 ∧ a1 = -1) ∨ (0 < k ∧ sIndex r l0 l1 ((k : Int) - 1) = (a0, a1, 0))
theorem ord_step {r l0 l1 : Int} {k : Nat} {a0 a1 : Int} (hs : shp r l0 l1 = 0) (hk : (k : Int) < prodI r l0 l1) (h : OrdRel r l0 l1 k a0 a1) :
    ∃ x0 x1, sIndex r l0 l1 k = (x0, x1, 0) ∧ sPlace r l0 l1 x0 x1 = ((k : Int), 0) ∧ 0 ≤ x0 ∧ 0 ≤ x1 ∧ (r < 1 → x0 = 0) ∧ (0 < r → x0 < l0) ∧ (r < 2 → x1 = 0) ∧ (1 < r → x1 < l1) ∧ (a0 < x0 ∨ (a0 = x0 ∧ a1 < x1)) ∧ OrdRel r l0 l1 (k + 1) x0 x1 := by
  have key : ∀ j : Int, 0 ≤ j → j < prodI r l0 l1 → r < 2 → sIndex r l0 l1 j = (j, 0, 0) := by
    intro j h1 h2 h3
    unfold sIndex
    rw [if_neg (fun g => g hs), if_neg (by omega), if_pos h3]
  have key2 : ∀ j : Int, 0 ≤ j → j < prodI r l0 l1 → ¬ r < 2 → sIndex r l0 l1 j = (j / l1, j % l1, 0) := by
    intro j h1 h2 h3
    unfold sIndex
    rw [if_neg (fun g => g hs), if_neg (by omega), if_neg h3]
  have e : ((k + 1 : Nat) : Int) - 1 = (k : Int) := by omega
  by_cases hr : r < 2
  · have hI := key k (by omega) hk hr
    refine ⟨k, 0, hI, ?_, by omega, by decide, ?_, ?_, fun _ => rfl, fun h => absurd h (by omega), ?_, .inr ⟨by omega, by rw [e]; exact hI⟩⟩
    · rcases shp_ok hs with ⟨rfl, h1, h2⟩ | ⟨rfl, h1, h2, h3⟩ | ⟨rfl, _⟩
      · have hp : prodI 0 l0 l1 = 1 := rfl
        unfold sPlace
        rw [if_neg (fun g => g hs), if_neg (by simp [mst]; omega)]
        simp [mst]
      · have hp : prodI 1 l0 l1 = l0 := by simp [prodI]
        unfold sPlace
        rw [if_neg (fun g => g hs), if_neg (by simp [mst]; omega)]
        simp [mst]
      · omega
    · intro h
      rcases shp_ok hs with ⟨rfl, h1, h2⟩ | ⟨rfl, _⟩ | ⟨rfl, _⟩
      · have hp : prodI 0 l0 l1 = 1 := rfl
        omega
      · omega
      · omega
    · intro h
      rcases shp_ok hs with ⟨rfl, h1, h2⟩ | ⟨rfl, _⟩ | ⟨rfl, _⟩
      · omega
      · have hp : prodI 1 l0 l1 = l0 := by simp [prodI]
        omega
      · omega
    · rcases h with ⟨rfl, rfl, rfl⟩ | ⟨h0, h⟩
      · left; omega
      · rw [key _ (by omega) (by omega) hr] at h
        simp only [Prod.mk.injEq] at h
        left; omega
  · have hI := key2 k (by omega) hk hr
    rcases shp_ok hs with ⟨rfl, _⟩ | ⟨rfl, _⟩ | ⟨rfl, h1, h2, h3, h4, h5⟩
    · omega
    · omega
    have hp : prodI 2 l0 l1 = l0 * l1 := by simp [prodI]
    rw [hp] at hk
    have hl1 : 0 < l1 := by
      rcases Int.lt_or_eq_of_le h3 with h | h
      · exact h
      · rw [← h, Int.mul_zero] at hk; omega
    have m0 : 0 ≤ (k : Int) % l1 := Int.emod_nonneg _ (by omega)
    have m1 : (k : Int) % l1 < l1 := Int.emod_lt_of_pos _ hl1
    have d0 : 0 ≤ (k : Int) / l1 := Int.ediv_nonneg (by omega) (by omega)
    have dm : l1 * ((k : Int) / l1) + (k : Int) % l1 = k := Int.mul_ediv_add_emod _ _
    have d1 : (k : Int) / l1 < l0 := by
      rw [Int.ediv_lt_iff_lt_mul hl1]
      exact hk
    refine ⟨_, _, hI, ?_, d0, m0, fun h => absurd h (by decide), fun _ => d1, fun h => absurd h (by decide), fun _ => m1, ?_, .inr ⟨by omega, by rw [e]; exact hI⟩⟩
    · unfold sPlace
      rw [if_neg (fun g => g hs), if_neg (by simp [mst]; omega)]
      have : mst 2 1 l1 = l1 := by simp [mst]
      rw [this, Int.mul_comm, dm]
    · rcases h with ⟨rfl, rfl, rfl⟩ | ⟨h0, h⟩
      · left; omega
      · rw [key2 _ (by omega) (by omega) hr] at h
        simp only [Prod.mk.injEq] at h
        obtain ⟨rfl, rfl, _⟩ := h
        have dm' : l1 * (((k : Int) - 1) / l1) + ((k : Int) - 1) % l1 = (k : Int) - 1 := Int.mul_ediv_add_emod _ _
        have hle : ((k : Int) - 1) / l1 ≤ (k : Int) / l1 := Int.ediv_le_ediv hl1 (by omega)
        rcases Int.lt_or_eq_of_le hle with h | h
        · exact .inl h
        · right
          refine ⟨h, ?_⟩
          rw [h] at dm'
          omega
theorem ord_end {r l0 l1 p : Int} (hs : shp r l0 l1 = 0) (h : p < 0 ∨ prodI r l0 l1 ≤ p) : sIndex r l0 l1 p = (0, 0, 4) := by
  unfold sIndex
  rw [if_neg (fun g => g hs), if_pos h]

set_option maxHeartbeats 2000000 in
theorem ord_bad (rs s0 s1 ec : Int) (w : World) (hC : shp rs s0 s1 = ec) (hne : ec ≠ 0) :
    Calls Tryd.prog 6 #[.agg #[.int .i64 rs, .int .i64 s0, .int .i64 s1]] w fun e w' => e = .returned (.bool true) ∧ Below w.heap.size w w' := by
  have HC := Lib.hid hC
  have HN := Lib.hid hne
  have e1 : (ec != 0) = true := by simpa using hne
  clear hC hne
  go_enter Tryd.func6, Tryd.ntmps6
  go_wp2_with fail
  refine (cells_err rs s0 s1 ec _ HC.out HN.out).mono ?_
  rintro e w1 ⟨rfl, hst⟩
  obtain ⟨Xs, hst⟩ := after1 hst
  have b : Below w.heap.size w w1 := hst
  clear hst
  have dXs : ∀ i, w1.cell? ⟨w.heap.size, i, none⟩ = _ := Bx.cell Xs
  have eXs : ∀ i, w1.frozen? ⟨w.heap.size, i, none⟩ = false := Bx.frozen Xs
  have qXs := Bx.lt Xs
  go_wp2_with fail
  refine (awake5 _).mono ?_
  rintro e wz ⟨rfl, hbz⟩
  go_wp2
  go_ret
  exact ⟨rfl, bst b hbz⟩
set_option maxRecDepth 100000 in
set_option maxHeartbeats 16000000 in
theorem ord_0 (s0 s1 : Int) (N : Nat) (w : World) (hC : shp 0 s0 s1 = 0) (hN : prodI 0 s0 s1 = N) (hN4 : N ≤ 400) :
    Calls Tryd.prog 6 #[.agg #[.int .i64 0, .int .i64 s0, .int .i64 s1]] w fun e w' => e = .returned (.bool true) ∧ Below w.heap.size w w' := by

  have HC := Lib.hid hC
  have HN := Lib.hid hN
  have HE := Lib.hid (ord_end (p := (N : Int)) hC (.inr (by omega)))
  have HF := Lib.hid (ord_end (p := -1) hC (.inl (by decide)))
  clear hC hN
  go_enter Tryd.func6, Tryd.ntmps6
  go_wp2_with fail
  refine (cells_ok 0 s0 s1 _ HC.out).mono ?_
  rintro e w1 ⟨rfl, hst⟩
  obtain ⟨Xs, hst⟩ := after1 hst
  have b : Below w.heap.size w w1 := hst
  clear hst
  rw [HN.out]
  have dXs : ∀ i, w1.cell? ⟨w.heap.size, i, none⟩ = _ := Bx.cell Xs
  have eXs : ∀ i, w1.frozen? ⟨w.heap.size, i, none⟩ = false := Bx.frozen Xs
  have qXs := Bx.lt Xs
  go_wp2
  have hw1_ := b.size
  have hZ := Bx.lt Xs
  have XL := Bx.new w1 #[.int .i64 (-1), .int .i64 (-1)] 22
  have hst := below1 w1 (.cells #[.int .i64 (-1), .int .i64 (-1)] 22)
  obtain ⟨w2, hw_⟩ : ∃ w2, w1.alloc (.cells #[.int .i64 (-1), .int .i64 (-1)] 22) = w2 := ⟨_, rfl⟩
  rw [hw_] at XL hst
  rw [hw_]
  clear hw_
  clear dXs eXs qXs
  replace Xs := Bx.step Xs hst
  replace b := bst b hst
  clear hst
  have hBL : w.heap.size ≤ w1.heap.size := hw1_
  go_loopw [6] (fun i wr => ∃ (k : Nat) (a0 a1 : Int), k ≤ N ∧ i = .int .i64 k ∧ Below w.heap.size w wr ∧ Hid (Bx wr w.heap.size #[.int .i64 0, .int .i64 s0, .int .i64 s1] 24) ∧ Hid (Bx wr w1.heap.size #[.int .i64 a0, .int .i64 a1] 22) ∧ Hid (OrdRel 0 s0 s1 k a0 a1)) (fun i _ => N - (intOf i).toNat)
  case atStart => exact ⟨0, -1, -1, Nat.zero_le _, rfl, b, Lib.hid Xs, Lib.hid XL, Lib.hid (.inl ⟨rfl, rfl, rfl⟩)⟩
  case round =>
    obtain ⟨k, a0, a1, hk, rfl, hbr, HX, HL, HR⟩ := hrel
    clear Xs XL b 
    have Xs := HX.out
    have XL := HL.out
    have b := hbr
    clear HX HL hbr
    by_cases hlt : k < N
    · obtain ⟨x0, x1, hI, hP, p0, p1, p2, p3, p4, p5, hord, hnx⟩ := ord_step HC.out (by rw [HN.out]; omega) HR.out
      have HI := Lib.hid hI
      have HP := Lib.hid hP
      have HNX := Lib.hid hnx
      have nx_Xs_XL : w.heap.size ≠ w1.heap.size := by have := hZ; omega
      have nx_XL_Xs := Ne.symm nx_Xs_XL
      have zXL : w.heap.size ≤ w1.heap.size := hBL
      have f0 : decide (x0 < 0) = false := decide_eq_false (by omega)
      have f1 : decide (x1 < 0) = false := decide_eq_false (by omega)
      have g0 : (x0 != 0) = false := by simp; omega
      have g1 : (x1 != 0) = false := by simp; omega
      have k1 : (k : Int) < (N : Int) := by omega
      have k2 : (0 : Int) ≤ (k : Int) := by omega
      clear hI hP hnx p2 p3 p4 p5
      rcases hord with hord | ⟨rfl, hord⟩
      · have o1 : decide (x0 < a0) = false := decide_eq_false (by omega)
        have o2 : (x0 == a0) = false := by simp; omega
        clear hord
        have dXs : ∀ i, wr.cell? ⟨w.heap.size, i, none⟩ = _ := Bx.cell Xs
        have eXs : ∀ i, wr.frozen? ⟨w.heap.size, i, none⟩ = false := Bx.frozen Xs
        have qXs := Bx.lt Xs
        have dXL : ∀ i, wr.cell? ⟨w1.heap.size, i, none⟩ = _ := Bx.cell XL
        have eXL : ∀ i, wr.frozen? ⟨w1.heap.size, i, none⟩ = false := Bx.frozen XL
        have qXL := Bx.lt XL
        go_wp2_with fail
        refine (index_any 0 s0 s1 (k : Int) x0 x1 0 _ HI.out).mono ?_
        rintro e w3 ⟨rfl, hst⟩
        clear dXs eXs qXs dXL eXL qXL
        replace Xs := Bx.step Xs hst
        replace XL := Bx.step XL hst
        replace b : Below w.heap.size w w3 := bst b hst
        clear hst
        have dXs : ∀ i, w3.cell? ⟨w.heap.size, i, none⟩ = _ := Bx.cell Xs
        have eXs : ∀ i, w3.frozen? ⟨w.heap.size, i, none⟩ = false := Bx.frozen Xs
        have qXs := Bx.lt Xs
        have dXL : ∀ i, w3.cell? ⟨w1.heap.size, i, none⟩ = _ := Bx.cell XL
        have eXL : ∀ i, w3.frozen? ⟨w1.heap.size, i, none⟩ = false := Bx.frozen XL
        have qXL := Bx.lt XL
        go_wp2_with fail
        refine (place_any 0 s0 s1 x0 x1 (k : Int) 0 _ HP.out).mono ?_
        rintro e w4 ⟨rfl, hst⟩
        clear dXs eXs qXs dXL eXL qXL
        obtain ⟨XX, hst⟩ := after1 hst
        have nx_Xs_XX : w.heap.size ≠ w3.heap.size := by have := Bx.lt Xs; omega
        have nx_XX_Xs := Ne.symm nx_Xs_XX
        have nx_XL_XX : w1.heap.size ≠ w3.heap.size := by have := Bx.lt XL; omega
        have nx_XX_XL := Ne.symm nx_XL_XX
        have zXX : w.heap.size ≤ w3.heap.size := by have := b.size; omega
        replace Xs := Bx.step Xs hst
        replace XL := Bx.step XL hst
        replace b : Below w.heap.size w w4 := bst b hst
        clear hst
        have dXs : ∀ i, w4.cell? ⟨w.heap.size, i, none⟩ = _ := Bx.cell Xs
        have eXs : ∀ i, w4.frozen? ⟨w.heap.size, i, none⟩ = false := Bx.frozen Xs
        have qXs := Bx.lt Xs
        have dXL : ∀ i, w4.cell? ⟨w1.heap.size, i, none⟩ = _ := Bx.cell XL
        have eXL : ∀ i, w4.frozen? ⟨w1.heap.size, i, none⟩ = false := Bx.frozen XL
        have qXL := Bx.lt XL
        have dXX : ∀ i, w4.cell? ⟨w3.heap.size, i, none⟩ = _ := Bx.cell XX
        have eXX : ∀ i, w4.frozen? ⟨w3.heap.size, i, none⟩ = false := Bx.frozen XX
        have qXX := Bx.lt XX
        go_wp2
        refine wp_loop_rounds 3 ?_
        rw [rounds_succ]
        go_wp2
        go_quiet (fail)
        obtain ⟨w5, hw_⟩ : ∃ w5, w4.drewN nq = w5 := ⟨_, rfl⟩
        rw [hw_]
        have hst : Below w4.heap.size w4 w5 := by rw [← hw_]; exact bdn (Below.refl _ _) _
        clear hw_
        clear dXs eXs qXs dXL eXL qXL dXX eXX qXX
        replace Xs := Bx.step Xs hst
        replace XL := Bx.step XL hst
        replace XX := Bx.step XX hst
        replace b := bst b hst
        clear hst
        have dXs : ∀ i, w5.cell? ⟨w.heap.size, i, none⟩ = _ := Bx.cell Xs
        have eXs : ∀ i, w5.frozen? ⟨w.heap.size, i, none⟩ = false := Bx.frozen Xs
        have qXs := Bx.lt Xs
        have dXL : ∀ i, w5.cell? ⟨w1.heap.size, i, none⟩ = _ := Bx.cell XL
        have eXL : ∀ i, w5.frozen? ⟨w1.heap.size, i, none⟩ = false := Bx.frozen XL
        have qXL := Bx.lt XL
        have dXX : ∀ i, w5.cell? ⟨w3.heap.size, i, none⟩ = _ := Bx.cell XX
        have eXX : ∀ i, w5.frozen? ⟨w3.heap.size, i, none⟩ = false := Bx.frozen XX
        have qXX := Bx.lt XX
        go_wp2
        rw [rounds_succ]
        go_wp2
        go_quiet (fail)
        obtain ⟨w6, hw_⟩ : ∃ w6, w5.drewN nq = w6 := ⟨_, rfl⟩
        rw [hw_]
        have hst : Below w5.heap.size w5 w6 := by rw [← hw_]; exact bdn (Below.refl _ _) _
        clear hw_
        clear dXs eXs qXs dXL eXL qXL dXX eXX qXX
        replace Xs := Bx.step Xs hst
        replace XL := Bx.step XL hst
        replace XX := Bx.step XX hst
        replace b := bst b hst
        clear hst
        have dXs : ∀ i, w6.cell? ⟨w.heap.size, i, none⟩ = _ := Bx.cell Xs
        have eXs : ∀ i, w6.frozen? ⟨w.heap.size, i, none⟩ = false := Bx.frozen Xs
        have qXs := Bx.lt Xs
        have dXL : ∀ i, w6.cell? ⟨w1.heap.size, i, none⟩ = _ := Bx.cell XL
        have eXL : ∀ i, w6.frozen? ⟨w1.heap.size, i, none⟩ = false := Bx.frozen XL
        have qXL := Bx.lt XL
        have dXX : ∀ i, w6.cell? ⟨w3.heap.size, i, none⟩ = _ := Bx.cell XX
        have eXX : ∀ i, w6.frozen? ⟨w3.heap.size, i, none⟩ = false := Bx.frozen XX
        have qXX := Bx.lt XX
        go_wp2
        rw [rounds_succ]
        go_wp2
        go_roundw
        case rel => exact ⟨k + 1, x0, x1, by omega, by go_num, below_set2 b zXL _ _, Lib.hid (Bx.past2 Xs _ _ nx_Xs_XL), Lib.hid (Bx.set2 XL _ _), HNX⟩
        case measure => simp only [intOf]; omega
      · have o1 : decide (x1 ≤ a1) = false := decide_eq_false (by omega)
        clear hord
        have dXs : ∀ i, wr.cell? ⟨w.heap.size, i, none⟩ = _ := Bx.cell Xs
        have eXs : ∀ i, wr.frozen? ⟨w.heap.size, i, none⟩ = false := Bx.frozen Xs
        have qXs := Bx.lt Xs
        have dXL : ∀ i, wr.cell? ⟨w1.heap.size, i, none⟩ = _ := Bx.cell XL
        have eXL : ∀ i, wr.frozen? ⟨w1.heap.size, i, none⟩ = false := Bx.frozen XL
        have qXL := Bx.lt XL
        go_wp2_with fail
        refine (index_any 0 s0 s1 (k : Int) a0 x1 0 _ HI.out).mono ?_
        rintro e w3 ⟨rfl, hst⟩
        clear dXs eXs qXs dXL eXL qXL
        replace Xs := Bx.step Xs hst
        replace XL := Bx.step XL hst
        replace b : Below w.heap.size w w3 := bst b hst
        clear hst
        have dXs : ∀ i, w3.cell? ⟨w.heap.size, i, none⟩ = _ := Bx.cell Xs
        have eXs : ∀ i, w3.frozen? ⟨w.heap.size, i, none⟩ = false := Bx.frozen Xs
        have qXs := Bx.lt Xs
        have dXL : ∀ i, w3.cell? ⟨w1.heap.size, i, none⟩ = _ := Bx.cell XL
        have eXL : ∀ i, w3.frozen? ⟨w1.heap.size, i, none⟩ = false := Bx.frozen XL
        have qXL := Bx.lt XL
        go_wp2_with fail
        refine (place_any 0 s0 s1 a0 x1 (k : Int) 0 _ HP.out).mono ?_
        rintro e w4 ⟨rfl, hst⟩
        clear dXs eXs qXs dXL eXL qXL
        obtain ⟨XX, hst⟩ := after1 hst
        have nx_Xs_XX : w.heap.size ≠ w3.heap.size := by have := Bx.lt Xs; omega
        have nx_XX_Xs := Ne.symm nx_Xs_XX
        have nx_XL_XX : w1.heap.size ≠ w3.heap.size := by have := Bx.lt XL; omega
        have nx_XX_XL := Ne.symm nx_XL_XX
        have zXX : w.heap.size ≤ w3.heap.size := by have := b.size; omega
        replace Xs := Bx.step Xs hst
        replace XL := Bx.step XL hst
        replace b : Below w.heap.size w w4 := bst b hst
        clear hst
        have dXs : ∀ i, w4.cell? ⟨w.heap.size, i, none⟩ = _ := Bx.cell Xs
        have eXs : ∀ i, w4.frozen? ⟨w.heap.size, i, none⟩ = false := Bx.frozen Xs
        have qXs := Bx.lt Xs
        have dXL : ∀ i, w4.cell? ⟨w1.heap.size, i, none⟩ = _ := Bx.cell XL
        have eXL : ∀ i, w4.frozen? ⟨w1.heap.size, i, none⟩ = false := Bx.frozen XL
        have qXL := Bx.lt XL
        have dXX : ∀ i, w4.cell? ⟨w3.heap.size, i, none⟩ = _ := Bx.cell XX
        have eXX : ∀ i, w4.frozen? ⟨w3.heap.size, i, none⟩ = false := Bx.frozen XX
        have qXX := Bx.lt XX
        go_wp2
        refine wp_loop_rounds 3 ?_
        rw [rounds_succ]
        go_wp2
        go_quiet (fail)
        obtain ⟨w5, hw_⟩ : ∃ w5, w4.drewN nq = w5 := ⟨_, rfl⟩
        rw [hw_]
        have hst : Below w4.heap.size w4 w5 := by rw [← hw_]; exact bdn (Below.refl _ _) _
        clear hw_
        clear dXs eXs qXs dXL eXL qXL dXX eXX qXX
        replace Xs := Bx.step Xs hst
        replace XL := Bx.step XL hst
        replace XX := Bx.step XX hst
        replace b := bst b hst
        clear hst
        have dXs : ∀ i, w5.cell? ⟨w.heap.size, i, none⟩ = _ := Bx.cell Xs
        have eXs : ∀ i, w5.frozen? ⟨w.heap.size, i, none⟩ = false := Bx.frozen Xs
        have qXs := Bx.lt Xs
        have dXL : ∀ i, w5.cell? ⟨w1.heap.size, i, none⟩ = _ := Bx.cell XL
        have eXL : ∀ i, w5.frozen? ⟨w1.heap.size, i, none⟩ = false := Bx.frozen XL
        have qXL := Bx.lt XL
        have dXX : ∀ i, w5.cell? ⟨w3.heap.size, i, none⟩ = _ := Bx.cell XX
        have eXX : ∀ i, w5.frozen? ⟨w3.heap.size, i, none⟩ = false := Bx.frozen XX
        have qXX := Bx.lt XX
        go_wp2
        rw [rounds_succ]
        go_wp2
        go_quiet (fail)
        obtain ⟨w6, hw_⟩ : ∃ w6, w5.drewN nq = w6 := ⟨_, rfl⟩
        rw [hw_]
        have hst : Below w5.heap.size w5 w6 := by rw [← hw_]; exact bdn (Below.refl _ _) _
        clear hw_
        clear dXs eXs qXs dXL eXL qXL dXX eXX qXX
        replace Xs := Bx.step Xs hst
        replace XL := Bx.step XL hst
        replace XX := Bx.step XX hst
        replace b := bst b hst
        clear hst
        have dXs : ∀ i, w6.cell? ⟨w.heap.size, i, none⟩ = _ := Bx.cell Xs
        have eXs : ∀ i, w6.frozen? ⟨w.heap.size, i, none⟩ = false := Bx.frozen Xs
        have qXs := Bx.lt Xs
        have dXL : ∀ i, w6.cell? ⟨w1.heap.size, i, none⟩ = _ := Bx.cell XL
        have eXL : ∀ i, w6.frozen? ⟨w1.heap.size, i, none⟩ = false := Bx.frozen XL
        have qXL := Bx.lt XL
        have dXX : ∀ i, w6.cell? ⟨w3.heap.size, i, none⟩ = _ := Bx.cell XX
        have eXX : ∀ i, w6.frozen? ⟨w3.heap.size, i, none⟩ = false := Bx.frozen XX
        have qXX := Bx.lt XX
        go_wp2
        rw [rounds_succ]
        go_wp2
        go_roundw
        case rel => exact ⟨k + 1, a0, x1, by omega, by go_num, below_set2 b zXL _ _, Lib.hid (Bx.past2 Xs _ _ nx_Xs_XL), Lib.hid (Bx.set2 XL _ _), HNX⟩
        case measure => simp only [intOf]; omega
    · obtain rfl : N = k := by omega
      have dXs : ∀ i, wr.cell? ⟨w.heap.size, i, none⟩ = _ := Bx.cell Xs
      have eXs : ∀ i, wr.frozen? ⟨w.heap.size, i, none⟩ = false := Bx.frozen Xs
      have qXs := Bx.lt Xs
      have dXL : ∀ i, wr.cell? ⟨w1.heap.size, i, none⟩ = _ := Bx.cell XL
      have eXL : ∀ i, wr.frozen? ⟨w1.heap.size, i, none⟩ = false := Bx.frozen XL
      have qXL := Bx.lt XL
      go_wp2_with fail
      refine (index_any 0 s0 s1 (N : Int) 0 0 4 _ HE.out).mono ?_
      rintro e w3 ⟨rfl, hst⟩
      clear dXs eXs qXs dXL eXL qXL
      replace Xs := Bx.step Xs hst
      replace XL := Bx.step XL hst
      replace b : Below w.heap.size w w3 := bst b hst
      clear hst
      have dXs : ∀ i, w3.cell? ⟨w.heap.size, i, none⟩ = _ := Bx.cell Xs
      have eXs : ∀ i, w3.frozen? ⟨w.heap.size, i, none⟩ = false := Bx.frozen Xs
      have qXs := Bx.lt Xs
      have dXL : ∀ i, w3.cell? ⟨w1.heap.size, i, none⟩ = _ := Bx.cell XL
      have eXL : ∀ i, w3.frozen? ⟨w1.heap.size, i, none⟩ = false := Bx.frozen XL
      have qXL := Bx.lt XL
      go_wp2_with fail
      refine (index_any 0 s0 s1 (-1) 0 0 4 _ HF.out).mono ?_
      rintro e w4 ⟨rfl, hst⟩
      clear dXs eXs qXs dXL eXL qXL
      obtain ⟨Y0, hst⟩ := after1 hst
      replace Xs := Bx.step Xs hst
      replace XL := Bx.step XL hst
      replace b : Below w.heap.size w w4 := bst b hst
      clear hst
      have dXs : ∀ i, w4.cell? ⟨w.heap.size, i, none⟩ = _ := Bx.cell Xs
      have eXs : ∀ i, w4.frozen? ⟨w.heap.size, i, none⟩ = false := Bx.frozen Xs
      have qXs := Bx.lt Xs
      have dXL : ∀ i, w4.cell? ⟨w1.heap.size, i, none⟩ = _ := Bx.cell XL
      have eXL : ∀ i, w4.frozen? ⟨w1.heap.size, i, none⟩ = false := Bx.frozen XL
      have qXL := Bx.lt XL
      have dY0 : ∀ i, w4.cell? ⟨w3.heap.size, i, none⟩ = _ := Bx.cell Y0
      have eY0 : ∀ i, w4.frozen? ⟨w3.heap.size, i, none⟩ = false := Bx.frozen Y0
      have qY0 := Bx.lt Y0
      go_wp2_with fail
      refine (awake5 _).mono ?_
      rintro e wz ⟨rfl, hbz⟩
      go_wp2
      go_ret
      exact ⟨rfl, bst (bal b _) hbz⟩
set_option maxRecDepth 100000 in
set_option maxHeartbeats 16000000 in
theorem ord_1 (s0 s1 : Int) (N : Nat) (w : World) (hC : shp 1 s0 s1 = 0) (hN : prodI 1 s0 s1 = N) (hN4 : N ≤ 400) :
    Calls Tryd.prog 6 #[.agg #[.int .i64 1, .int .i64 s0, .int .i64 s1]] w fun e w' => e = .returned (.bool true) ∧ Below w.heap.size w w' := by

  have HC := Lib.hid hC
  have HN := Lib.hid hN
  have HE := Lib.hid (ord_end (p := (N : Int)) hC (.inr (by omega)))
  have HF := Lib.hid (ord_end (p := -1) hC (.inl (by decide)))
  clear hC hN
  go_enter Tryd.func6, Tryd.ntmps6
  go_wp2_with fail
  refine (cells_ok 1 s0 s1 _ HC.out).mono ?_
  rintro e w1 ⟨rfl, hst⟩
  obtain ⟨Xs, hst⟩ := after1 hst
  have b : Below w.heap.size w w1 := hst
  clear hst
  rw [HN.out]
  have dXs : ∀ i, w1.cell? ⟨w.heap.size, i, none⟩ = _ := Bx.cell Xs
  have eXs : ∀ i, w1.frozen? ⟨w.heap.size, i, none⟩ = false := Bx.frozen Xs
  have qXs := Bx.lt Xs
  go_wp2
  have hw1_ := b.size
  have hZ := Bx.lt Xs
  have XL := Bx.new w1 #[.int .i64 (-1), .int .i64 (-1)] 22
  have hst := below1 w1 (.cells #[.int .i64 (-1), .int .i64 (-1)] 22)
  obtain ⟨w2, hw_⟩ : ∃ w2, w1.alloc (.cells #[.int .i64 (-1), .int .i64 (-1)] 22) = w2 := ⟨_, rfl⟩
  rw [hw_] at XL hst
  rw [hw_]
  clear hw_
  clear dXs eXs qXs
  replace Xs := Bx.step Xs hst
  replace b := bst b hst
  clear hst
  have hBL : w.heap.size ≤ w1.heap.size := hw1_
  go_loopw [6] (fun i wr => ∃ (k : Nat) (a0 a1 : Int), k ≤ N ∧ i = .int .i64 k ∧ Below w.heap.size w wr ∧ Hid (Bx wr w.heap.size #[.int .i64 1, .int .i64 s0, .int .i64 s1] 24) ∧ Hid (Bx wr w1.heap.size #[.int .i64 a0, .int .i64 a1] 22) ∧ Hid (OrdRel 1 s0 s1 k a0 a1)) (fun i _ => N - (intOf i).toNat)
  case atStart => exact ⟨0, -1, -1, Nat.zero_le _, rfl, b, Lib.hid Xs, Lib.hid XL, Lib.hid (.inl ⟨rfl, rfl, rfl⟩)⟩
  case round =>
    obtain ⟨k, a0, a1, hk, rfl, hbr, HX, HL, HR⟩ := hrel
    clear Xs XL b 
    have Xs := HX.out
    have XL := HL.out
    have b := hbr
    clear HX HL hbr
    by_cases hlt : k < N
    · obtain ⟨x0, x1, hI, hP, p0, p1, p2, p3, p4, p5, hord, hnx⟩ := ord_step HC.out (by rw [HN.out]; omega) HR.out
      have HI := Lib.hid hI
      have HP := Lib.hid hP
      have HNX := Lib.hid hnx
      have nx_Xs_XL : w.heap.size ≠ w1.heap.size := by have := hZ; omega
      have nx_XL_Xs := Ne.symm nx_Xs_XL
      have zXL : w.heap.size ≤ w1.heap.size := hBL
      have f0 : decide (x0 < 0) = false := decide_eq_false (by omega)
      have f1 : decide (x1 < 0) = false := decide_eq_false (by omega)
      have g0 : decide (s0 ≤ x0) = false := decide_eq_false (by omega)
      have g1 : (x1 != 0) = false := by simp; omega
      have k1 : (k : Int) < (N : Int) := by omega
      have k2 : (0 : Int) ≤ (k : Int) := by omega
      clear hI hP hnx p2 p3 p4 p5
      rcases hord with hord | ⟨rfl, hord⟩
      · have o1 : decide (x0 < a0) = false := decide_eq_false (by omega)
        have o2 : (x0 == a0) = false := by simp; omega
        clear hord
        have dXs : ∀ i, wr.cell? ⟨w.heap.size, i, none⟩ = _ := Bx.cell Xs
        have eXs : ∀ i, wr.frozen? ⟨w.heap.size, i, none⟩ = false := Bx.frozen Xs
        have qXs := Bx.lt Xs
        have dXL : ∀ i, wr.cell? ⟨w1.heap.size, i, none⟩ = _ := Bx.cell XL
        have eXL : ∀ i, wr.frozen? ⟨w1.heap.size, i, none⟩ = false := Bx.frozen XL
        have qXL := Bx.lt XL
        go_wp2_with fail
        refine (index_any 1 s0 s1 (k : Int) x0 x1 0 _ HI.out).mono ?_
        rintro e w3 ⟨rfl, hst⟩
        clear dXs eXs qXs dXL eXL qXL
        replace Xs := Bx.step Xs hst
        replace XL := Bx.step XL hst
        replace b : Below w.heap.size w w3 := bst b hst
        clear hst
        have dXs : ∀ i, w3.cell? ⟨w.heap.size, i, none⟩ = _ := Bx.cell Xs
        have eXs : ∀ i, w3.frozen? ⟨w.heap.size, i, none⟩ = false := Bx.frozen Xs
        have qXs := Bx.lt Xs
        have dXL : ∀ i, w3.cell? ⟨w1.heap.size, i, none⟩ = _ := Bx.cell XL
        have eXL : ∀ i, w3.frozen? ⟨w1.heap.size, i, none⟩ = false := Bx.frozen XL
        have qXL := Bx.lt XL
        go_wp2_with fail
        refine (place_any 1 s0 s1 x0 x1 (k : Int) 0 _ HP.out).mono ?_
        rintro e w4 ⟨rfl, hst⟩
        clear dXs eXs qXs dXL eXL qXL
        obtain ⟨XX, hst⟩ := after1 hst
        have nx_Xs_XX : w.heap.size ≠ w3.heap.size := by have := Bx.lt Xs; omega
        have nx_XX_Xs := Ne.symm nx_Xs_XX
        have nx_XL_XX : w1.heap.size ≠ w3.heap.size := by have := Bx.lt XL; omega
        have nx_XX_XL := Ne.symm nx_XL_XX
        have zXX : w.heap.size ≤ w3.heap.size := by have := b.size; omega
        replace Xs := Bx.step Xs hst
        replace XL := Bx.step XL hst
        replace b : Below w.heap.size w w4 := bst b hst
        clear hst
        have dXs : ∀ i, w4.cell? ⟨w.heap.size, i, none⟩ = _ := Bx.cell Xs
        have eXs : ∀ i, w4.frozen? ⟨w.heap.size, i, none⟩ = false := Bx.frozen Xs
        have qXs := Bx.lt Xs
        have dXL : ∀ i, w4.cell? ⟨w1.heap.size, i, none⟩ = _ := Bx.cell XL
        have eXL : ∀ i, w4.frozen? ⟨w1.heap.size, i, none⟩ = false := Bx.frozen XL
        have qXL := Bx.lt XL
        have dXX : ∀ i, w4.cell? ⟨w3.heap.size, i, none⟩ = _ := Bx.cell XX
        have eXX : ∀ i, w4.frozen? ⟨w3.heap.size, i, none⟩ = false := Bx.frozen XX
        have qXX := Bx.lt XX
        go_wp2
        refine wp_loop_rounds 3 ?_
        rw [rounds_succ]
        go_wp2
        go_quiet (fail)
        obtain ⟨w5, hw_⟩ : ∃ w5, w4.drewN nq = w5 := ⟨_, rfl⟩
        rw [hw_]
        have hst : Below w4.heap.size w4 w5 := by rw [← hw_]; exact bdn (Below.refl _ _) _
        clear hw_
        clear dXs eXs qXs dXL eXL qXL dXX eXX qXX
        replace Xs := Bx.step Xs hst
        replace XL := Bx.step XL hst
        replace XX := Bx.step XX hst
        replace b := bst b hst
        clear hst
        have dXs : ∀ i, w5.cell? ⟨w.heap.size, i, none⟩ = _ := Bx.cell Xs
        have eXs : ∀ i, w5.frozen? ⟨w.heap.size, i, none⟩ = false := Bx.frozen Xs
        have qXs := Bx.lt Xs
        have dXL : ∀ i, w5.cell? ⟨w1.heap.size, i, none⟩ = _ := Bx.cell XL
        have eXL : ∀ i, w5.frozen? ⟨w1.heap.size, i, none⟩ = false := Bx.frozen XL
        have qXL := Bx.lt XL
        have dXX : ∀ i, w5.cell? ⟨w3.heap.size, i, none⟩ = _ := Bx.cell XX
        have eXX : ∀ i, w5.frozen? ⟨w3.heap.size, i, none⟩ = false := Bx.frozen XX
        have qXX := Bx.lt XX
        go_wp2
        rw [rounds_succ]
        go_wp2
        go_quiet (fail)
        obtain ⟨w6, hw_⟩ : ∃ w6, w5.drewN nq = w6 := ⟨_, rfl⟩
        rw [hw_]
        have hst : Below w5.heap.size w5 w6 := by rw [← hw_]; exact bdn (Below.refl _ _) _
        clear hw_
        clear dXs eXs qXs dXL eXL qXL dXX eXX qXX
        replace Xs := Bx.step Xs hst
        replace XL := Bx.step XL hst
        replace XX := Bx.step XX hst
        replace b := bst b hst
        clear hst
        have dXs : ∀ i, w6.cell? ⟨w.heap.size, i, none⟩ = _ := Bx.cell Xs
        have eXs : ∀ i, w6.frozen? ⟨w.heap.size, i, none⟩ = false := Bx.frozen Xs
        have qXs := Bx.lt Xs
        have dXL : ∀ i, w6.cell? ⟨w1.heap.size, i, none⟩ = _ := Bx.cell XL
        have eXL : ∀ i, w6.frozen? ⟨w1.heap.size, i, none⟩ = false := Bx.frozen XL
        have qXL := Bx.lt XL
        have dXX : ∀ i, w6.cell? ⟨w3.heap.size, i, none⟩ = _ := Bx.cell XX
        have eXX : ∀ i, w6.frozen? ⟨w3.heap.size, i, none⟩ = false := Bx.frozen XX
        have qXX := Bx.lt XX
        go_wp2
        rw [rounds_succ]
        go_wp2
        go_roundw
        case rel => exact ⟨k + 1, x0, x1, by omega, by go_num, below_set2 b zXL _ _, Lib.hid (Bx.past2 Xs _ _ nx_Xs_XL), Lib.hid (Bx.set2 XL _ _), HNX⟩
        case measure => simp only [intOf]; omega
      · have o1 : decide (x1 ≤ a1) = false := decide_eq_false (by omega)
        clear hord
        have dXs : ∀ i, wr.cell? ⟨w.heap.size, i, none⟩ = _ := Bx.cell Xs
        have eXs : ∀ i, wr.frozen? ⟨w.heap.size, i, none⟩ = false := Bx.frozen Xs
        have qXs := Bx.lt Xs
        have dXL : ∀ i, wr.cell? ⟨w1.heap.size, i, none⟩ = _ := Bx.cell XL
        have eXL : ∀ i, wr.frozen? ⟨w1.heap.size, i, none⟩ = false := Bx.frozen XL
        have qXL := Bx.lt XL
        go_wp2_with fail
        refine (index_any 1 s0 s1 (k : Int) a0 x1 0 _ HI.out).mono ?_
        rintro e w3 ⟨rfl, hst⟩
        clear dXs eXs qXs dXL eXL qXL
        replace Xs := Bx.step Xs hst
        replace XL := Bx.step XL hst
        replace b : Below w.heap.size w w3 := bst b hst
        clear hst
        have dXs : ∀ i, w3.cell? ⟨w.heap.size, i, none⟩ = _ := Bx.cell Xs
        have eXs : ∀ i, w3.frozen? ⟨w.heap.size, i, none⟩ = false := Bx.frozen Xs
        have qXs := Bx.lt Xs
        have dXL : ∀ i, w3.cell? ⟨w1.heap.size, i, none⟩ = _ := Bx.cell XL
        have eXL : ∀ i, w3.frozen? ⟨w1.heap.size, i, none⟩ = false := Bx.frozen XL
        have qXL := Bx.lt XL
        go_wp2_with fail
        refine (place_any 1 s0 s1 a0 x1 (k : Int) 0 _ HP.out).mono ?_
        rintro e w4 ⟨rfl, hst⟩
        clear dXs eXs qXs dXL eXL qXL
        obtain ⟨XX, hst⟩ := after1 hst
        have nx_Xs_XX : w.heap.size ≠ w3.heap.size := by have := Bx.lt Xs; omega
        have nx_XX_Xs := Ne.symm nx_Xs_XX
        have nx_XL_XX : w1.heap.size ≠ w3.heap.size := by have := Bx.lt XL; omega
        have nx_XX_XL := Ne.symm nx_XL_XX
        have zXX : w.heap.size ≤ w3.heap.size := by have := b.size; omega
        replace Xs := Bx.step Xs hst
        replace XL := Bx.step XL hst
        replace b : Below w.heap.size w w4 := bst b hst
        clear hst
        have dXs : ∀ i, w4.cell? ⟨w.heap.size, i, none⟩ = _ := Bx.cell Xs
        have eXs : ∀ i, w4.frozen? ⟨w.heap.size, i, none⟩ = false := Bx.frozen Xs
        have qXs := Bx.lt Xs
        have dXL : ∀ i, w4.cell? ⟨w1.heap.size, i, none⟩ = _ := Bx.cell XL
        have eXL : ∀ i, w4.frozen? ⟨w1.heap.size, i, none⟩ = false := Bx.frozen XL
        have qXL := Bx.lt XL
        have dXX : ∀ i, w4.cell? ⟨w3.heap.size, i, none⟩ = _ := Bx.cell XX
        have eXX : ∀ i, w4.frozen? ⟨w3.heap.size, i, none⟩ = false := Bx.frozen XX
        have qXX := Bx.lt XX
        go_wp2
        refine wp_loop_rounds 3 ?_
        rw [rounds_succ]
        go_wp2
        go_quiet (fail)
        obtain ⟨w5, hw_⟩ : ∃ w5, w4.drewN nq = w5 := ⟨_, rfl⟩
        rw [hw_]
        have hst : Below w4.heap.size w4 w5 := by rw [← hw_]; exact bdn (Below.refl _ _) _
        clear hw_
        clear dXs eXs qXs dXL eXL qXL dXX eXX qXX
        replace Xs := Bx.step Xs hst
        replace XL := Bx.step XL hst
        replace XX := Bx.step XX hst
        replace b := bst b hst
        clear hst
        have dXs : ∀ i, w5.cell? ⟨w.heap.size, i, none⟩ = _ := Bx.cell Xs
        have eXs : ∀ i, w5.frozen? ⟨w.heap.size, i, none⟩ = false := Bx.frozen Xs
        have qXs := Bx.lt Xs
        have dXL : ∀ i, w5.cell? ⟨w1.heap.size, i, none⟩ = _ := Bx.cell XL
        have eXL : ∀ i, w5.frozen? ⟨w1.heap.size, i, none⟩ = false := Bx.frozen XL
        have qXL := Bx.lt XL
        have dXX : ∀ i, w5.cell? ⟨w3.heap.size, i, none⟩ = _ := Bx.cell XX
        have eXX : ∀ i, w5.frozen? ⟨w3.heap.size, i, none⟩ = false := Bx.frozen XX
        have qXX := Bx.lt XX
        go_wp2
        rw [rounds_succ]
        go_wp2
        go_quiet (fail)
        obtain ⟨w6, hw_⟩ : ∃ w6, w5.drewN nq = w6 := ⟨_, rfl⟩
        rw [hw_]
        have hst : Below w5.heap.size w5 w6 := by rw [← hw_]; exact bdn (Below.refl _ _) _
        clear hw_
        clear dXs eXs qXs dXL eXL qXL dXX eXX qXX
        replace Xs := Bx.step Xs hst
        replace XL := Bx.step XL hst
        replace XX := Bx.step XX hst
        replace b := bst b hst
        clear hst
        have dXs : ∀ i, w6.cell? ⟨w.heap.size, i, none⟩ = _ := Bx.cell Xs
        have eXs : ∀ i, w6.frozen? ⟨w.heap.size, i, none⟩ = false := Bx.frozen Xs
        have qXs := Bx.lt Xs
        have dXL : ∀ i, w6.cell? ⟨w1.heap.size, i, none⟩ = _ := Bx.cell XL
        have eXL : ∀ i, w6.frozen? ⟨w1.heap.size, i, none⟩ = false := Bx.frozen XL
        have qXL := Bx.lt XL
        have dXX : ∀ i, w6.cell? ⟨w3.heap.size, i, none⟩ = _ := Bx.cell XX
        have eXX : ∀ i, w6.frozen? ⟨w3.heap.size, i, none⟩ = false := Bx.frozen XX
        have qXX := Bx.lt XX
        go_wp2
        rw [rounds_succ]
        go_wp2
        go_roundw
        case rel => exact ⟨k + 1, a0, x1, by omega, by go_num, below_set2 b zXL _ _, Lib.hid (Bx.past2 Xs _ _ nx_Xs_XL), Lib.hid (Bx.set2 XL _ _), HNX⟩
        case measure => simp only [intOf]; omega
    · obtain rfl : N = k := by omega
      have dXs : ∀ i, wr.cell? ⟨w.heap.size, i, none⟩ = _ := Bx.cell Xs
      have eXs : ∀ i, wr.frozen? ⟨w.heap.size, i, none⟩ = false := Bx.frozen Xs
      have qXs := Bx.lt Xs
      have dXL : ∀ i, wr.cell? ⟨w1.heap.size, i, none⟩ = _ := Bx.cell XL
      have eXL : ∀ i, wr.frozen? ⟨w1.heap.size, i, none⟩ = false := Bx.frozen XL
      have qXL := Bx.lt XL
      go_wp2_with fail
      refine (index_any 1 s0 s1 (N : Int) 0 0 4 _ HE.out).mono ?_
      rintro e w3 ⟨rfl, hst⟩
      clear dXs eXs qXs dXL eXL qXL
      replace Xs := Bx.step Xs hst
      replace XL := Bx.step XL hst
      replace b : Below w.heap.size w w3 := bst b hst
      clear hst
      have dXs : ∀ i, w3.cell? ⟨w.heap.size, i, none⟩ = _ := Bx.cell Xs
      have eXs : ∀ i, w3.frozen? ⟨w.heap.size, i, none⟩ = false := Bx.frozen Xs
      have qXs := Bx.lt Xs
      have dXL : ∀ i, w3.cell? ⟨w1.heap.size, i, none⟩ = _ := Bx.cell XL
      have eXL : ∀ i, w3.frozen? ⟨w1.heap.size, i, none⟩ = false := Bx.frozen XL
      have qXL := Bx.lt XL
      go_wp2_with fail
      refine (index_any 1 s0 s1 (-1) 0 0 4 _ HF.out).mono ?_
      rintro e w4 ⟨rfl, hst⟩
      clear dXs eXs qXs dXL eXL qXL
      obtain ⟨Y0, hst⟩ := after1 hst
      replace Xs := Bx.step Xs hst
      replace XL := Bx.step XL hst
      replace b : Below w.heap.size w w4 := bst b hst
      clear hst
      have dXs : ∀ i, w4.cell? ⟨w.heap.size, i, none⟩ = _ := Bx.cell Xs
      have eXs : ∀ i, w4.frozen? ⟨w.heap.size, i, none⟩ = false := Bx.frozen Xs
      have qXs := Bx.lt Xs
      have dXL : ∀ i, w4.cell? ⟨w1.heap.size, i, none⟩ = _ := Bx.cell XL
      have eXL : ∀ i, w4.frozen? ⟨w1.heap.size, i, none⟩ = false := Bx.frozen XL
      have qXL := Bx.lt XL
      have dY0 : ∀ i, w4.cell? ⟨w3.heap.size, i, none⟩ = _ := Bx.cell Y0
      have eY0 : ∀ i, w4.frozen? ⟨w3.heap.size, i, none⟩ = false := Bx.frozen Y0
      have qY0 := Bx.lt Y0
      go_wp2_with fail
      refine (awake5 _).mono ?_
      rintro e wz ⟨rfl, hbz⟩
      go_wp2
      go_ret
      exact ⟨rfl, bst (bal b _) hbz⟩
set_option maxRecDepth 100000 in
set_option maxHeartbeats 16000000 in
theorem ord_2 (s0 s1 : Int) (N : Nat) (w : World) (hC : shp 2 s0 s1 = 0) (hN : prodI 2 s0 s1 = N) (hN4 : N ≤ 400) :
    Calls Tryd.prog 6 #[.agg #[.int .i64 2, .int .i64 s0, .int .i64 s1]] w fun e w' => e = .returned (.bool true) ∧ Below w.heap.size w w' := by

  have HC := Lib.hid hC
  have HN := Lib.hid hN
  have HE := Lib.hid (ord_end (p := (N : Int)) hC (.inr (by omega)))
  have HF := Lib.hid (ord_end (p := -1) hC (.inl (by decide)))
  clear hC hN
  go_enter Tryd.func6, Tryd.ntmps6
  go_wp2_with fail
  refine (cells_ok 2 s0 s1 _ HC.out).mono ?_
  rintro e w1 ⟨rfl, hst⟩
  obtain ⟨Xs, hst⟩ := after1 hst
  have b : Below w.heap.size w w1 := hst
  clear hst
  rw [HN.out]
  have dXs : ∀ i, w1.cell? ⟨w.heap.size, i, none⟩ = _ := Bx.cell Xs
  have eXs : ∀ i, w1.frozen? ⟨w.heap.size, i, none⟩ = false := Bx.frozen Xs
  have qXs := Bx.lt Xs
  go_wp2
  have hw1_ := b.size
  have hZ := Bx.lt Xs
  have XL := Bx.new w1 #[.int .i64 (-1), .int .i64 (-1)] 22
  have hst := below1 w1 (.cells #[.int .i64 (-1), .int .i64 (-1)] 22)
  obtain ⟨w2, hw_⟩ : ∃ w2, w1.alloc (.cells #[.int .i64 (-1), .int .i64 (-1)] 22) = w2 := ⟨_, rfl⟩
  rw [hw_] at XL hst
  rw [hw_]
  clear hw_
  clear dXs eXs qXs
  replace Xs := Bx.step Xs hst
  replace b := bst b hst
  clear hst
  have hBL : w.heap.size ≤ w1.heap.size := hw1_
  go_loopw [6] (fun i wr => ∃ (k : Nat) (a0 a1 : Int), k ≤ N ∧ i = .int .i64 k ∧ Below w.heap.size w wr ∧ Hid (Bx wr w.heap.size #[.int .i64 2, .int .i64 s0, .int .i64 s1] 24) ∧ Hid (Bx wr w1.heap.size #[.int .i64 a0, .int .i64 a1] 22) ∧ Hid (OrdRel 2 s0 s1 k a0 a1)) (fun i _ => N - (intOf i).toNat)
  case atStart => exact ⟨0, -1, -1, Nat.zero_le _, rfl, b, Lib.hid Xs, Lib.hid XL, Lib.hid (.inl ⟨rfl, rfl, rfl⟩)⟩
  case round =>
    obtain ⟨k, a0, a1, hk, rfl, hbr, HX, HL, HR⟩ := hrel
    clear Xs XL b 
    have Xs := HX.out
    have XL := HL.out
    have b := hbr
    clear HX HL hbr
    by_cases hlt : k < N
    · obtain ⟨x0, x1, hI, hP, p0, p1, p2, p3, p4, p5, hord, hnx⟩ := ord_step HC.out (by rw [HN.out]; omega) HR.out
      have HI := Lib.hid hI
      have HP := Lib.hid hP
      have HNX := Lib.hid hnx
      have nx_Xs_XL : w.heap.size ≠ w1.heap.size := by have := hZ; omega
      have nx_XL_Xs := Ne.symm nx_Xs_XL
      have zXL : w.heap.size ≤ w1.heap.size := hBL
      have f0 : decide (x0 < 0) = false := decide_eq_false (by omega)
      have f1 : decide (x1 < 0) = false := decide_eq_false (by omega)
      have g0 : decide (s0 ≤ x0) = false := decide_eq_false (by omega)
      have g1 : decide (s1 ≤ x1) = false := decide_eq_false (by omega)
      have k1 : (k : Int) < (N : Int) := by omega
      have k2 : (0 : Int) ≤ (k : Int) := by omega
      clear hI hP hnx p2 p3 p4 p5
      rcases hord with hord | ⟨rfl, hord⟩
      · have o1 : decide (x0 < a0) = false := decide_eq_false (by omega)
        have o2 : (x0 == a0) = false := by simp; omega
        clear hord
        have dXs : ∀ i, wr.cell? ⟨w.heap.size, i, none⟩ = _ := Bx.cell Xs
        have eXs : ∀ i, wr.frozen? ⟨w.heap.size, i, none⟩ = false := Bx.frozen Xs
        have qXs := Bx.lt Xs
        have dXL : ∀ i, wr.cell? ⟨w1.heap.size, i, none⟩ = _ := Bx.cell XL
        have eXL : ∀ i, wr.frozen? ⟨w1.heap.size, i, none⟩ = false := Bx.frozen XL
        have qXL := Bx.lt XL
        go_wp2_with fail
        refine (index_any 2 s0 s1 (k : Int) x0 x1 0 _ HI.out).mono ?_
        rintro e w3 ⟨rfl, hst⟩
        clear dXs eXs qXs dXL eXL qXL
        replace Xs := Bx.step Xs hst
        replace XL := Bx.step XL hst
        replace b : Below w.heap.size w w3 := bst b hst
        clear hst
        have dXs : ∀ i, w3.cell? ⟨w.heap.size, i, none⟩ = _ := Bx.cell Xs
        have eXs : ∀ i, w3.frozen? ⟨w.heap.size, i, none⟩ = false := Bx.frozen Xs
        have qXs := Bx.lt Xs
        have dXL : ∀ i, w3.cell? ⟨w1.heap.size, i, none⟩ = _ := Bx.cell XL
        have eXL : ∀ i, w3.frozen? ⟨w1.heap.size, i, none⟩ = false := Bx.frozen XL
        have qXL := Bx.lt XL
        go_wp2_with fail
        refine (place_any 2 s0 s1 x0 x1 (k : Int) 0 _ HP.out).mono ?_
        rintro e w4 ⟨rfl, hst⟩
        clear dXs eXs qXs dXL eXL qXL
        obtain ⟨XX, hst⟩ := after1 hst
        have nx_Xs_XX : w.heap.size ≠ w3.heap.size := by have := Bx.lt Xs; omega
        have nx_XX_Xs := Ne.symm nx_Xs_XX
        have nx_XL_XX : w1.heap.size ≠ w3.heap.size := by have := Bx.lt XL; omega
        have nx_XX_XL := Ne.symm nx_XL_XX
        have zXX : w.heap.size ≤ w3.heap.size := by have := b.size; omega
        replace Xs := Bx.step Xs hst
        replace XL := Bx.step XL hst
        replace b : Below w.heap.size w w4 := bst b hst
        clear hst
        have dXs : ∀ i, w4.cell? ⟨w.heap.size, i, none⟩ = _ := Bx.cell Xs
        have eXs : ∀ i, w4.frozen? ⟨w.heap.size, i, none⟩ = false := Bx.frozen Xs
        have qXs := Bx.lt Xs
        have dXL : ∀ i, w4.cell? ⟨w1.heap.size, i, none⟩ = _ := Bx.cell XL
        have eXL : ∀ i, w4.frozen? ⟨w1.heap.size, i, none⟩ = false := Bx.frozen XL
        have qXL := Bx.lt XL
        have dXX : ∀ i, w4.cell? ⟨w3.heap.size, i, none⟩ = _ := Bx.cell XX
        have eXX : ∀ i, w4.frozen? ⟨w3.heap.size, i, none⟩ = false := Bx.frozen XX
        have qXX := Bx.lt XX
        go_wp2
        refine wp_loop_rounds 3 ?_
        rw [rounds_succ]
        go_wp2
        go_quiet (fail)
        obtain ⟨w5, hw_⟩ : ∃ w5, w4.drewN nq = w5 := ⟨_, rfl⟩
        rw [hw_]
        have hst : Below w4.heap.size w4 w5 := by rw [← hw_]; exact bdn (Below.refl _ _) _
        clear hw_
        clear dXs eXs qXs dXL eXL qXL dXX eXX qXX
        replace Xs := Bx.step Xs hst
        replace XL := Bx.step XL hst
        replace XX := Bx.step XX hst
        replace b := bst b hst
        clear hst
        have dXs : ∀ i, w5.cell? ⟨w.heap.size, i, none⟩ = _ := Bx.cell Xs
        have eXs : ∀ i, w5.frozen? ⟨w.heap.size, i, none⟩ = false := Bx.frozen Xs
        have qXs := Bx.lt Xs
        have dXL : ∀ i, w5.cell? ⟨w1.heap.size, i, none⟩ = _ := Bx.cell XL
        have eXL : ∀ i, w5.frozen? ⟨w1.heap.size, i, none⟩ = false := Bx.frozen XL
        have qXL := Bx.lt XL
        have dXX : ∀ i, w5.cell? ⟨w3.heap.size, i, none⟩ = _ := Bx.cell XX
        have eXX : ∀ i, w5.frozen? ⟨w3.heap.size, i, none⟩ = false := Bx.frozen XX
        have qXX := Bx.lt XX
        go_wp2
        rw [rounds_succ]
        go_wp2
        go_quiet (fail)
        obtain ⟨w6, hw_⟩ : ∃ w6, w5.drewN nq = w6 := ⟨_, rfl⟩
        rw [hw_]
        have hst : Below w5.heap.size w5 w6 := by rw [← hw_]; exact bdn (Below.refl _ _) _
        clear hw_
        clear dXs eXs qXs dXL eXL qXL dXX eXX qXX
        replace Xs := Bx.step Xs hst
        replace XL := Bx.step XL hst
        replace XX := Bx.step XX hst
        replace b := bst b hst
        clear hst
        have dXs : ∀ i, w6.cell? ⟨w.heap.size, i, none⟩ = _ := Bx.cell Xs
        have eXs : ∀ i, w6.frozen? ⟨w.heap.size, i, none⟩ = false := Bx.frozen Xs
        have qXs := Bx.lt Xs
        have dXL : ∀ i, w6.cell? ⟨w1.heap.size, i, none⟩ = _ := Bx.cell XL
        have eXL : ∀ i, w6.frozen? ⟨w1.heap.size, i, none⟩ = false := Bx.frozen XL
        have qXL := Bx.lt XL
        have dXX : ∀ i, w6.cell? ⟨w3.heap.size, i, none⟩ = _ := Bx.cell XX
        have eXX : ∀ i, w6.frozen? ⟨w3.heap.size, i, none⟩ = false := Bx.frozen XX
        have qXX := Bx.lt XX
        go_wp2
        rw [rounds_succ]
        go_wp2
        go_roundw
        case rel => exact ⟨k + 1, x0, x1, by omega, by go_num, below_set2 b zXL _ _, Lib.hid (Bx.past2 Xs _ _ nx_Xs_XL), Lib.hid (Bx.set2 XL _ _), HNX⟩
        case measure => simp only [intOf]; omega
      · have o1 : decide (x1 ≤ a1) = false := decide_eq_false (by omega)
        clear hord
        have dXs : ∀ i, wr.cell? ⟨w.heap.size, i, none⟩ = _ := Bx.cell Xs
        have eXs : ∀ i, wr.frozen? ⟨w.heap.size, i, none⟩ = false := Bx.frozen Xs
        have qXs := Bx.lt Xs
        have dXL : ∀ i, wr.cell? ⟨w1.heap.size, i, none⟩ = _ := Bx.cell XL
        have eXL : ∀ i, wr.frozen? ⟨w1.heap.size, i, none⟩ = false := Bx.frozen XL
        have qXL := Bx.lt XL
        go_wp2_with fail
        refine (index_any 2 s0 s1 (k : Int) a0 x1 0 _ HI.out).mono ?_
        rintro e w3 ⟨rfl, hst⟩
        clear dXs eXs qXs dXL eXL qXL
        replace Xs := Bx.step Xs hst
        replace XL := Bx.step XL hst
        replace b : Below w.heap.size w w3 := bst b hst
        clear hst
        have dXs : ∀ i, w3.cell? ⟨w.heap.size, i, none⟩ = _ := Bx.cell Xs
        have eXs : ∀ i, w3.frozen? ⟨w.heap.size, i, none⟩ = false := Bx.frozen Xs
        have qXs := Bx.lt Xs
        have dXL : ∀ i, w3.cell? ⟨w1.heap.size, i, none⟩ = _ := Bx.cell XL
        have eXL : ∀ i, w3.frozen? ⟨w1.heap.size, i, none⟩ = false := Bx.frozen XL
        have qXL := Bx.lt XL
        go_wp2_with fail
        refine (place_any 2 s0 s1 a0 x1 (k : Int) 0 _ HP.out).mono ?_
        rintro e w4 ⟨rfl, hst⟩
        clear dXs eXs qXs dXL eXL qXL
        obtain ⟨XX, hst⟩ := after1 hst
        have nx_Xs_XX : w.heap.size ≠ w3.heap.size := by have := Bx.lt Xs; omega
        have nx_XX_Xs := Ne.symm nx_Xs_XX
        have nx_XL_XX : w1.heap.size ≠ w3.heap.size := by have := Bx.lt XL; omega
        have nx_XX_XL := Ne.symm nx_XL_XX
        have zXX : w.heap.size ≤ w3.heap.size := by have := b.size; omega
        replace Xs := Bx.step Xs hst
        replace XL := Bx.step XL hst
        replace b : Below w.heap.size w w4 := bst b hst
        clear hst
        have dXs : ∀ i, w4.cell? ⟨w.heap.size, i, none⟩ = _ := Bx.cell Xs
        have eXs : ∀ i, w4.frozen? ⟨w.heap.size, i, none⟩ = false := Bx.frozen Xs
        have qXs := Bx.lt Xs
        have dXL : ∀ i, w4.cell? ⟨w1.heap.size, i, none⟩ = _ := Bx.cell XL
        have eXL : ∀ i, w4.frozen? ⟨w1.heap.size, i, none⟩ = false := Bx.frozen XL
        have qXL := Bx.lt XL
        have dXX : ∀ i, w4.cell? ⟨w3.heap.size, i, none⟩ = _ := Bx.cell XX
        have eXX : ∀ i, w4.frozen? ⟨w3.heap.size, i, none⟩ = false := Bx.frozen XX
        have qXX := Bx.lt XX
        go_wp2
        refine wp_loop_rounds 3 ?_
        rw [rounds_succ]
        go_wp2
        go_quiet (fail)
        obtain ⟨w5, hw_⟩ : ∃ w5, w4.drewN nq = w5 := ⟨_, rfl⟩
        rw [hw_]
        have hst : Below w4.heap.size w4 w5 := by rw [← hw_]; exact bdn (Below.refl _ _) _
        clear hw_
        clear dXs eXs qXs dXL eXL qXL dXX eXX qXX
        replace Xs := Bx.step Xs hst
        replace XL := Bx.step XL hst
        replace XX := Bx.step XX hst
        replace b := bst b hst
        clear hst
        have dXs : ∀ i, w5.cell? ⟨w.heap.size, i, none⟩ = _ := Bx.cell Xs
        have eXs : ∀ i, w5.frozen? ⟨w.heap.size, i, none⟩ = false := Bx.frozen Xs
        have qXs := Bx.lt Xs
        have dXL : ∀ i, w5.cell? ⟨w1.heap.size, i, none⟩ = _ := Bx.cell XL
        have eXL : ∀ i, w5.frozen? ⟨w1.heap.size, i, none⟩ = false := Bx.frozen XL
        have qXL := Bx.lt XL
        have dXX : ∀ i, w5.cell? ⟨w3.heap.size, i, none⟩ = _ := Bx.cell XX
        have eXX : ∀ i, w5.frozen? ⟨w3.heap.size, i, none⟩ = false := Bx.frozen XX
        have qXX := Bx.lt XX
        go_wp2
        rw [rounds_succ]
        go_wp2
        go_quiet (fail)
        obtain ⟨w6, hw_⟩ : ∃ w6, w5.drewN nq = w6 := ⟨_, rfl⟩
        rw [hw_]
        have hst : Below w5.heap.size w5 w6 := by rw [← hw_]; exact bdn (Below.refl _ _) _
        clear hw_
        clear dXs eXs qXs dXL eXL qXL dXX eXX qXX
        replace Xs := Bx.step Xs hst
        replace XL := Bx.step XL hst
        replace XX := Bx.step XX hst
        replace b := bst b hst
        clear hst
        have dXs : ∀ i, w6.cell? ⟨w.heap.size, i, none⟩ = _ := Bx.cell Xs
        have eXs : ∀ i, w6.frozen? ⟨w.heap.size, i, none⟩ = false := Bx.frozen Xs
        have qXs := Bx.lt Xs
        have dXL : ∀ i, w6.cell? ⟨w1.heap.size, i, none⟩ = _ := Bx.cell XL
        have eXL : ∀ i, w6.frozen? ⟨w1.heap.size, i, none⟩ = false := Bx.frozen XL
        have qXL := Bx.lt XL
        have dXX : ∀ i, w6.cell? ⟨w3.heap.size, i, none⟩ = _ := Bx.cell XX
        have eXX : ∀ i, w6.frozen? ⟨w3.heap.size, i, none⟩ = false := Bx.frozen XX
        have qXX := Bx.lt XX
        go_wp2
        rw [rounds_succ]
        go_wp2
        go_roundw
        case rel => exact ⟨k + 1, a0, x1, by omega, by go_num, below_set2 b zXL _ _, Lib.hid (Bx.past2 Xs _ _ nx_Xs_XL), Lib.hid (Bx.set2 XL _ _), HNX⟩
        case measure => simp only [intOf]; omega
    · obtain rfl : N = k := by omega
      have dXs : ∀ i, wr.cell? ⟨w.heap.size, i, none⟩ = _ := Bx.cell Xs
      have eXs : ∀ i, wr.frozen? ⟨w.heap.size, i, none⟩ = false := Bx.frozen Xs
      have qXs := Bx.lt Xs
      have dXL : ∀ i, wr.cell? ⟨w1.heap.size, i, none⟩ = _ := Bx.cell XL
      have eXL : ∀ i, wr.frozen? ⟨w1.heap.size, i, none⟩ = false := Bx.frozen XL
      have qXL := Bx.lt XL
      go_wp2_with fail
      refine (index_any 2 s0 s1 (N : Int) 0 0 4 _ HE.out).mono ?_
      rintro e w3 ⟨rfl, hst⟩
      clear dXs eXs qXs dXL eXL qXL
      replace Xs := Bx.step Xs hst
      replace XL := Bx.step XL hst
      replace b : Below w.heap.size w w3 := bst b hst
      clear hst
      have dXs : ∀ i, w3.cell? ⟨w.heap.size, i, none⟩ = _ := Bx.cell Xs
      have eXs : ∀ i, w3.frozen? ⟨w.heap.size, i, none⟩ = false := Bx.frozen Xs
      have qXs := Bx.lt Xs
      have dXL : ∀ i, w3.cell? ⟨w1.heap.size, i, none⟩ = _ := Bx.cell XL
      have eXL : ∀ i, w3.frozen? ⟨w1.heap.size, i, none⟩ = false := Bx.frozen XL
      have qXL := Bx.lt XL
      go_wp2_with fail
      refine (index_any 2 s0 s1 (-1) 0 0 4 _ HF.out).mono ?_
      rintro e w4 ⟨rfl, hst⟩
      clear dXs eXs qXs dXL eXL qXL
      obtain ⟨Y0, hst⟩ := after1 hst
      replace Xs := Bx.step Xs hst
      replace XL := Bx.step XL hst
      replace b : Below w.heap.size w w4 := bst b hst
      clear hst
      have dXs : ∀ i, w4.cell? ⟨w.heap.size, i, none⟩ = _ := Bx.cell Xs
      have eXs : ∀ i, w4.frozen? ⟨w.heap.size, i, none⟩ = false := Bx.frozen Xs
      have qXs := Bx.lt Xs
      have dXL : ∀ i, w4.cell? ⟨w1.heap.size, i, none⟩ = _ := Bx.cell XL
      have eXL : ∀ i, w4.frozen? ⟨w1.heap.size, i, none⟩ = false := Bx.frozen XL
      have qXL := Bx.lt XL
      have dY0 : ∀ i, w4.cell? ⟨w3.heap.size, i, none⟩ = _ := Bx.cell Y0
      have eY0 : ∀ i, w4.frozen? ⟨w3.heap.size, i, none⟩ = false := Bx.frozen Y0
      have qY0 := Bx.lt Y0
      go_wp2_with fail
      refine (awake5 _).mono ?_
      rintro e wz ⟨rfl, hbz⟩
      go_wp2
      go_ret
      exact ⟨rfl, bst (bal b _) hbz⟩
theorem lawOrder (rs s0 s1 : Int) (w : World) :
    Calls Tryd.prog 6 #[.agg #[.int .i64 rs, .int .i64 s0, .int .i64 s1]] w fun e w' => e = .returned (.bool true) ∧ Below w.heap.size w w' := by
  by_cases hC : shp rs s0 s1 = 0
  · obtain ⟨hb0, hb1⟩ := prodI_bounds hC
    obtain ⟨N, hN⟩ : ∃ N : Nat, prodI rs s0 s1 = N := ⟨(prodI rs s0 s1).toNat, by omega⟩
    have hr : rs = 0 ∨ rs = 1 ∨ rs = 2 := by rcases shp_ok hC with h | h | h <;> simp [h.1]
    rcases hr with rfl | rfl | rfl
    · exact ord_0 s0 s1 N w hC hN (by omega)
    · exact ord_1 s0 s1 N w hC hN (by omega)
    · exact ord_2 s0 s1 N w hC hN (by omega)
  · exact ord_bad rs s0 s1 _ w rfl hC
end Go.Proofs.YteegipfgbcnfkaaDoor

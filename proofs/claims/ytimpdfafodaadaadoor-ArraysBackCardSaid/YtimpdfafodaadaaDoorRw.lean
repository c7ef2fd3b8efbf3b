/-
  shapes.Rows and the reference's.
-/
import Derived.Test.YtimpdfafodaadaaDoorRet2
import Derived.RegionTactic
import Derived.ChangeAlike
namespace Go.Proofs.YtimpdfafodaadaaDoor
open Go.RowKit
attribute [local go_sem] Oper.semAt_some

set_option maxHeartbeats 1000000 in
theorem rows_any (r l0 l1 a b ec : Int) (w : World) (h : sRows r l0 l1 = (a, b, ec)) :
    Calls Tryd.prog 45 #[.int .i64 r, .agg #[.int .i64 l0, .int .i64 l1]] w fun e w' => e = .returned (.tuple #[.int .i64 a, .int .i64 b, .int .i64 ec]) ∧ Below w.heap.size w w' := by
  by_cases hs : shp r l0 l1 = 0
  · have HS := Lib.hid hs
    have hr : r = 0 ∨ r = 1 ∨ r = 2 := by rcases shp_ok hs with h | h | h <;> simp [h.1]
    rcases hr with rfl | rfl | rfl
    · obtain ⟨rfl, rfl, rfl⟩ : 1 = a ∧ 1 = b ∧ 0 = ec := by simpa [sRows, hs] using h
      clear hs h
      go_enter Tryd.func45, Tryd.ntmps45
      go_wp2_with fail
      refine (check_any 0 l0 l1 0 _ HS.out).mono ?_
      rintro e w1 ⟨rfl, hb1⟩
      obtain ⟨X0, b1⟩ := after1 hb1
      have q0 := Bx.lt X0
      clear hb1
      have c0 : ∀ i, w1.cell? ⟨w.heap.size, i, none⟩ = _ := Bx.cell X0
      have f0 : ∀ i, w1.frozen? ⟨w.heap.size, i, none⟩ = false := Bx.frozen X0
      go_wp2
      go_ret3
      exact ⟨rfl, b1⟩
    · obtain ⟨rfl, rfl, rfl⟩ : 1 = a ∧ l0 = b ∧ 0 = ec := by simpa [sRows, hs] using h
      clear hs h
      go_enter Tryd.func45, Tryd.ntmps45
      go_wp2_with fail
      refine (check_any 1 l0 l1 0 _ HS.out).mono ?_
      rintro e w1 ⟨rfl, hb1⟩
      obtain ⟨X0, b1⟩ := after1 hb1
      have q0 := Bx.lt X0
      clear hb1
      have c0 : ∀ i, w1.cell? ⟨w.heap.size, i, none⟩ = _ := Bx.cell X0
      have f0 : ∀ i, w1.frozen? ⟨w.heap.size, i, none⟩ = false := Bx.frozen X0
      go_wp2
      go_ret3
      exact ⟨rfl, b1⟩
    · obtain ⟨rfl, rfl, rfl⟩ : l0 = a ∧ l1 = b ∧ 0 = ec := by simpa [sRows, hs] using h
      clear hs h
      go_enter Tryd.func45, Tryd.ntmps45
      go_wp2_with fail
      refine (check_any 2 l0 l1 0 _ HS.out).mono ?_
      rintro e w1 ⟨rfl, hb1⟩
      obtain ⟨X0, b1⟩ := after1 hb1
      have q0 := Bx.lt X0
      clear hb1
      have c0 : ∀ i, w1.cell? ⟨w.heap.size, i, none⟩ = _ := Bx.cell X0
      have f0 : ∀ i, w1.frozen? ⟨w.heap.size, i, none⟩ = false := Bx.frozen X0
      go_wp2
      skip
      go_ret3
      exact ⟨rfl, bsc b1 (by simp) _⟩
  · obtain ⟨rfl, rfl, he⟩ := (show 0 = a ∧ 0 = b ∧ shp r l0 l1 = ec by simpa [sRows, hs] using h)
    have HE := Lib.hid he
    have hne : (ec != 0) = true := by rw [← he]; simpa using hs
    clear he hs h
    go_enter Tryd.func45, Tryd.ntmps45
    go_wp2_with fail
    refine (check_any r l0 l1 ec _ HE.out).mono ?_
    rintro e w1 ⟨rfl, hb1⟩
    obtain ⟨X0, b1⟩ := after1 hb1
    have q0 := Bx.lt X0
    clear hb1
    have c0 : ∀ i, w1.cell? ⟨w.heap.size, i, none⟩ = _ := Bx.cell X0
    have f0 : ∀ i, w1.frozen? ⟨w.heap.size, i, none⟩ = false := Bx.frozen X0
    go_wp2
    go_ret3
    exact ⟨rfl, b1⟩

set_option maxHeartbeats 1000000 in
theorem rrows_any (r l0 l1 a b ec : Int) (w : World) (h : sRows r l0 l1 = (a, b, ec)) :
    Calls Tryd.prog 47 #[.int .i64 r, .agg #[.int .i64 l0, .int .i64 l1]] w fun e w' => e = .returned (.tuple #[.int .i64 a, .int .i64 b, .int .i64 ec]) ∧ Below w.heap.size w w' := by
  by_cases hs : shp r l0 l1 = 0
  · have HS := Lib.hid hs
    have hr : r = 0 ∨ r = 1 ∨ r = 2 := by rcases shp_ok hs with h | h | h <;> simp [h.1]
    rcases hr with rfl | rfl | rfl
    · obtain ⟨rfl, rfl, rfl⟩ : 1 = a ∧ 1 = b ∧ 0 = ec := by simpa [sRows, hs] using h
      clear hs h
      go_enter Tryd.func47, Tryd.ntmps47
      go_wp2_with fail
      refine (rcheck_any 0 l0 l1 0 _ HS.out).mono ?_
      rintro e w1 ⟨rfl, hb1⟩
      obtain ⟨X0, b1⟩ := after1 hb1
      have q0 := Bx.lt X0
      clear hb1
      have c0 : ∀ i, w1.cell? ⟨w.heap.size, i, none⟩ = _ := Bx.cell X0
      have f0 : ∀ i, w1.frozen? ⟨w.heap.size, i, none⟩ = false := Bx.frozen X0
      go_wp2
      go_ret3
      exact ⟨rfl, b1⟩
    · obtain ⟨rfl, rfl, rfl⟩ : 1 = a ∧ l0 = b ∧ 0 = ec := by simpa [sRows, hs] using h
      clear hs h
      go_enter Tryd.func47, Tryd.ntmps47
      go_wp2_with fail
      refine (rcheck_any 1 l0 l1 0 _ HS.out).mono ?_
      rintro e w1 ⟨rfl, hb1⟩
      obtain ⟨X0, b1⟩ := after1 hb1
      have q0 := Bx.lt X0
      clear hb1
      have c0 : ∀ i, w1.cell? ⟨w.heap.size, i, none⟩ = _ := Bx.cell X0
      have f0 : ∀ i, w1.frozen? ⟨w.heap.size, i, none⟩ = false := Bx.frozen X0
      go_wp2
      go_quiet (fail)
      go_wp2
      go_ret3
      exact ⟨rfl, bdn b1 _⟩
    · obtain ⟨rfl, rfl, rfl⟩ : l0 = a ∧ l1 = b ∧ 0 = ec := by simpa [sRows, hs] using h
      clear hs h
      go_enter Tryd.func47, Tryd.ntmps47
      go_wp2_with fail
      refine (rcheck_any 2 l0 l1 0 _ HS.out).mono ?_
      rintro e w1 ⟨rfl, hb1⟩
      obtain ⟨X0, b1⟩ := after1 hb1
      have q0 := Bx.lt X0
      clear hb1
      have c0 : ∀ i, w1.cell? ⟨w.heap.size, i, none⟩ = _ := Bx.cell X0
      have f0 : ∀ i, w1.frozen? ⟨w.heap.size, i, none⟩ = false := Bx.frozen X0
      go_wp2
      skip
      go_quiet (fail)
      go_wp2
      go_ret3
      exact ⟨rfl, bdn b1 _⟩
  · obtain ⟨rfl, rfl, he⟩ := (show 0 = a ∧ 0 = b ∧ shp r l0 l1 = ec by simpa [sRows, hs] using h)
    have HE := Lib.hid he
    have hne : (ec != 0) = true := by rw [← he]; simpa using hs
    clear he hs h
    go_enter Tryd.func47, Tryd.ntmps47
    go_wp2_with fail
    refine (rcheck_any r l0 l1 ec _ HE.out).mono ?_
    rintro e w1 ⟨rfl, hb1⟩
    obtain ⟨X0, b1⟩ := after1 hb1
    have q0 := Bx.lt X0
    clear hb1
    have c0 : ∀ i, w1.cell? ⟨w.heap.size, i, none⟩ = _ := Bx.cell X0
    have f0 : ∀ i, w1.frozen? ⟨w.heap.size, i, none⟩ = false := Bx.frozen X0
    go_wp2
    go_ret3
    exact ⟨rfl, b1⟩

end Go.Proofs.YtimpdfafodaadaaDoor

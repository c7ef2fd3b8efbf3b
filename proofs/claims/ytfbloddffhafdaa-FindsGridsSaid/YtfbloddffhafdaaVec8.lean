/-
  The law's vector.
-/
import Derived.Test.YtfbloddffhafdaaAwf
namespace Go.Proofs.Ytfbloddffhafdaa
open Go.RowKit

/-- Whether an array is a right vector. -/
def isV (k r l0 l1 : Int) (xs : List Int) : Bool := decide (achk k r l0 l1 xs = 0 ∧ r = 1)
set_option maxHeartbeats 1000000 in
theorem vec8_any (k r l0 l1 : Int) (A : Option Addr) (n c : Nat) (xs : List Int) (V : Bool) (w : World) (hs : Sl w A n c xs) (h : isV k r l0 l1 xs = V) :
    Calls Try.prog 26 #[.agg #[.int .i64 k, .int .i64 r, .int .i64 l0, .int .i64 l1, .slice A n c]] w fun e w' => e = .returned (.bool V) ∧ Below w.heap.size w w' := by
  unfold isV at h
  obtain ⟨ec, hec⟩ : ∃ ec, achk k r l0 l1 xs = ec := ⟨_, rfl⟩
  rw [hec] at h
  have hl := hs.len
  have HS := Lib.hid hs
  have HE := Lib.hid hec
  clear hs
  by_cases hf : 405 < n
  · have hne : ec ≠ 0 := fun g => by
      subst g
      have := achk_len hec
      omega
    obtain rfl : V = false := by rw [← h]; exact decide_eq_false (fun g => hne g.1)
    clear h hec hl
    go_enter Try.func26, Try.ntmps26
    go_wp2_with fail
    refine (far_any _ _ _ _ _ _ _ _).mono ?_
    rintro e w1 ⟨rfl, hb1⟩
    obtain ⟨X0, b1⟩ := after1 hb1
    have d0 : ∀ i, w1.cell? ⟨w.heap.size, i, none⟩ = _ := Bx.cell X0
    clear hb1
    rw [decide_eq_true hf]
    clear hne
    go_wp2
    go_ret
    exact ⟨rfl, b1⟩
  · by_cases h0 : ec = 0
    · subst h0
      by_cases hr : r = 1
      · subst hr
        obtain rfl : V = true := by rw [← h]; exact decide_eq_true ⟨rfl, rfl⟩
        clear h hec hl
        go_enter Try.func26, Try.ntmps26
        go_wp2_with fail
        refine (far_any _ _ _ _ _ _ _ _).mono ?_
        rintro e w1 ⟨rfl, hb1⟩
        obtain ⟨X0, b1⟩ := after1 hb1
        have d0 : ∀ i, w1.cell? ⟨w.heap.size, i, none⟩ = _ := Bx.cell X0
        clear hb1
        rw [decide_eq_false hf]
        go_wp2_with fail
        refine (racheck_any _ _ _ _ _ _ _ xs _ _ (HS.out.step b1) HE.out).mono ?_
        rintro e w2 ⟨rfl, hb2⟩
        have b2 := bst b1 hb2
        have e0 : ∀ i, w2.cell? ⟨w.heap.size, i, none⟩ = _ := Bx.cell (Bx.step X0 hb2)
        clear d0 hb2
        go_wp2
        go_ret
        exact ⟨rfl, b2⟩
      · obtain rfl : V = false := by rw [← h]; exact decide_eq_false (fun g => hr g.2)
        have hrr : (r == 1) = false := by simpa using hr
        clear h hec hl hr
        go_enter Try.func26, Try.ntmps26
        go_wp2_with fail
        refine (far_any _ _ _ _ _ _ _ _).mono ?_
        rintro e w1 ⟨rfl, hb1⟩
        obtain ⟨X0, b1⟩ := after1 hb1
        have d0 : ∀ i, w1.cell? ⟨w.heap.size, i, none⟩ = _ := Bx.cell X0
        clear hb1
        rw [decide_eq_false hf]
        go_wp2_with fail
        refine (racheck_any _ _ _ _ _ _ _ xs _ _ (HS.out.step b1) HE.out).mono ?_
        rintro e w2 ⟨rfl, hb2⟩
        have b2 := bst b1 hb2
        have e0 : ∀ i, w2.cell? ⟨w.heap.size, i, none⟩ = _ := Bx.cell (Bx.step X0 hb2)
        clear d0 hb2
        go_wp2
        go_ret
        exact ⟨rfl, b2⟩
    · obtain rfl : V = false := by rw [← h]; exact decide_eq_false (fun g => h0 g.1)
      have h00 : (ec == 0) = false := by simpa using h0
      clear h hec hl h0
      go_enter Try.func26, Try.ntmps26
      go_wp2_with fail
      refine (far_any _ _ _ _ _ _ _ _).mono ?_
      rintro e w1 ⟨rfl, hb1⟩
      obtain ⟨X0, b1⟩ := after1 hb1
      have d0 : ∀ i, w1.cell? ⟨w.heap.size, i, none⟩ = _ := Bx.cell X0
      clear hb1
      rw [decide_eq_false hf]
      go_wp2_with fail
      refine (racheck_any _ _ _ _ _ _ _ xs _ _ (HS.out.step b1) HE.out).mono ?_
      rintro e w2 ⟨rfl, hb2⟩
      have b2 := bst b1 hb2
      have e0 : ∀ i, w2.cell? ⟨w.heap.size, i, none⟩ = _ := Bx.cell (Bx.step X0 hb2)
      clear d0 hb2
      go_wp2
      go_ret
      exact ⟨rfl, b2⟩
end Go.Proofs.Ytfbloddffhafdaa

/-
  The reference's lengths.
-/
import Derived.Test.YtoapgknkenlcgaaMgrid
namespace Go.Proofs.Ytoapgknkenlcgaa
open Go.RowKit

set_option maxHeartbeats 8000000 in
theorem lengths_any (A : Option Addr) (n c : Nat) (xs : List Int) (w : World) (hs : Sl w A n c xs) (hwf : ∀ x ∈ xs, -9223372036854775808 ≤ x ∧ x ≤ 9223372036854775807) :
    Calls Try.prog 46 #[.slice A n c] w fun e w' => e = .returned (.int .i64 (lensE xs)) ∧ Below w.heap.size w w' := by
  by_cases hl : xs.length = 2
  · obtain ⟨x, z, rfl⟩ : ∃ x z, xs = [x, z] := by
      match xs, hl with
      | [x, z], _ => exact ⟨x, z, rfl⟩
    obtain rfl : n = 2 := hs.len.symm
    obtain ⟨b, o, rfl, hbl, hcx⟩ := hs.at_ (k := 0) (by omega)
    have hcz := hs.cells 1 (by omega)
    have cx : w.cell? ⟨b, o, none⟩ = some (.int .i64 x) := hcx
    have cz : w.cell? ⟨b, o + 1, none⟩ = some (.int .i64 z) := hcz
    clear hs hwf hcx hcz hl
    by_cases hx : x < 0
    · have HE := Lib.hid (lensE_neg (x := x) (z := z) (.inl hx))
      go_enter Try.func46, Try.ntmps46
      go_wp2
      go_ret
      exact ⟨by rw [HE.out]; rfl, Below.refl _ _⟩
    · by_cases hz : z < 0
      · have HE := Lib.hid (lensE_neg (x := x) (z := z) (.inr hz))
        go_enter Try.func46, Try.ntmps46
        go_wp2
        go_ret
        exact ⟨by rw [HE.out]; rfl, Below.refl _ _⟩
      · by_cases hx4 : 400 < x
        · have HE := Lib.hid (lensE_big (x := x) (z := z) (by omega) (.inl hx4))
          go_enter Try.func46, Try.ntmps46
          go_wp2
          go_quiet (fail)
          go_wp2
          go_ret
          exact ⟨by rw [HE.out]; rfl, bdn (Below.refl _ _) _⟩
        · by_cases hz4 : 400 < z
          · have HE := Lib.hid (lensE_big (x := x) (z := z) (by omega) (.inr (.inl hz4)))
            go_enter Try.func46, Try.ntmps46
            go_wp2
            go_quiet (fail)
            go_wp2
            go_ret
            exact ⟨by rw [HE.out]; rfl, bdn (Below.refl _ _) _⟩
          · obtain ⟨N, hN⟩ : ∃ N : Nat, x * z = (N : Int) := ⟨(x * z).toNat, (Int.toNat_of_nonneg (Int.mul_nonneg (by omega) (by omega))).symm⟩
            have hN4 : (N : Int) ≤ 160000 := by
              rw [← hN]
              exact Int.le_trans (Int.mul_le_mul_of_nonneg_right (show x ≤ 400 by omega) (by omega)) (by omega)
            have e2 : IntKind.i64.wrap (x * z) = (N : Int) := by rw [hN]; exact IntWalk.i64_in _ (by omega)
            have e3 : IntKind.i64.wrap (N : Int) = (N : Int) := IntWalk.i64_in _ (by omega)
            by_cases hp : 400 < (N : Int)
            · have HE := Lib.hid (lensE_big (x := x) (z := z) (by omega) (.inr (.inr (by omega))))
              go_enter Try.func46, Try.ntmps46
              go_wp2
              go_quiet (fail)
              go_wp2
              go_ret
              exact ⟨by rw [HE.out]; rfl, bdn (Below.refl _ _) _⟩
            · have HE := Lib.hid (lensE_zero (x := x) (z := z) (by omega) (by omega))
              go_enter Try.func46, Try.ntmps46
              go_wp2
              go_quiet (fail)
              go_wp2
              go_ret
              exact ⟨by rw [HE.out]; rfl, bdn (Below.refl _ _) _⟩
  · have hn2 : ((n : Int) != 2) = true := by have := hs.len; simp; omega
    have HE := Lib.hid (lensE_len hl)
    clear hl hs hwf
    go_enter Try.func46, Try.ntmps46
    go_wp2
    go_ret
    exact ⟨by rw [HE.out]; rfl, Below.refl _ _⟩
end Go.Proofs.Ytoapgknkenlcgaa

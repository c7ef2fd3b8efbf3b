/-
  The beginning of a slice of integers. No program in sight.
-/
import Derived.Test.YteegipfgbcnfkaaDoorBase
namespace Go.Proofs.YteegipfgbcnfkaaDoor
open Go.RowKit
theorem Sl.upto {w : World} {A : Option Addr} {n c q : Nat} {xs : List Int} (h : Sl w A n c xs) (hq : q ≤ n) : Sl w A q c (xs.take q) := by
  obtain ⟨h1, h2, h3, h4⟩ := h
  refine ⟨by rw [List.length_take]; omega, by omega, h3, fun hn => ?_⟩
  obtain ⟨b, o, hA, hlt, hc⟩ := h4 (by omega)
  refine ⟨b, o, hA, hlt, fun j hj => ?_⟩
  rw [hc j (by omega)]
  congr 2
  simp [hj]
end Go.Proofs.YteegipfgbcnfkaaDoor

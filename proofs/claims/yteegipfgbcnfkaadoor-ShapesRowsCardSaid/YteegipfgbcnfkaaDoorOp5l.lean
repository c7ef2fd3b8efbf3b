/-
  An argument that is a list of ints, opened.
-/
import Derived.Test.YteegipfgbcnfkaaDoorOp5
namespace Go.Proofs.YteegipfgbcnfkaaDoor
open Go.ChangeShapes Go.WideShapes Go.ChangeAt Go.RowKit Go.Deep

section
variable {H : Type} {enc : TypeId × Value → H}
theorem open_list {W : World} {base : Nat} {r : Reach} {b0 : Nat} {v : Value} {d : DataW H} {ps : List MemPlace} (_hv : Value.okWide Tryd.prog W r b0 45 v) (h : DataW.Trod enc Tryd.prog W base (fun _ => true) true 45 v d ps) :
    ∃ (A : Option Addr) (n c : Nat) (xs : List Int), v = .slice A n c ∧ Sl W A n c xs := by
  obtain ⟨a, ln, cap, rfl⟩ := okWide_slice Tryd.underlying45 _hv
  obtain ⟨fuel, hf⟩ := h
  rcases open_ints Tryd.underlying45 Tryd.underlying3 cells_int hf with ⟨e4, _⟩ | ⟨a', len, cap', xs, e4, _, hlc, hmx, hxl, _, hc, hw⟩
  · simp only [Value.cells, List.cons.injEq, and_true] at e4
    exact ⟨none, 0, 0, [], e4, Sl.nil W⟩
  · simp only [Value.cells, List.cons.injEq, and_true] at e4
    rw [if_pos rfl] at hxl
    refine ⟨some a', len, cap', xs.take len, e4, ⟨by rw [List.length_take]; omega, hlc, hmx, fun hl => ?_⟩⟩
    have h0 := hc 0 (by omega)
    obtain ⟨b, o, sp⟩ := a'
    have hsp : sp = none := by
      cases sp with
      | none => rfl
      | some s =>
        simp [World.cell?, Addr.add] at h0
        split at h0 <;> simp at h0
    subst hsp
    have hb : b < W.heap.size := by
      rcases Nat.lt_or_ge b W.heap.size with h | h
      · exact h
      · simp [World.cell?, Addr.add, Array.getElem?_eq_none h] at h0
    refine ⟨b, o, rfl, hb, fun j hj => ?_⟩
    have hj2 := hc j (by omega)
    rw [Addr.add_lit] at hj2
    rw [hj2]
    simp [List.getD, hj]
end
end Go.Proofs.YteegipfgbcnfkaaDoor

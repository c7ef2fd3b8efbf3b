/-
  Arguments of sixteen bits, and lists of them, opened.
-/
import Derived.Test.YtfbloddffhafdaaOpen
import Derived.Test.YtfbloddffhafdaaFlk
namespace Go.Proofs.Ytfbloddffhafdaa
open Go.ChangeShapes Go.WideShapes Go.ChangeAt Go.RowKit Go.Deep

theorem cells_u16 : Try.prog.cellsOf 38 = 1 := by kernel_rfl
theorem wf_u16 {x : Int} (h : (Lit.int .u16 x).wf = true) : 0 ≤ x ∧ x < 65536 := by
  simp [Lit.wf] at h
  have h2 : IntKind.u16.min = 0 := by decide
  have h3 : IntKind.u16.max = 65535 := by decide
  omega
section
variable {H : Type} {enc : TypeId × Value → H}
theorem open_lu16 {W : World} {base : Nat} {r : Reach} {b0 : Nat} {v : Value} {d : DataW H} {ps : List MemPlace} (_hv : Value.okWide Try.prog W r b0 37 v) (h : DataW.Trod enc Try.prog W base (fun _ => true) true 37 v d ps) :
    ∃ (A : Option Addr) (n c : Nat) (xs : List Int), v = .slice A n c ∧ SlU W A n c xs := by
  obtain ⟨a, ln, cap, rfl⟩ := okWide_slice Try.underlying37 _hv
  obtain ⟨fuel, hf⟩ := h
  rcases open_ints Try.underlying37 Try.underlying38 cells_u16 hf with ⟨e4, _⟩ | ⟨a', len, cap', xs, e4, _, hlc, hmx, hxl, _, hc, hw⟩
  · simp only [Value.cells, List.cons.injEq, and_true] at e4
    refine ⟨none, 0, 0, [], e4, ⟨rfl, Nat.le_refl _, by decide, fun x hx => ?_, fun h => absurd h (Nat.lt_irrefl _)⟩⟩
    cases hx
  · simp only [Value.cells, List.cons.injEq, and_true] at e4
    rw [if_pos rfl] at hxl
    refine ⟨some a', len, cap', xs.take len, e4, ⟨by rw [List.length_take]; omega, hlc, hmx, fun x hx => wf_u16 (hw x (List.mem_of_mem_take hx)), fun hl => ?_⟩⟩
    have h0 := hc 0 (by omega)
    obtain ⟨b, o, sp⟩ := a'
    have hsp : sp = none := by
      cases sp with
      | none => rfl
      | some s =>
        simp [World.cell?, Addr.add] at h0
        split at h0 <;> simp at h0
    subst hsp
    have hb : b < W.heap.size := by
      rcases Nat.lt_or_ge b W.heap.size with h | h
      · exact h
      · simp [World.cell?, Addr.add, Array.getElem?_eq_none h] at h0
    refine ⟨b, o, rfl, hb, fun j hj => ?_⟩
    have hj2 := hc j (by omega)
    rw [Addr.add_lit] at hj2
    rw [hj2]
    simp [List.getD, hj]
end
end Go.Proofs.Ytfbloddffhafdaa

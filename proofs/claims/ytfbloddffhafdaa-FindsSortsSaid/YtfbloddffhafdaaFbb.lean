/-
  A block of truth values, known by a function; a row of them is made.
-/
import Derived.Test.YtfbloddffhafdaaFsha
namespace Go.Proofs.Ytfbloddffhafdaa
open Go.RowKit

theorem infoBool : ((Try.prog.info? 4).map fun i => (i.zero, i.size, i.bytes)) = some (some (.bool false), 1, 1) := by kernel_rfl
def Bb (w : World) (g n : Nat) (f : Nat → Bool) : Prop := ∃ cur, Bx w g cur 4 ∧ ∀ j, j < n → cur[j]? = some (.bool (f j))
theorem Bb.cell {w : World} {g n : Nat} {f : Nat → Bool} (h : Bb w g n f) {j : Nat} (hj : j < n) : w.cell? ⟨g, j, none⟩ = some (.bool (f j)) := by
  obtain ⟨cur, hb, hc⟩ := h
  rw [hb.cell, hc j hj]
theorem Bb.frozen {w : World} {g n : Nat} {f : Nat → Bool} (h : Bb w g n f) (j : Nat) : w.frozen? ⟨g, j, none⟩ = false := by
  obtain ⟨cur, hb, _⟩ := h
  exact hb.frozen j
theorem Bb.block {w w' : World} {g n : Nat} {f : Nat → Bool} (h : Bb w g n f) (hb : w'.heap[g]? = w.heap[g]?) : Bb w' g n f := by
  obtain ⟨cur, hx, hc⟩ := h
  exact ⟨cur, hb.trans hx, hc⟩
theorem Bb.congr {w : World} {g n : Nat} {f f' : Nat → Bool} (h : Bb w g n f) (hf : ∀ j, j < n → f j = f' j) : Bb w g n f' := by
  obtain ⟨cur, hx, hc⟩ := h
  exact ⟨cur, hx, fun j hj => by rw [hc j hj, hf j hj]⟩
theorem Bb.set {w : World} {g n : Nat} {f : Nat → Bool} (h : Bb w g n f) (i : Nat) (y : Bool) : Bb (w.setCell ⟨g, i, none⟩ (Value.bool y)) g n (fun j => if j = i then y else f j) := by
  obtain ⟨cur, hx, hc⟩ := h
  refine ⟨_, hx.set_ i _, fun j hj => ?_⟩
  have hj' := hc j hj
  have hlt : j < cur.size := (Array.getElem?_eq_some_iff.1 hj').1
  by_cases e : i = j
  · subst e
    simp [hlt]
  · have e2 : ¬ j = i := fun h => e h.symm
    simp only [e2, if_false]
    rw [Array.getElem?_setIfInBounds_ne e, hj']
theorem made_bools (n : Nat) : madeCells #[Value.bool false] n = ((List.replicate n false).map Value.bool).toArray := by
  apply Array.ext
  · simp [size_madeCells]
  · intro i h1 h2
    simp [madeCells, Nat.mod_one]
theorem bb_made (w : World) (n : Nat) : Bb (w.alloc (Obj.cells (madeCells #[Value.bool false] n) 4)) w.heap.size n (fun _ => false) :=
  ⟨_, Bx.new _ _ _, fun j hj => by rw [made_bools]; simp [hj]⟩
end Go.Proofs.Ytfbloddffhafdaa

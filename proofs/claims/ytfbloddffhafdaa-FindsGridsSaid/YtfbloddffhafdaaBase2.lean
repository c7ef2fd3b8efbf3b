/-
  More small laws on slices of integers. No program in sight.
-/
import Derived.Test.YtfbloddffhafdaaBase
namespace Go.Proofs.Ytfbloddffhafdaa
open Go.RowKit
/-- A cut of a slice: s[:q], s[q:]. -/
theorem Sl.to {w : World} {A : Option Addr} {n c q : Nat} {xs : List Int} (h : Sl w A n c xs) (hq : q ≤ n) : Sl w A q c (xs.take q) := by
  obtain ⟨h1, h2, h3, h4⟩ := h
  refine ⟨by rw [List.length_take]; omega, by omega, h3, fun hn => ?_⟩
  obtain ⟨b, o, hA, hlt, hc⟩ := h4 (by omega)
  refine ⟨b, o, hA, hlt, fun j hj => ?_⟩
  rw [hc j (by omega)]
  congr 2
  simp [hj]
theorem Sl.from {w : World} {A : Option Addr} {n c q : Nat} {xs : List Int} (h : Sl w A n c xs) (hq : q ≤ n) : Sl w (if c = q then A else A.map (·.add q)) (n - q) (c - q) (xs.drop q) := by
  obtain ⟨h1, h2, h3, h4⟩ := h
  refine ⟨by rw [List.length_drop]; omega, by omega, by omega, fun hn => ?_⟩
  obtain ⟨b, o, rfl, hlt, hc⟩ := h4 (by omega)
  rw [if_neg (by omega)]
  refine ⟨b, o + q, by simp [Addr.add_lit], hlt, fun j hj => ?_⟩
  rw [Nat.add_assoc, hc (q + j) (by omega)]
  congr 2
  simp
/-- What lies in memory that w0 did not have. -/
def New (w0 : World) (A : Option Addr) : Prop := ∀ b o s, A = some ⟨b, o, s⟩ → w0.heap.size ≤ b
theorem New.of_own {w0 w : World} {e : TypeId} {A : Option Addr} {n c : Nat} {xs : List Value} (h : w.ownsRow w0.heap.size e 1 (.slice A n c) n xs) : New w0 A := by
  intro b o s hA
  subst hA
  rcases h.2 with ⟨h1, _⟩ | ⟨g, cap, cur, h1, hb, _⟩
  · cases h1
  · simp only [Value.slice.injEq, Option.some.injEq, Addr.mk.injEq] at h1
    omega
theorem New.mono {w0 w1 : World} {A : Option Addr} (h : New w1 A) (hw : w0.heap.size ≤ w1.heap.size) : New w0 A := fun b o s hA => Nat.le_trans hw (h b o s hA)


/-! ### An array stored into a box -/
theorem set5_heap (w : World) (B : Nat) (v0 v1 v2 v3 v4 : Value) {b : Nat} (h : b ≠ B) : (((((w.setCell ⟨B, 0, none⟩ v0).setCell ⟨B, 1, none⟩ v1).setCell ⟨B, 2, none⟩ v2).setCell ⟨B, 3, none⟩ v3).setCell ⟨B, 4, none⟩ v4).heap[b]? = w.heap[b]? := by
  rw [Below.heap_setCell _ _ _ _ h, Below.heap_setCell _ _ _ _ h, Below.heap_setCell _ _ _ _ h, Below.heap_setCell _ _ _ _ h, Below.heap_setCell _ _ _ _ h]
theorem set5_cell (w : World) (B : Nat) (v0 v1 v2 v3 v4 : Value) {b i : Nat} (h : b ≠ B) : (((((w.setCell ⟨B, 0, none⟩ v0).setCell ⟨B, 1, none⟩ v1).setCell ⟨B, 2, none⟩ v2).setCell ⟨B, 3, none⟩ v3).setCell ⟨B, 4, none⟩ v4).cell? ⟨b, i, none⟩ = w.cell? ⟨b, i, none⟩ :=
  World.cell?_of_block (w := w) (set5_heap w B v0 v1 v2 v3 v4 h)
theorem Bx.set5 {w : World} {B : Nat} {u0 u1 u2 u3 u4 : Value} {T : TypeId} (h : Bx w B #[u0, u1, u2, u3, u4] T) (v0 v1 v2 v3 v4 : Value) :
    Bx (((((w.setCell ⟨B, 0, none⟩ v0).setCell ⟨B, 1, none⟩ v1).setCell ⟨B, 2, none⟩ v2).setCell ⟨B, 3, none⟩ v3).setCell ⟨B, 4, none⟩ v4) B #[v0, v1, v2, v3, v4] T := by
  have := ((((h.set_ 0 v0).set_ 1 v1).set_ 2 v2).set_ 3 v3).set_ 4 v4
  simpa using this
theorem Bx.past5 {w : World} {b : Nat} {cs : Array Value} {T : TypeId} (h : Bx w b cs T) {B : Nat} (v0 v1 v2 v3 v4 : Value) (hb : b ≠ B) : Bx (((((w.setCell ⟨B, 0, none⟩ v0).setCell ⟨B, 1, none⟩ v1).setCell ⟨B, 2, none⟩ v2).setCell ⟨B, 3, none⟩ v3).setCell ⟨B, 4, none⟩ v4) b cs T :=
  (set5_heap w B v0 v1 v2 v3 v4 hb).trans h
theorem below_set5 {w0 w : World} (h : Below w0.heap.size w0 w) {B : Nat} (hB : w0.heap.size ≤ B) (v0 v1 v2 v3 v4 : Value) : Below w0.heap.size w0 (((((w.setCell ⟨B, 0, none⟩ v0).setCell ⟨B, 1, none⟩ v1).setCell ⟨B, 2, none⟩ v2).setCell ⟨B, 3, none⟩ v3).setCell ⟨B, 4, none⟩ v4) :=
  bsc (bsc (bsc (bsc (bsc h hB _) hB _) hB _) hB _) hB _
theorem Sl.past5 {w : World} {A : Option Addr} {n c : Nat} {xs : List Int} (h : Sl w A n c xs) {B : Nat} (v0 v1 v2 v3 v4 : Value) (hB : ∀ b o, A = some ⟨b, o, none⟩ → b ≠ B) : Sl (((((w.setCell ⟨B, 0, none⟩ v0).setCell ⟨B, 1, none⟩ v1).setCell ⟨B, 2, none⟩ v2).setCell ⟨B, 3, none⟩ v3).setCell ⟨B, 4, none⟩ v4) A n c xs := by
  obtain ⟨h1, h2, h3, h4⟩ := h
  refine ⟨h1, h2, h3, fun hn => ?_⟩
  obtain ⟨b, o, hA, hlt, hc⟩ := h4 hn
  exact ⟨b, o, hA, by simpa [World.setCell] using hlt, fun j hj => (set5_cell w B v0 v1 v2 v3 v4 (hB b o hA)).trans (hc j hj)⟩
end Go.Proofs.Ytfbloddffhafdaa

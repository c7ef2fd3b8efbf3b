/-
  Small lemmas that the laws' walks share.
-/
import Derived.Test.YtfbloddffhafdaaAdef
namespace Go.Proofs.Ytfbloddffhafdaa
open Go.RowKit

theorem slLit (w : World) (xs : List Int) (n : Nat) (hn : xs.length = n) (hm : n ≤ 1000) : Sl (w.alloc (.cells (xs.map (Value.int .i64)).toArray 2)) (some ⟨w.heap.size, 0, none⟩) n n xs :=
  Sl.of_box (Bx.new w _ _) hn (Nat.le_refl _) (by unfold maxLen; omega) (fun j hj => by
    have := map_getD (xs := xs) (j := j) (by omega)
    simpa using this)
theorem Sl.ne_lo {w : World} {A : Option Addr} {n c : Nat} {xs : List Int} (h : Sl w A n c xs) {B : Nat} (hB : w.heap.size ≤ B) : 0 < n → ∀ b o, A = some ⟨b, o, none⟩ → b ≠ B := fun hn b o e => by
  obtain ⟨b', o', hA, hlt, _⟩ := h.at_ hn
  rw [hA] at e
  cases e
  omega
theorem New.ne_hi {w : World} {A : Option Addr} (h : New w A) {B n : Nat} (hB : B < w.heap.size) : 0 < n → ∀ b o, A = some ⟨b, o, none⟩ → b ≠ B := fun _ b o e => by
  have := h b o none e
  omega
theorem Sl.past5z {w : World} {A : Option Addr} {n c : Nat} {xs : List Int} (h : Sl w A n c xs) {B : Nat} (v0 v1 v2 v3 v4 : Value) (hB : 0 < n → ∀ b o, A = some ⟨b, o, none⟩ → b ≠ B) : Sl (((((w.setCell ⟨B, 0, none⟩ v0).setCell ⟨B, 1, none⟩ v1).setCell ⟨B, 2, none⟩ v2).setCell ⟨B, 3, none⟩ v3).setCell ⟨B, 4, none⟩ v4) A n c xs := by
  obtain ⟨h1, h2, h3, h4⟩ := h
  refine ⟨h1, h2, h3, fun hn => ?_⟩
  obtain ⟨b, o, hA, hlt, hc⟩ := h4 hn
  exact ⟨b, o, hA, by simpa [World.setCell] using hlt, fun j hj => (set5_cell w B v0 v1 v2 v3 v4 (hB hn b o hA)).trans (hc j hj)⟩
end Go.Proofs.Ytfbloddffhafdaa

/-
  Rows of a call's own beside boxes.
-/
import Derived.Test.YtfbloddffhafdaaAdef
import Derived.Test.YtfbloddffhafdaaApr
import Derived.OneCell
namespace Go.Proofs.Ytfbloddffhafdaa
open Go.RowKit

theorem own_drop {w : World} {base n c B i : Nat} {A : Option Addr} {xs : List Value} {cs : Array Value} {T : TypeId} (h : w.ownsRow base 2 1 (.slice A n c) n xs) (hx : Bx w B cs T) (hT : 2 ≠ T) (u : Value) :
    (w.setCell ⟨B, i, none⟩ u).ownsRow base 2 1 (.slice A n c) n xs := by
  have hne : (Value.slice A n c).ownBlock ≠ some B := by
    rcases h.2 with ⟨h1, _⟩ | ⟨g, cap, cur, h1, hb, hg, hn, hm, hs, ht⟩
    · rw [h1]; simp [Value.ownBlock]
    · rw [h1]
      simp only [Value.ownBlock, ne_eq, Option.some.injEq]
      intro e
      subst e
      unfold Bx at hx
      rw [hg] at hx
      simp only [Option.some.injEq, Obj.cells.injEq] at hx
      exact hT hx.2.1
  exact ownsRow_setCell_other h hne _
theorem Bx.grown {w w' : World} {B : Nat} {cs : Array Value} {T : TypeId} {row : Option Nat} (h : Bx w B cs T) (hg : w.grownBy w' row) (hne : some B ≠ row) : Bx w' B cs T := (hg.block B h.lt hne).trans h
theorem own_row_ne {w : World} {base n B : Nat} {v : Value} {xs : List Value} {cs : Array Value} {T : TypeId} (h : w.ownsRow base 2 1 v n xs) (hx : Bx w B cs T) (hT : 2 ≠ T) : some B ≠ v.ownBlock := by
  rcases h.2 with ⟨h1, _⟩ | ⟨g, cap, cur, h1, hb, hg, hn, hm, hs, ht⟩
  · rw [h1]; simp [Value.ownBlock]
  · rw [h1]
    simp only [Value.ownBlock, ne_eq, Option.some.injEq]
    intro e
    subst e
    unfold Bx at hx
    rw [hg] at hx
    simp only [Option.some.injEq, Obj.cells.injEq] at hx
    exact hT hx.2.1

theorem own_ne' {w : World} {base n c B : Nat} {A : Option Addr} {xs : List Value} {cs : Array Value} {T : TypeId} (h : w.ownsRow base 2 1 (.slice A n c) n xs) (hx : Bx w B cs T) (hT : 2 ≠ T) {b o : Nat} (hA : A = some ⟨b, o, none⟩) : b ≠ B := by
  subst hA
  intro e
  subst e
  exact own_row_ne h hx hT (by simp [Value.ownBlock])
theorem New.of_own' {base : Nat} {w : World} {e : TypeId} {A : Option Addr} {n c : Nat} {xs : List Value} (h : w.ownsRow base e 1 (.slice A n c) n xs) : ∀ b o s, A = some ⟨b, o, s⟩ → base ≤ b := by
  intro b o s hA
  subst hA
  rcases h.2 with ⟨h1, _⟩ | ⟨g, cap, cur, h1, hb, _⟩
  · cases h1
  · simp only [Value.slice.injEq, Option.some.injEq, Addr.mk.injEq] at h1
    omega
end Go.Proofs.Ytfbloddffhafdaa

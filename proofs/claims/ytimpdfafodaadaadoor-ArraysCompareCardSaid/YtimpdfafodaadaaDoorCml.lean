/-
  The order of arrays is an order: laws of the plain functions. No program in sight.
-/
import Derived.Test.YtimpdfafodaadaaDoorCmd
namespace Go.Proofs.YtimpdfafodaadaaDoor
/-- An array as one list. -/
def asL (a : Arr) : List Int := a.k :: a.r :: a.l0 :: a.l1 :: a.c
theorem cmpAll (a b : Arr) : orL [cmpI a.k b.k, cmpI a.r b.r, cmpL [a.l0, a.l1] [b.l0, b.l1], cmpL a.c b.c] = cmpL (asL a) (asL b) := by
  rw [orL_four]
  simp only [asL, cmpL]
  by_cases h0 : cmpI a.k b.k = 0
  · by_cases h1 : cmpI a.r b.r = 0
    · by_cases h2 : cmpI a.l0 b.l0 = 0
      · by_cases h3 : cmpI a.l1 b.l1 = 0
        · simp [h0, h1, h2, h3]
        · simp [h0, h1, h2, h3]
      · simp [h0, h1, h2]
    · simp [h0, h1]
  · simp [h0]
theorem cmpI_cases (a b : Int) : (a < b ∧ cmpI a b = -1) ∨ (a = b ∧ cmpI a b = 0) ∨ (b < a ∧ cmpI a b = 1) := by
  unfold cmpI
  by_cases h : a < b
  · left; exact ⟨h, if_pos h⟩
  · by_cases h2 : b < a
    · right; right; exact ⟨h2, by rw [if_neg h, if_pos h2]⟩
    · right; left; exact ⟨by omega, by rw [if_neg h, if_neg h2]⟩
theorem cmpL_cons (x y : Int) (xs ys : List Int) : cmpL (x :: xs) (y :: ys) = if cmpI x y ≠ 0 then cmpI x y else cmpL xs ys := rfl
theorem cmpL_range : ∀ (xs ys : List Int), cmpL xs ys = -1 ∨ cmpL xs ys = 0 ∨ cmpL xs ys = 1
  | [], [] => .inr (.inl rfl)
  | [], _ :: _ => .inl rfl
  | _ :: _, [] => .inr (.inr rfl)
  | x :: xs, y :: ys => by
    rw [cmpL_cons]
    rcases cmpI_cases x y with ⟨_, h⟩ | ⟨_, h⟩ | ⟨_, h⟩
    · rw [h]; simp
    · rw [h]; simpa using cmpL_range xs ys
    · rw [h]; simp
theorem cmpL_anti : ∀ (xs ys : List Int), cmpL ys xs = - cmpL xs ys
  | [], [] => rfl
  | [], _ :: _ => rfl
  | _ :: _, [] => rfl
  | x :: xs, y :: ys => by
    rw [cmpL_cons, cmpL_cons]
    rcases cmpI_cases x y with ⟨h1, h⟩ | ⟨h1, h⟩ | ⟨h1, h⟩ <;> rcases cmpI_cases y x with ⟨h2, g⟩ | ⟨h2, g⟩ | ⟨h2, g⟩
    all_goals first | omega | (rw [h, g]; simp; done) | (rw [h, g]; simpa using cmpL_anti xs ys)
theorem cmpL_zero : ∀ (xs ys : List Int), cmpL xs ys = 0 ↔ xs = ys
  | [], [] => by simp [cmpL]
  | [], _ :: _ => by simp [cmpL]
  | _ :: _, [] => by simp [cmpL]
  | x :: xs, y :: ys => by
    rw [cmpL_cons]
    rcases cmpI_cases x y with ⟨h1, h⟩ | ⟨h1, h⟩ | ⟨h1, h⟩
    · rw [h]; simp; intro e; omega
    · rw [h]; simp [cmpL_zero xs ys, h1]
    · rw [h]; simp; intro e; omega
/-- Not above, and not above: not above; strictly so if one of both is below. -/
theorem cmpL_trans : ∀ (xs ys zs : List Int), cmpL xs ys ≤ 0 → cmpL ys zs ≤ 0 → cmpL xs zs ≤ 0 ∧ (cmpL xs ys < 0 → cmpL xs zs < 0)
  | [], [], zs => fun _ h => ⟨h, fun h => by simp [cmpL] at h⟩
  | [], y :: ys, [] => fun _ h => by simp [cmpL] at h
  | [], y :: ys, z :: zs => fun _ _ => by simp [cmpL]
  | x :: xs, [], zs => fun h _ => by simp [cmpL] at h
  | x :: xs, y :: ys, [] => fun _ h => by simp [cmpL] at h
  | x :: xs, y :: ys, z :: zs => by
    have ih := cmpL_trans xs ys zs
    rw [cmpL_cons, cmpL_cons, cmpL_cons]
    rcases cmpI_cases x y with ⟨h1, h⟩ | ⟨h1, h⟩ | ⟨h1, h⟩ <;> rcases cmpI_cases y z with ⟨h2, g⟩ | ⟨h2, g⟩ | ⟨h2, g⟩ <;> rcases cmpI_cases x z with ⟨h3, k⟩ | ⟨h3, k⟩ | ⟨h3, k⟩
    all_goals first | omega | (rw [h, g, k]; simp; done) | (rw [h, g, k]; simpa using ih)
theorem asL_inj {a b : Arr} : asL a = asL b ↔ (a.k = b.k ∧ a.r = b.r ∧ a.l0 = b.l0 ∧ a.l1 = b.l1 ∧ a.c = b.c) := by
  simp [asL]
theorem sCompare_ok {a b : Arr} (ha : chkB a = 0) (hb : chkB b = 0) : sCompare a b = (cmpL (asL a) (asL b), 0) := by
  unfold sCompare
  rw [if_neg (by simp [ha]), if_neg (by simp [hb]), cmpAll]
theorem sCompare_bad {a b : Arr} : (sCompare a b).2 = 0 ↔ (chkB a = 0 ∧ chkB b = 0) := by
  unfold sCompare
  by_cases ha : chkB a = 0
  · by_cases hb : chkB b = 0
    · simp [ha, hb]
    · rw [if_neg (by simp [ha]), if_pos hb]
      simp [ha, hb]
  · rw [if_pos ha]
    simp [ha]
end Go.Proofs.YtimpdfafodaadaaDoor

/-
  Plain laws of the symmetric merge where one run has one cell: the cell is moved to its place.
-/
import Derived.Test.YtfbloddffhafdaaFord
namespace Go.Proofs.Ytfbloddffhafdaa
open Go.RowKit

/-- The cell at a has been moved to i. -/
def mvR (f : Nat → Int) (a i : Nat) : Nat → Int := fun t => if a ≤ t ∧ t < i then f (t + 1) else if t = i then f a else f t
theorem mvR_zero (f : Nat → Int) (a : Nat) : mvR f a a = f := by
  funext t; unfold mvR
  rw [if_neg (by omega)]
  by_cases e : t = a
  · rw [if_pos e, e]
  · rw [if_neg e]
theorem mvR_at (f : Nat → Int) (a i t : Nat) : mvR f a i t = if a ≤ t ∧ t < i then f (t + 1) else if t = i then f a else f t := rfl
theorem mvR_succ (f : Nat → Int) (a i : Nat) (h : a ≤ i) : mvR f a (i + 1) = xchF (mvR f a i) i (i + 1) := by
  funext t
  have g1 : mvR f a i i = f a := by rw [mvR_at, if_neg (by omega), if_pos rfl]
  have g2 : mvR f a i (i + 1) = f (i + 1) := by rw [mvR_at, if_neg (by omega), if_neg (by omega)]
  rw [xchF_at, g1, g2, mvR_at]
  by_cases e : t = i + 1
  · rw [if_neg (by omega), if_pos e, if_pos e]
  · rw [if_neg e, if_neg e]
    by_cases e2 : t = i
    · rw [if_pos (by omega), if_pos e2, e2]
    · rw [if_neg e2, mvR_at, if_neg e2]
      by_cases e3 : a ≤ t ∧ t < i
      · rw [if_pos (by omega), if_pos e3]
      · rw [if_neg (by omega), if_neg e3]
theorem mvR_law {k : Int → Int} {f : Nat → Int} {a i b : Nat} (hi : a ≤ i) (hb : i < b) (h2 : srt k f (a + 1) b) (h3 : i = a ∨ plt k (f i) (f a)) (h4 : i + 1 = b ∨ plt k (f a) (f (i + 1))) :
    srt k (mvR f a i) a b ∧ frm f (mvR f a i) a b := by
  have L : ∀ t, a < t → t ≤ i → plt k (f t) (f a) := fun t p q => by
    rcases h3 with h | h
    · omega
    · by_cases e : t = i
      · rw [e]; exact h
      · exact (h2 t i (by omega) (by omega) hb).trans h
  have H : ∀ t, i < t → t < b → plt k (f a) (f t) := fun t p q => by
    rcases h4 with h | h
    · omega
    · by_cases e : t = i + 1
      · rw [e]; exact h
      · exact h.trans (h2 (i + 1) t (by omega) (by omega) q)
  refine ⟨fun p q h5 h6 h7 => ?_, fun t ht => ?_, fun t t1 t2 => ?_⟩
  · unfold mvR
    by_cases e1 : q < i
    · rw [if_pos (by omega), if_pos (by omega)]
      exact h2 _ _ (by omega) (by omega) (by omega)
    · rw [if_neg (show ¬ (a ≤ q ∧ q < i) by omega)]
      by_cases e2 : q = i
      · rw [if_pos e2, if_pos (by omega)]
        exact L _ (by omega) (by omega)
      · rw [if_neg e2]
        by_cases e3 : p < i
        · rw [if_pos (by omega)]
          exact h2 _ _ (by omega) (by omega) h7
        · rw [if_neg (by omega)]
          by_cases e4 : p = i
          · rw [if_pos e4]; exact H _ (by omega) h7
          · rw [if_neg e4]; exact h2 _ _ (by omega) h6 h7
  · unfold mvR
    rw [if_neg (by omega), if_neg (by omega)]
  · unfold mvR
    by_cases e1 : t < i
    · rw [if_pos (by omega)]; exact ⟨t + 1, by omega, by omega, rfl⟩
    · rw [if_neg (by omega)]
      by_cases e2 : t = i
      · rw [if_pos e2]; exact ⟨a, by omega, by omega, rfl⟩
      · rw [if_neg e2]; exact ⟨t, t1, t2, rfl⟩
/-- The cell at m has been moved down to i. -/
def mvL (f : Nat → Int) (m i : Nat) : Nat → Int := fun t => if i < t ∧ t ≤ m then f (t - 1) else if t = i then f m else f t
theorem mvL_zero (f : Nat → Int) (m : Nat) : mvL f m m = f := by
  funext t; unfold mvL
  rw [if_neg (by omega)]
  by_cases e : t = m
  · rw [if_pos e, e]
  · rw [if_neg e]
theorem mvL_at (f : Nat → Int) (m i t : Nat) : mvL f m i t = if i < t ∧ t ≤ m then f (t - 1) else if t = i then f m else f t := rfl
theorem mvL_succ (f : Nat → Int) (m i : Nat) (h : i < m) : mvL f m i = xchF (mvL f m (i + 1)) (i + 1) i := by
  funext t
  have g1 : mvL f m (i + 1) (i + 1) = f m := by rw [mvL_at, if_neg (by omega), if_pos rfl]
  have g2 : mvL f m (i + 1) i = f i := by rw [mvL_at, if_neg (by omega), if_neg (by omega)]
  rw [xchF_at, g1, g2, mvL_at]
  by_cases e : t = i
  · rw [if_neg (by omega), if_pos e, if_pos e]
  · rw [if_neg e, if_neg e]
    by_cases e2 : t = i + 1
    · rw [if_pos (by omega), if_pos e2, e2]; congr 1
    · rw [if_neg e2, mvL_at, if_neg e2]
      by_cases e3 : i < t ∧ t ≤ m
      · rw [if_pos e3, if_pos (by omega)]
      · rw [if_neg e3, if_neg (by omega)]
theorem mvL_law {k : Int → Int} {f : Nat → Int} {a i m : Nat} (hi : a ≤ i) (hm : i ≤ m) (h1 : srt k f a m) (h3 : i = a ∨ plt k (f (i - 1)) (f m)) (h4 : i = m ∨ plt k (f m) (f i)) :
    srt k (mvL f m i) a (m + 1) ∧ frm f (mvL f m i) a (m + 1) := by
  have L : ∀ t, a ≤ t → t < i → plt k (f t) (f m) := fun t p q => by
    rcases h3 with h | h
    · omega
    · by_cases e : t = i - 1
      · rw [e]; exact h
      · exact (h1 t (i - 1) p (by omega) (by omega)).trans h
  have H : ∀ t, i ≤ t → t < m → plt k (f m) (f t) := fun t p q => by
    rcases h4 with h | h
    · omega
    · by_cases e : t = i
      · rw [e]; exact h
      · exact h.trans (h1 i t hi (by omega) q)
  refine ⟨fun p q h5 h6 h7 => ?_, fun t ht => ?_, fun t t1 t2 => ?_⟩
  · unfold mvL
    by_cases e1 : p < i
    · rw [if_neg (show ¬ (i < p ∧ p ≤ m) by omega), if_neg (show ¬ p = i by omega)]
      by_cases e2 : i < q
      · rw [if_pos (by omega)]; exact h1 _ _ h5 (by omega) (by omega)
      · rw [if_neg (by omega)]
        by_cases e3 : q = i
        · rw [if_pos e3]; exact L _ h5 e1
        · rw [if_neg e3]; exact h1 _ _ h5 h6 (by omega)
    · rw [if_pos (show i < q ∧ q ≤ m by omega)]
      by_cases e2 : p = i
      · rw [if_neg (by omega), if_pos e2]; exact H _ (by omega) (by omega)
      · rw [if_pos (by omega)]; exact h1 _ _ (by omega) (by omega) (by omega)
  · unfold mvL
    rw [if_neg (by omega), if_neg (by omega)]
  · unfold mvL
    by_cases e1 : i < t
    · rw [if_pos (by omega)]; exact ⟨t - 1, by omega, by omega, rfl⟩
    · rw [if_neg (by omega)]
      by_cases e2 : t = i
      · rw [if_pos e2]; exact ⟨m, by omega, by omega, rfl⟩
      · rw [if_neg e2]; exact ⟨t, t1, t2, rfl⟩
end Go.Proofs.Ytfbloddffhafdaa

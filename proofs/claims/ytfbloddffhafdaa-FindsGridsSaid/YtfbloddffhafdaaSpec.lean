/-
  The document's words as plain Lean functions: shapes (chapter 5). No program in sight.
-/
namespace Go.Proofs.Ytfbloddffhafdaa
/-- The product of the lengths. -/
def prodI (r l0 l1 : Int) : Int := if r = 2 then l0 * l1 else if r = 1 then l0 else 1
/-- The error number of a shape. -/
def shp (r l0 l1 : Int) : Int :=
  if r < 0 ∨ 2 < r then 7
  else if (0 < r ∧ l0 < 0) ∨ (1 < r ∧ l1 < 0) then 7
  else if (r < 1 ∧ l0 ≠ 0) ∨ (r < 2 ∧ l1 ≠ 0) then 6
  else if 400 < l0 ∨ 400 < l1 ∨ 400 < prodI r l0 l1 then 15
  else 0
theorem shp_ok {r l0 l1 : Int} (h : shp r l0 l1 = 0) :
    (r = 0 ∧ l0 = 0 ∧ l1 = 0) ∨ (r = 1 ∧ 0 ≤ l0 ∧ l0 ≤ 400 ∧ l1 = 0) ∨ (r = 2 ∧ 0 ≤ l0 ∧ l0 ≤ 400 ∧ 0 ≤ l1 ∧ l1 ≤ 400 ∧ l0 * l1 ≤ 400) := by
  unfold shp at h
  split at h
  · cases h
  split at h
  · cases h
  split at h
  · cases h
  split at h
  · cases h
  rename_i h1 h2 h3 h4
  have hr : r = 0 ∨ r = 1 ∨ r = 2 := by omega
  rcases hr with rfl | rfl | rfl
  · left; omega
  · right; left; omega
  · right; right
    simp [prodI] at h4
    omega
theorem prodI_bounds {r l0 l1 : Int} (h : shp r l0 l1 = 0) : 0 ≤ prodI r l0 l1 ∧ prodI r l0 l1 ≤ 400 := by
  rcases shp_ok h with ⟨rfl, _, _⟩ | ⟨rfl, _, _, _⟩ | ⟨rfl, a, _, b, _, c⟩
  · simp [prodI]
  · simp [prodI]; omega
  · simp only [prodI, if_true]; exact ⟨Int.mul_nonneg a b, c⟩
/-- An array: its kind, its rank, its two lengths, its cells. -/
structure Arr where
  k : Int
  r : Int
  l0 : Int
  l1 : Int
  c : List Int
/-- A number that is a rune. -/
def isRune (c : Int) : Bool := decide (0 ≤ c) && decide (c ≤ 1114111) && (decide (c < 55296) || decide (57343 < c))
/-- A number that may be a cell of an array of kind k. -/
def rightB (k c : Int) : Bool := k == 1 || isRune c
/-- The error number of an array. -/
def achk (k r l0 l1 : Int) (xs : List Int) : Int :=
  if k ≠ 1 ∧ k ≠ 2 then 2
  else if shp r l0 l1 ≠ 0 then shp r l0 l1
  else if (xs.length : Int) ≠ prodI r l0 l1 then 6
  else if xs.any (fun c => !rightB k c) = true then 7
  else 0
theorem achk_ok {k r l0 l1 : Int} {xs : List Int} (h : achk k r l0 l1 xs = 0) :
    (k = 1 ∨ k = 2) ∧ shp r l0 l1 = 0 ∧ (xs.length : Int) = prodI r l0 l1 ∧ xs.any (fun c => !rightB k c) = false := by
  unfold achk at h
  split at h
  · cases h
  split at h
  · rename_i h1 h2; exact absurd h h2
  split at h
  · cases h
  split at h
  · cases h
  rename_i h1 h2 h3 h4
  exact ⟨by omega, by omega, by omega, by simpa using h4⟩
theorem achk_len {k r l0 l1 : Int} {xs : List Int} (h : achk k r l0 l1 xs = 0) : xs.length ≤ 400 := by
  obtain ⟨_, h1, h2, _⟩ := achk_ok h
  have := prodI_bounds h1
  omega
end Go.Proofs.Ytfbloddffhafdaa

/-
  Plain laws of places and indices. No program in sight.
-/
import Derived.Test.YtimpdfafodaadaaDoorS5
namespace Go.Proofs.YtimpdfafodaadaaDoor

theorem place_cases (r l0 l1 x0 x1 : Int) (h : shp r l0 l1 = 0) : (∃ p, sPlace r l0 l1 x0 x1 = (p, 0)) ∨ sPlace r l0 l1 x0 x1 = (0, 4) := by
  unfold sPlace
  rw [if_neg (fun g => g h)]
  by_cases hc : x0 < 0 ∨ mst r 0 l0 ≤ x0 ∨ x1 < 0 ∨ mst r 1 l1 ≤ x1
  · right; rw [if_pos hc]
  · left; rw [if_neg hc]; exact ⟨_, rfl⟩
theorem place_none {r l0 l1 x0 x1 : Int} (h : shp r l0 l1 = 0) (hc : x0 < 0 ∨ mst r 0 l0 ≤ x0 ∨ x1 < 0 ∨ mst r 1 l1 ≤ x1) : sPlace r l0 l1 x0 x1 = (0, 4) := by
  unfold sPlace
  rw [if_neg (fun g => g h), if_pos hc]
theorem mul_bound {x l0 l1 y : Int} (_hx : 0 ≤ x) (h : x < l0) (_hy : 0 ≤ y) (hl : y < l1) : 0 ≤ x * l1 + y ∧ x * l1 + y < l0 * l1 := by
  have h1 : (x + 1) * l1 ≤ l0 * l1 := Int.mul_le_mul_of_nonneg_right (by omega) (by omega)
  have h2 : 0 ≤ x * l1 := Int.mul_nonneg _hx (by omega)
  rw [Int.add_mul, Int.one_mul] at h1
  omega
theorem index_place {r l0 l1 x0 x1 p : Int} (h : sPlace r l0 l1 x0 x1 = (p, 0)) : shp r l0 l1 = 0 ∧ sIndex r l0 l1 p = (x0, x1, 0) ∧ 0 ≤ p ∧ p < prodI r l0 l1 := by
  unfold sPlace at h
  split at h
  · rename_i hs
    simp only [Prod.mk.injEq] at h
    exact absurd h.2 hs
  rename_i hs
  have hs := Decidable.not_not.1 hs
  split at h
  · simp at h
  rename_i hc
  simp only [Prod.mk.injEq, and_true] at h
  refine ⟨hs, ?_⟩
  unfold sIndex
  rw [if_neg (fun g => g hs)]
  rcases shp_ok hs with ⟨rfl, rfl, rfl⟩ | ⟨rfl, h1, h2, rfl⟩ | ⟨rfl, h1, h2, h3, h4, h5⟩
  · simp only [mst] at hc h
    have e0 : x0 = 0 := by simp at hc; omega
    have e1 : x1 = 0 := by simp at hc; omega
    subst e0 e1
    simp at h
    subst h
    exact ⟨rfl, by decide, by decide⟩
  · simp only [mst] at hc h
    have e1 : x1 = 0 := by simp at hc; omega
    have e2 : 0 ≤ x0 ∧ x0 < l0 := by simp at hc; omega
    subst e1
    simp at h
    subst h
    simp only [prodI]
    refine ⟨?_, e2.1, by simpa using e2.2⟩
    rw [if_neg (by simp; omega), if_pos (by decide)]
  · have e2 : 0 ≤ x0 ∧ x0 < l0 ∧ 0 ≤ x1 ∧ x1 < l1 := by simp [mst] at hc; omega
    obtain ⟨g1, g2, g3, g4⟩ := e2
    have hb := mul_bound g1 g2 g3 g4
    have hm : mst 2 1 l1 = l1 := by simp [mst]
    rw [hm] at h
    subst h
    simp only [prodI, if_true]
    refine ⟨?_, hb.1, hb.2⟩
    rw [if_neg (by omega), if_neg (by decide)]
    have hz : l1 ≠ 0 := by omega
    have q1 : (x0 * l1 + x1) / l1 = x0 := by
      rw [Int.add_comm, Int.add_mul_ediv_right _ _ hz, Int.ediv_eq_zero_of_lt g3 g4, Int.zero_add]
    have q2 : (x0 * l1 + x1) % l1 = x1 := by
      rw [Int.add_comm, Int.add_mul_emod_self_right, Int.emod_eq_of_lt g3 g4]
    rw [q1, q2]
end Go.Proofs.YtimpdfafodaadaaDoor

/-
  At of With. No program in sight.
-/
import Derived.Test.YtimpdfafodaadaaDoorPlp
import Derived.Test.YtimpdfafodaadaaDoorAdef
namespace Go.Proofs.YtimpdfafodaadaaDoor

/-- Every place has an index. -/
theorem place_index {r l0 l1 p : Int} (h : shp r l0 l1 = 0) (h0 : 0 ≤ p) (h1 : p < prodI r l0 l1) : ∃ x0 x1, sIndex r l0 l1 p = (x0, x1, 0) ∧ sPlace r l0 l1 x0 x1 = (p, 0) := by
  rcases shp_ok h with ⟨rfl, rfl, rfl⟩ | ⟨rfl, a0, a1, rfl⟩ | ⟨rfl, a0, a1, b0, b1, c0⟩
  · have : p = 0 := by simp [prodI] at h1; omega
    subst this
    exact ⟨0, 0, by rfl, by rfl⟩
  · have hp : p < l0 := by simpa [prodI] using h1
    refine ⟨p, 0, ?_, ?_⟩
    · unfold sIndex
      rw [if_neg (fun g => g h), if_neg (by omega), if_pos (by omega)]
    · unfold sPlace
      rw [if_neg (fun g => g h), if_neg (by simp [mst]; omega)]
      simp [mst]
  · have hp : p < l0 * l1 := by simpa [prodI] using h1
    have hl : 0 < l1 := by
      rcases Int.lt_or_le 0 l1 with g | g
      · exact g
      · have : l1 = 0 := by omega
        subst this
        simp at hp
        omega
    have hd : p / l1 < l0 := Int.ediv_lt_of_lt_mul hl hp
    have hd0 : 0 ≤ p / l1 := Int.ediv_nonneg h0 (by omega)
    have hm0 := Int.emod_nonneg p (show l1 ≠ 0 by omega)
    have hm1 := Int.emod_lt_of_pos p hl
    have he := Int.mul_ediv_add_emod p l1
    refine ⟨p / l1, p % l1, ?_, ?_⟩
    · unfold sIndex
      rw [if_neg (fun g => g h), if_neg (by omega), if_neg (by omega)]
    · unfold sPlace
      rw [if_neg (fun g => g h), if_neg (by simp [mst]; omega)]
      simp only [mst]
      rw [if_pos (by omega), Int.mul_comm]
      exact congrArg (fun z => (z, (0 : Int))) he
theorem achk_set {k r l0 l1 : Int} {xs : List Int} (h : achk k r l0 l1 xs = 0) {i : Nat} {v : Int} (hv : rightB k v = true) : achk k r l0 l1 (xs.set i v) = 0 := by
  obtain ⟨h1, h2, h3, h4⟩ := achk_ok h
  unfold achk
  rw [if_neg (by omega), if_neg (fun g => g h2), if_neg (by rw [List.length_set]; exact fun g => g h3), if_neg]
  intro g
  obtain ⟨c, hc, h5⟩ := List.any_eq_true.1 g
  rcases List.mem_or_eq_of_mem_set hc with e | e
  · exact (List.any_eq_false.1 h4 c e) h5
  · subst e
    simp [hv] at h5
/-- At of With: a cell that may lie there is read back; else the error number 7, and then the array is of characters. -/
theorem with_at {k r l0 l1 : Int} {xs : List Int} (h : achk k r l0 l1 xs = 0) {p : Nat} (hp : p < xs.length) (v : Int) : ∃ x0 x1, sIndex r l0 l1 (p : Int) = (x0, x1, 0) ∧
    ((rightB k v = false ∧ k = 2 ∧ sWith ⟨k, r, l0, l1, xs⟩ x0 x1 v = (zA, 7)) ∨
     (rightB k v = true ∧ sWith ⟨k, r, l0, l1, xs⟩ x0 x1 v = (⟨k, r, l0, l1, xs.set p v⟩, 0) ∧ sAt ⟨k, r, l0, l1, xs.set p v⟩ x0 x1 = (v, 0) ∧ achk k r l0 l1 (xs.set p v) = 0)) := by
  obtain ⟨h1, h2⟩ := chkA_ok h
  obtain ⟨x0, x1, hi, hpl⟩ := place_index (p := (p : Int)) h1 (by omega) (by omega)
  refine ⟨x0, x1, hi, ?_⟩
  have ha : sAtP ⟨k, r, l0, l1, xs⟩ x0 x1 = ((p : Int), 0) := by
    unfold sAtP chkA
    rw [if_neg (fun g => g h)]
    exact hpl
  have hk := (achk_ok h).1
  unfold sWith
  rw [ha, if_neg (fun g => g rfl)]
  cases hv : rightB k v with
  | false =>
    left
    refine ⟨rfl, ?_, rfl⟩
    rcases hk with rfl | rfl
    · simp [rightB] at hv
    · rfl
  | true =>
    right
    have hs := achk_set h (i := p) hv
    refine ⟨rfl, rfl, ?_, hs⟩
    have ha2 : sAtP ⟨k, r, l0, l1, xs.set p v⟩ x0 x1 = ((p : Int), 0) := by
      unfold sAtP chkA
      rw [if_neg (fun g => g hs)]
      exact hpl
    unfold sAt
    rw [ha2, if_neg (fun g => g rfl)]
    simp [List.getD, hp]
end Go.Proofs.YtimpdfafodaadaaDoor

/-
  Matrix of Rows is the array; At of With. No program in sight.
-/
import Derived.Test.YtimpdfafodaadaaDoorRowp
import Derived.Test.YtimpdfafodaadaaDoorAdef
namespace Go.Proofs.YtimpdfafodaadaaDoor

theorem chunks_len (a b : Nat) (xs : List Int) : (chunks a b xs).length = a := by simp [chunks]
theorem chunks_row {a b : Nat} {xs : List Int} (h : xs.length = a * b) : ∀ l ∈ chunks a b xs, l.length = b := by
  intro l hl
  obtain ⟨i, hi, rfl⟩ := List.mem_map.1 hl
  have hi2 := List.mem_range.1 hi
  rw [List.length_take, List.length_drop, h]
  have : (i + 1) * b ≤ a * b := Nat.mul_le_mul_right b hi2
  rw [Nat.succ_mul] at this
  omega
theorem chunks_flat : ∀ (a b : Nat) (xs : List Int), xs.length = a * b → (chunks a b xs).flatten = xs := by
  intro a b xs h
  have key : ∀ j, j ≤ a → (chunks j b xs).flatten = xs.take (j * b) := by
    intro j
    induction j with
    | zero => intro _; simp [chunks]
    | succ j ih =>
      intro hj
      have e : chunks (j + 1) b xs = chunks j b xs ++ [(xs.drop (j * b)).take b] := by
        unfold chunks
        rw [List.range_succ, List.map_append]
        rfl
      rw [e, List.flatten_append, ih (by omega), Nat.succ_mul, List.take_add]
      simp
  rw [key a (Nat.le_refl a), ← h, List.take_length]
/-- Matrix of the Rows of an array of ints of rank 2 is the array, if it has rows, or no second length. -/
theorem rows_matrix {l0 l1 : Int} {xs : List Int} {L : List (List Int)} {ec : Int} (hc : achk 1 2 l0 l1 xs = 0) (hR : sRowsA 1 2 l0 l1 xs = (L, ec)) (hl : 0 < l0 ∨ l1 = 0) : ec = 0 ∧ sMatrix L = (⟨1, 2, l0, l1, xs⟩, 0) := by
  unfold sRowsA at hR
  rw [if_neg (fun g => g hc)] at hR
  obtain ⟨rfl, rfl⟩ := Prod.mk.inj hR
  refine ⟨rfl, ?_⟩
  obtain ⟨a, b, hab, hlen, ha, hb⟩ := rows_nat hc
  have h1 := (achk_ok hc).2.1
  have e0 : l0 = (a : Int) ∧ l1 = (b : Int) := by
    rw [sRows, if_neg (fun g => g h1), if_pos rfl] at hab
    simp only [Prod.mk.injEq, and_true] at hab
    exact hab
  obtain ⟨rfl, rfl⟩ := e0
  rw [hab]
  simp only [Int.toNat_natCast]
  have hx4 := achk_len hc
  have hz : ((chunks a b xs).getD 0 []).length = b := by
    by_cases h0 : a = 0
    · subst h0
      have : b = 0 := by omega
      subst this
      rfl
    · have hm : (chunks a b xs).getD 0 [] ∈ chunks a b xs := by
        rw [List.getD, List.getElem?_eq_getElem (by rw [chunks_len]; omega)]
        exact List.getElem_mem _
      exact chunks_row hlen _ hm
  have hany : ¬ ((chunks a b xs).any (fun l => l.length != ((chunks a b xs).getD 0 []).length) = true) := by
    intro h
    obtain ⟨l, hl, h2⟩ := List.any_eq_true.1 h
    rw [hz, chunks_row hlen l hl] at h2
    simp at h2
  unfold sMatrix
  rw [chunks_len, if_neg (by omega), if_neg hany, hz, if_neg (by omega), chunks_flat a b xs hlen]
end Go.Proofs.YtimpdfafodaadaaDoor

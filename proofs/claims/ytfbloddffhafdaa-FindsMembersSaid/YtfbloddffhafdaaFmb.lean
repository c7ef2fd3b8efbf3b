/-
  Plain laws of In and Pick by In.
-/
import Derived.Test.YtfbloddffhafdaaFpp
namespace Go.Proofs.Ytfbloddffhafdaa
open Go.RowKit

theorem isIn_app (ys zs : List Int) (x : Int) : isIn (ys ++ zs) x = max (isIn ys x) (isIn zs x) := by
  unfold isIn
  by_cases h1 : x ∈ ys
  · have e1 : (ys ++ zs).elem x = true := List.elem_eq_true_of_mem (List.mem_append_left _ h1)
    have e2 : ys.elem x = true := List.elem_eq_true_of_mem h1
    rw [e1, e2]
    by_cases h2 : zs.elem x = true
    · rw [if_pos rfl, if_pos h2]; decide
    · rw [if_pos rfl, if_neg h2]; decide
  · have e2 : ys.elem x = false := by rw [Bool.eq_false_iff]; exact fun g => h1 (List.mem_of_elem_eq_true g)
    by_cases h2 : x ∈ zs
    · have e1 : (ys ++ zs).elem x = true := List.elem_eq_true_of_mem (List.mem_append_right _ h2)
      have e3 : zs.elem x = true := List.elem_eq_true_of_mem h2
      rw [e1, e2, e3]; decide
    · have e1 : (ys ++ zs).elem x = false := by
        rw [Bool.eq_false_iff]
        intro g
        rcases List.mem_append.1 (List.mem_of_elem_eq_true g) with g | g
        · exact h1 g
        · exact h2 g
      have e3 : zs.elem x = false := by rw [Bool.eq_false_iff]; exact fun g => h2 (List.mem_of_elem_eq_true g)
      rw [e1, e2, e3]; decide
/-- The cells that a list has. -/
def keepL (ys xs : List Int) : List Int := xs.filter (fun x => ys.elem x)
theorem pick_keep (ys xs : List Int) : pickL (xs.map (isIn ys)) xs = keepL ys xs := by
  induction xs with
  | nil => rfl
  | cons x xs ih =>
    unfold keepL at *
    by_cases h : ys.elem x = true
    · have e : isIn ys x = 1 := by unfold isIn; rw [if_pos h]
      rw [List.map_cons, e, List.filter_cons_of_pos (p := fun x => ys.elem x) h, ← ih]
      rfl
    · have e : isIn ys x = 0 := by unfold isIn; rw [if_neg h]
      rw [List.map_cons, e, List.filter_cons_of_neg (p := fun x => ys.elem x) h, ← ih]
      rfl
theorem keepL_len_le (ys xs : List Int) : (keepL ys xs).length ≤ xs.length := List.length_filter_le _ _
theorem keepL_in {ys xs : List Int} {i : Nat} (hi : i < xs.length) (h : ys.elem (xs.getD i 0) = true) :
    (keepL ys (xs.take i)).length < (keepL ys xs).length ∧ (keepL ys xs).getD (keepL ys (xs.take i)).length 0 = xs.getD i 0 ∧ (keepL ys (xs.take (i + 1))).length = (keepL ys (xs.take i)).length + 1 := by
  have h1 : keepL ys xs = keepL ys (xs.take i) ++ (xs.getD i 0 :: keepL ys (xs.drop (i + 1))) := by
    have e : xs = xs.take i ++ (xs.getD i 0 :: xs.drop (i + 1)) := by
      rw [getD_get hi, List.getElem_cons_drop, List.take_append_drop]
    unfold keepL
    conv => lhs; rw [e]
    rw [List.filter_append, List.filter_cons_of_pos (p := fun x => ys.elem x) h]
  refine ⟨by rw [h1]; simp, by rw [h1]; simp, ?_⟩
  rw [← getD_set_last hi]
  unfold keepL
  rw [List.filter_append, List.length_append, List.filter_cons_of_pos (p := fun x => ys.elem x) h]
  simp
theorem keepL_out {ys xs : List Int} {i : Nat} (hi : i < xs.length) (h : ys.elem (xs.getD i 0) = false) : (keepL ys (xs.take (i + 1))).length = (keepL ys (xs.take i)).length := by
  rw [← getD_set_last hi]
  unfold keepL
  rw [List.filter_append, List.length_append, List.filter_cons_of_neg (p := fun x => ys.elem x) (by rw [h]; decide)]
  simp
theorem elem_snoc {ys : List Int} {n : Nat} (hn : n < ys.length) (x : Int) : (ys.take (n + 1)).elem x = ((ys.take n).elem x || x == ys.getD n 0) := by
  rw [← getD_set_last hn]
  by_cases h : x ∈ ys.take n
  · rw [List.elem_eq_true_of_mem h, List.elem_eq_true_of_mem (List.mem_append_left _ h)]; rfl
  · have e : (ys.take n).elem x = false := by rw [Bool.eq_false_iff]; exact fun g => h (List.mem_of_elem_eq_true g)
    rw [e, Bool.false_or]
    by_cases g : x = ys.getD n 0
    · rw [g, List.elem_eq_true_of_mem (List.mem_append_right _ (by simp))]; simp
    · have e1 : (ys.take n ++ [ys.getD n 0]).elem x = false := by
        rw [Bool.eq_false_iff]
        intro q
        rcases List.mem_append.1 (List.mem_of_elem_eq_true q) with q | q
        · exact h q
        · exact g (by simpa using q)
      rw [e1]; simpa using g
end Go.Proofs.Ytfbloddffhafdaa

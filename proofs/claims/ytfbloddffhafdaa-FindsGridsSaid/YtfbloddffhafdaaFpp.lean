/-
  Plain laws of Pick.
-/
import Derived.Test.YtfbloddffhafdaaFok
namespace Go.Proofs.Ytfbloddffhafdaa
open Go.RowKit

/-- How many are not 0. -/
def cnt0 (ms : List Int) : Nat := ms.countP (fun m => decide (m ≠ 0))
/-- The mask of what is left out. -/
def othL (ms : List Int) : List Int := ms.map (fun m => if m = 0 then 1 else 0)
theorem othL_len (ms : List Int) : (othL ms).length = ms.length := by simp [othL]
theorem cnt0_le (ms : List Int) : cnt0 ms ≤ ms.length := List.countP_le_length
theorem cnt0_snoc (ms : List Int) (m : Int) : cnt0 (ms ++ [m]) = cnt0 ms + if m = 0 then 0 else 1 := by
  unfold cnt0; rw [List.countP_append]
  by_cases h : m = 0 <;> simp [h]
theorem othL_snoc (ms : List Int) (m : Int) : othL (ms ++ [m]) = othL ms ++ [if m = 0 then 1 else 0] := by simp [othL]
theorem pickL_len (ms xs : List Int) (h : ms.length = xs.length) : (pickL ms xs).length = cnt0 ms := by
  induction ms generalizing xs with
  | nil => simp [pickL, cnt0]
  | cons m ms ih =>
    cases xs with
    | nil => simp at h
    | cons x xs =>
      have := ih xs (by simpa using h)
      unfold cnt0 at *
      by_cases hm : m = 0 <;> simp [pickL, hm, this]
theorem cnt0_cons (m : Int) (ms : List Int) : cnt0 (m :: ms) = cnt0 ms + if m = 0 then 0 else 1 := by
  unfold cnt0
  rw [List.countP_cons]
  by_cases h : m = 0 <;> simp [h]
theorem cnt0_oth (ms : List Int) : cnt0 (othL ms) + cnt0 ms = ms.length := by
  induction ms with
  | nil => rfl
  | cons m ms ih =>
    have e : othL (m :: ms) = (if m = 0 then 1 else 0) :: othL ms := rfl
    rw [e, cnt0_cons, cnt0_cons, List.length_cons]
    by_cases hm : m = 0
    · rw [if_pos hm, if_pos hm, if_neg (by decide)]; omega
    · rw [if_neg hm, if_neg hm, if_pos rfl]; omega
theorem pickL_map (f : Int → Int) (ms xs : List Int) : pickL ms (xs.map f) = (pickL ms xs).map f := by
  induction ms generalizing xs with
  | nil => simp [pickL]
  | cons m ms ih =>
    cases xs with
    | nil => simp [pickL]
    | cons x xs =>
      have := ih xs
      by_cases hm : m = 0 <;> simp [pickL, hm, this]
theorem pickL_mem (ms xs : List Int) : ∀ x ∈ pickL ms xs, x ∈ xs := by
  induction ms generalizing xs with
  | nil => intro x h; simp [pickL] at h
  | cons m ms ih =>
    cases xs with
    | nil => intro x h; simp [pickL] at h
    | cons y ys =>
      intro x h
      by_cases hm : m = 0
      · simp only [pickL, hm, if_true] at h
        exact List.mem_cons_of_mem _ (ih ys x h)
      · simp only [pickL, hm, if_false] at h
        rcases List.mem_cons.1 h with rfl | h
        · exact List.mem_cons_self
        · exact List.mem_cons_of_mem _ (ih ys x h)
theorem iota_map (xs : List Int) : (iotaL xs.length).map (fun x => xs.getD x.toNat 0) = xs := by
  apply List.ext_getElem
  · rw [List.length_map, iotaL_len]
  · intro p h1 h2
    rw [← getD_get h1, ← getD_get h2, map_at _ _ _ (by rw [iotaL_len]; exact h2), iotaL_get _ _ h2, Int.toNat_natCast]
theorem pick_iota (ms xs : List Int) : (pickL ms (iotaL xs.length)).map (fun x => xs.getD x.toNat 0) = pickL ms xs := by
  rw [← pickL_map, iota_map]
theorem getD_set_last {l : List Int} {j : Nat} (h : j < l.length) : l.take j ++ [l.getD j 0] = l.take (j + 1) := by
  rw [getD_get h]
  exact (List.take_succ_eq_append_getElem h).symm
end Go.Proofs.Ytfbloddffhafdaa

/-
  The order of numbers, of lists, of arrays, as plain Lean functions. No program in sight.
-/
import Derived.Test.YtfbloddffhafdaaSpec
namespace Go.Proofs.Ytfbloddffhafdaa
def cmpI (a b : Int) : Int := if a < b then -1 else if b < a then 1 else 0
theorem cmpI_zero {a b : Int} : cmpI a b = 0 ↔ a = b := by
  unfold cmpI
  by_cases h : a < b
  · rw [if_pos h]; constructor
    · intro h2; cases h2
    · omega
  · rw [if_neg h]
    by_cases h2 : b < a
    · rw [if_pos h2]; constructor
      · intro h3; cases h3
      · omega
    · rw [if_neg h2]; constructor
      · omega
      · intro _; rfl
def cmpL : List Int → List Int → Int
  | [], [] => 0
  | [], _ :: _ => -1
  | _ :: _, [] => 1
  | x :: xs, y :: ys => if cmpI x y ≠ 0 then cmpI x y else cmpL xs ys
def orL : List Int → Int
  | [] => 0
  | x :: xs => if x ≠ 0 then x else orL xs
theorem drop_cons_getD {xs : List Int} {j : Nat} (h : j < xs.length) : xs.drop j = xs.getD j 0 :: xs.drop (j + 1) := by
  rw [List.drop_eq_getElem_cons h]
  simp [h]
theorem cmpL_step {xs ys : List Int} {j : Nat} (h : j < xs.length) (h' : j < ys.length) : cmpL (xs.drop j) (ys.drop j) = if cmpI (xs.getD j 0) (ys.getD j 0) ≠ 0 then cmpI (xs.getD j 0) (ys.getD j 0) else cmpL (xs.drop (j + 1)) (ys.drop (j + 1)) := by
  rw [drop_cons_getD h, drop_cons_getD h']
  rfl
theorem cmpL_more {xs ys : List Int} {j : Nat} (h : j < xs.length) (h' : ys.length ≤ j) : cmpL (xs.drop j) (ys.drop j) = 1 := by
  rw [drop_cons_getD h, List.drop_eq_nil_of_le h']
  rfl
theorem cmpL_less {xs ys : List Int} {j : Nat} (h : xs.length ≤ j) (h' : j < ys.length) : cmpL (xs.drop j) (ys.drop j) = -1 := by
  rw [drop_cons_getD h', List.drop_eq_nil_of_le h]
  rfl
theorem cmpL_end {xs ys : List Int} {j : Nat} (h : xs.length ≤ j) (h' : ys.length ≤ j) : cmpL (xs.drop j) (ys.drop j) = 0 := by
  rw [List.drop_eq_nil_of_le h', List.drop_eq_nil_of_le h]
  rfl
theorem orL_step {xs : List Int} {j : Nat} (h : j < xs.length) : orL (xs.drop j) = if xs.getD j 0 ≠ 0 then xs.getD j 0 else orL (xs.drop (j + 1)) := by
  rw [drop_cons_getD h]
  rfl
def chkB (a : Arr) : Int := achk a.k a.r a.l0 a.l1 a.c
def sCompare (a b : Arr) : Int × Int :=
  if chkB a ≠ 0 then (0, chkB a)
  else if chkB b ≠ 0 then (0, chkB b)
  else (orL [cmpI a.k b.k, cmpI a.r b.r, cmpL [a.l0, a.l1] [b.l0, b.l1], cmpL a.c b.c], 0)
/-- The first difference of two lists, as far as both go. -/
def cmpM : List Int → List Int → Int
  | x :: xs, y :: ys => if cmpI x y ≠ 0 then cmpI x y else cmpM xs ys
  | _, _ => 0
theorem cmpM_step {xs ys : List Int} {j : Nat} (h : j < xs.length) (h' : j < ys.length) : cmpM (xs.drop j) (ys.drop j) = if cmpI (xs.getD j 0) (ys.getD j 0) ≠ 0 then cmpI (xs.getD j 0) (ys.getD j 0) else cmpM (xs.drop (j + 1)) (ys.drop (j + 1)) := by
  rw [drop_cons_getD h, drop_cons_getD h']
  rfl
theorem cmpM_nil (xs : List Int) : cmpM xs [] = 0 := by cases xs <;> rfl
theorem cmpM_end {xs ys : List Int} {j : Nat} (h : xs.length ≤ j ∨ ys.length ≤ j) : cmpM (xs.drop j) (ys.drop j) = 0 := by
  rcases h with h | h
  · rw [List.drop_eq_nil_of_le h]; rfl
  · rw [List.drop_eq_nil_of_le h]; exact cmpM_nil _
theorem cmpM_same {xs ys : List Int} (h : xs.length = ys.length) : cmpM xs ys = cmpL xs ys := by
  induction xs generalizing ys with
  | nil =>
    cases ys with
    | nil => rfl
    | cons y ys => cases h
  | cons x xs ih =>
    cases ys with
    | nil => cases h
    | cons y ys =>
      simp only [List.length_cons, Nat.add_right_cancel_iff] at h
      simp only [cmpM, cmpL, ih h]
theorem orL_four (a b c d : Int) : orL [a, b, c, d] = if a ≠ 0 then a else if b ≠ 0 then b else if c ≠ 0 then c else d := by
  simp only [orL]
  by_cases h : d = 0 <;> simp [h]
/-- The reference's list of an array answers as the parts one behind the other. -/
theorem refCompare {a b : Arr} (ha : chkB a = 0) (hb : chkB b = 0) :
    cmpM ([a.k, a.r, a.l0, a.l1] ++ a.c) ([b.k, b.r, b.l0, b.l1] ++ b.c) = orL [cmpI a.k b.k, cmpI a.r b.r, cmpL [a.l0, a.l1] [b.l0, b.l1], cmpL a.c b.c] := by
  rw [orL_four]
  simp only [List.cons_append, List.nil_append, cmpM, cmpL]
  by_cases h0 : cmpI a.k b.k = 0
  · by_cases h1 : cmpI a.r b.r = 0
    · by_cases h2 : cmpI a.l0 b.l0 = 0
      · by_cases h3 : cmpI a.l1 b.l1 = 0
        · simp only [h0, h1, h2, h3, ne_eq, not_true, if_false]
          apply cmpM_same
          have e0 := cmpI_zero.1 h0
          have e1 := cmpI_zero.1 h1
          have e2 := cmpI_zero.1 h2
          have e3 := cmpI_zero.1 h3
          have ha' := (achk_ok ha).2.2.1
          have hb' := (achk_ok hb).2.2.1
          rw [e1, e2, e3] at ha'
          omega
        · simp [h0, h1, h2, h3]
      · simp [h0, h1, h2]
    · simp [h0, h1]
  · simp [h0]
end Go.Proofs.Ytfbloddffhafdaa

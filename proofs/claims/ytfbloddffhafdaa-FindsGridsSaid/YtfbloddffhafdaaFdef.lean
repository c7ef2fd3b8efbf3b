/-
  The document's words as plain Lean functions: chapter 8 (finds).
-/
import Derived.Test.YtfbloddffhafdaaAdef
import Derived.Test.YtfbloddffhafdaaFchk
namespace Go.Proofs.Ytfbloddffhafdaa
open Go.RowKit

def sShape (a : Arr) : Arr × Int := if chkA a ≠ 0 then (zA, chkA a) else (⟨1, 1, a.r, 0, [a.l0, a.l1].take a.r.toNat⟩, 0)
/-- The first numbers. -/
def iotaL (n : Nat) : List Int := (List.range n).map Int.ofNat
def iotaE (a : Arr) : Int := fE (a.k == 1) (a.r == 0) (chkA a)
def sIota (a : Arr) : Arr × Int :=
  if iotaE a ≠ 0 then (zA, iotaE a)
  else if a.c.getD 0 0 < 0 then (zA, 13)
  else if 400 < a.c.getD 0 0 then (zA, 15)
  else (⟨1, 1, a.c.getD 0 0, 0, iotaL (a.c.getD 0 0).toNat⟩, 0)
def atE (v i : Arr) : Int := fE (i.k == 1) (v.r == 1 && decide (i.r < 2)) (orE (chkA v) (chkA i))
/-- Whether a place is a cell's. -/
def inR (n : Nat) (x : Int) : Bool := decide (0 ≤ x ∧ x < n)
def sFAt (v i : Arr) : Arr × Int :=
  if atE v i ≠ 0 then (zA, atE v i)
  else if i.c.all (inR v.c.length) = false then (zA, 14)
  else (⟨v.k, i.r, i.l0, i.l1, i.c.map (fun x => v.c.getD x.toNat 0)⟩, 0)
def inE (a v : Arr) : Int := fE (a.k == v.k) (v.r == 1) (orE (chkA a) (chkA v))
/-- 1 for a cell that a list has, 0 for another one. -/
def isIn (l : List Int) (x : Int) : Int := if l.elem x then 1 else 0
def sFIn (a v : Arr) : Arr × Int := if inE a v ≠ 0 then (zA, inE a v) else (⟨1, a.r, a.l0, a.l1, a.c.map (isIn v.c)⟩, 0)
def pickE (m v : Arr) : Int := fE (m.k == 1) (m.r == 1 && v.r == 1) (orE (chkA m) (chkA v))
/-- The cells where a mask is not 0. -/
def pickL : List Int → List Int → List Int
  | m :: ms, x :: xs => if m = 0 then pickL ms xs else x :: pickL ms xs
  | _, _ => []
def sPick (m v : Arr) : Arr × Int :=
  if pickE m v ≠ 0 then (zA, pickE m v)
  else if m.c.length ≠ v.c.length then (zA, 11)
  else (⟨v.k, 1, (pickL m.c v.c).length, 0, pickL m.c v.c⟩, 0)
def gradeE (v : Arr) : Int := fE (v.k == 1) (v.r == 1) (chkA v)
/-- The order of places by their cells; of equal cells the lesser place comes first. -/
def gLt (c : List Int) (x y : Int) : Bool := decide (c.getD x.toNat 0 < c.getD y.toNat 0 ∨ (c.getD x.toNat 0 = c.getD y.toNat 0 ∧ x < y))
/-- A place into the order. -/
def gIns (c : List Int) (x : Int) : List Int → List Int
  | [] => [x]
  | y :: l => if gLt c x y then x :: y :: l else y :: gIns c x l
def gSort (c : List Int) : List Int → List Int
  | [] => []
  | x :: l => gIns c x (gSort c l)
def gradeL (c : List Int) : List Int := gSort c (iotaL c.length)
def sGrade (v : Arr) : Arr × Int := if gradeE v ≠ 0 then (zA, gradeE v) else (⟨1, 1, v.c.length, 0, gradeL v.c⟩, 0)

theorem orE_zero {a b : Int} (h : orE a b = 0) : a = 0 ∧ b = 0 := by
  unfold orE at h
  by_cases h0 : a = 0
  · rw [if_pos h0] at h; exact ⟨h0, h⟩
  · rw [if_neg h0] at h; exact absurd h h0
theorem iotaL_len (n : Nat) : (iotaL n).length = n := by simp [iotaL]
theorem iotaL_get (n j : Nat) (h : j < n) : (iotaL n).getD j 0 = (j : Int) := by
  simp [iotaL, h]
theorem iotaL_succ (n : Nat) : iotaL (n + 1) = iotaL n ++ [(n : Int)] := by
  simp [iotaL, List.range_succ]
theorem pickL_len_le (m v : List Int) : (pickL m v).length ≤ v.length := by
  induction m generalizing v with
  | nil => simp [pickL]
  | cons a l ih =>
    cases v with
    | nil => simp [pickL]
    | cons x xs =>
      simp only [pickL]
      have := ih xs
      split <;> simp <;> omega
theorem pickL_snoc (m v : List Int) (a x : Int) (h : m.length = v.length) : pickL (m ++ [a]) (v ++ [x]) = pickL m v ++ if a = 0 then [] else [x] := by
  induction m generalizing v with
  | nil =>
    cases v with
    | nil => simp [pickL]
    | cons _ _ => simp at h
  | cons b l ih =>
    cases v with
    | nil => simp at h
    | cons y ys =>
      have := ih ys (by simpa using h)
      simp only [List.cons_append, pickL, this]
      split <;> simp
end Go.Proofs.Ytfbloddffhafdaa

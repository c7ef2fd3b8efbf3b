/-
  The document's words as plain Lean functions: moves (chapter 7). No program in sight.
-/
import Derived.Test.YtoapgknkenlcgaaMchk
import Derived.Test.YtoapgknkenlcgaaBase2
namespace Go.Proofs.Ytoapgknkenlcgaa
open Go.RowKit
def zA : Arr := ⟨0, 0, 0, 0, []⟩
def vecA (k : Int) (c : List Int) : Arr := ⟨k, 1, c.length, 0, c⟩
def matA (k m n : Int) (c : List Int) : Arr := ⟨k, 2, m, n, c⟩
/-- The error number of an array. -/
def chkA (a : Arr) : Int := achk a.k a.r a.l0 a.l1 a.c
/-- Where a vector of m cells is cut, for the number x. -/
def cutAt (x : Int) (m : Nat) : Nat := if x < 0 then (max ((m : Int) + x) 0).toNat else (min x m).toNat
def sTake (n v : Arr) : Arr × Int :=
  if twoE n v 0 1 ≠ 0 then (zA, twoE n v 0 1)
  else if n.c.getD 0 0 < 0 then (vecA v.k (v.c.drop (cutAt (n.c.getD 0 0) v.c.length)), 0)
  else (vecA v.k (v.c.take (cutAt (n.c.getD 0 0) v.c.length)), 0)
def sDrop (n v : Arr) : Arr × Int :=
  if twoE n v 0 1 ≠ 0 then (zA, twoE n v 0 1)
  else if n.c.getD 0 0 < 0 then (vecA v.k (v.c.take (cutAt (n.c.getD 0 0) v.c.length)), 0)
  else (vecA v.k (v.c.drop (cutAt (n.c.getD 0 0) v.c.length)), 0)
def sFill (n s : Arr) : Arr × Int :=
  if twoE n s 0 0 ≠ 0 then (zA, twoE n s 0 0)
  else if n.c.getD 0 0 < 0 then (zA, 13)
  else if 400 < n.c.getD 0 0 then (zA, 15)
  else (vecA s.k (List.replicate (n.c.getD 0 0).toNat (s.c.getD 0 0)), 0)
/-- The error number of the lengths of a grid. -/
def lensE (l : List Int) : Int :=
  if l.length ≠ 2 then 11
  else if l.getD 0 0 < 0 ∨ l.getD 1 0 < 0 then 13
  else if 400 < l.getD 0 0 ∨ 400 < l.getD 1 0 ∨ 400 < l.getD 0 0 * l.getD 1 0 then 15
  else 0
/-- n cells, again and again those of c. -/
def again (c : List Int) (n : Nat) : List Int := (List.range n).map fun i => c.getD (i % c.length) 0
def sGrid (l v : Arr) : Arr × Int :=
  if twoE l v 1 1 ≠ 0 then (zA, twoE l v 1 1)
  else if lensE l.c ≠ 0 then (zA, lensE l.c)
  else if v.c.length = 0 ∧ 0 < l.c.getD 0 0 * l.c.getD 1 0 then (zA, 13)
  else (matA v.k (l.c.getD 0 0) (l.c.getD 1 0) (again v.c (l.c.getD 0 0 * l.c.getD 1 0).toNat), 0)
/-- Row i of rows of n cells. -/
def rowOf (c : List Int) (n i : Nat) : List Int := (c.drop (i * n)).take n
/-- How many rows, and how many cells of each, an array of rank 1 or 2 has. -/
def rowsN (a : Arr) : Nat := if a.r = 2 then a.l0.toNat else 1
def colsN (a : Arr) : Nat := if a.r = 2 then a.l1.toNat else a.l0.toNat
def sCat (a b : Arr) : Arr × Int :=
  if orE (chkA a) (chkA b) ≠ 0 then (zA, orE (chkA a) (chkA b))
  else if a.k ≠ b.k then (zA, 21)
  else if a.r ≠ b.r ∨ a.r = 0 then (zA, 22)
  else if a.r = 2 ∧ a.l0 ≠ b.l0 then (zA, 11)
  else if 400 < a.c.length + b.c.length ∨ 400 < colsN a + colsN b then (zA, 15)
  else if a.r = 1 then (vecA a.k (a.c ++ b.c), 0)
  else (matA a.k a.l0 (a.l1 + b.l1) ((List.range (rowsN a)).flatMap fun i => rowOf a.c (colsN a) i ++ rowOf b.c (colsN b) i), 0)
def sRavel (a : Arr) : Arr × Int := if chkA a ≠ 0 then (zA, chkA a) else (vecA a.k a.c, 0)
def sReverse (a : Arr) : Arr × Int :=
  if chkA a ≠ 0 then (zA, chkA a)
  else if a.r = 0 then (zA, 22)
  else (⟨a.k, a.r, a.l0, a.l1, (List.range (rowsN a)).flatMap fun i => (rowOf a.c (colsN a) i).reverse⟩, 0)
def sFlip (a : Arr) : Arr × Int :=
  if chkA a ≠ 0 then (zA, chkA a)
  else if a.r ≠ 2 then (zA, 22)
  else (matA a.k a.l1 a.l0 ((List.range a.l1.toNat).flatMap fun k => (List.range a.l0.toNat).map fun i => a.c.getD (i * a.l1.toNat + k) 0), 0)

theorem twoE_ok {a b : Arr} {rank other : Int} (h : twoE a b rank other = 0) : chkA a = 0 ∧ chkA b = 0 ∧ a.k = 1 ∧ a.r = rank ∧ b.r = other := by
  unfold twoE at h
  split at h
  · rename_i h1; exact absurd h h1
  split at h
  · cases h
  split at h
  · cases h
  rename_i h1 h2 h3
  unfold orE at h1
  have h4 : achk a.k a.r a.l0 a.l1 a.c = 0 := by
    by_cases h5 : achk a.k a.r a.l0 a.l1 a.c = 0
    · exact h5
    · rw [if_neg h5] at h1; omega
  rw [if_pos h4] at h1
  exact ⟨h4, by unfold chkA; omega, by omega, by omega, by omega⟩
/-- A scalar has one cell. -/
theorem scalar_one {k r l0 l1 : Int} {xs : List Int} (h : achk k r l0 l1 xs = 0) (hr : r = 0) : ∃ x, xs = [x] := by
  obtain ⟨_, _, hl, _⟩ := achk_ok h
  subst hr
  simp [prodI] at hl
  match xs, hl with
  | [x], _ => exact ⟨x, rfl⟩
/-- A vector has as many cells as its length says. -/
theorem vector_len {k r l0 l1 : Int} {xs : List Int} (h : achk k r l0 l1 xs = 0) (hr : r = 1) : (xs.length : Int) = l0 ∧ l1 = 0 := by
  obtain ⟨_, hs, hl, _⟩ := achk_ok h
  subst hr
  simp [prodI] at hl
  rcases shp_ok hs with ⟨h1, _⟩ | ⟨_, _, _, h2⟩ | ⟨h1, _⟩
  · cases h1
  · exact ⟨hl, h2⟩
  · cases h1
theorem cutAt_le (x : Int) (m : Nat) : cutAt x m ≤ m := by
  unfold cutAt
  split <;> omega
theorem sTake_ok {n v : Arr} {x : Int} (h : twoE n v 0 1 = 0) (hx : n.c = [x]) : sTake n v = (vecA v.k (if x < 0 then v.c.drop (cutAt x v.c.length) else v.c.take (cutAt x v.c.length)), 0) := by
  unfold sTake
  rw [if_neg (fun h' => h' h), hx]
  show (if x < 0 then _ else _) = _
  by_cases hx0 : x < 0 <;> simp [hx0]
theorem sDrop_ok {n v : Arr} {x : Int} (h : twoE n v 0 1 = 0) (hx : n.c = [x]) : sDrop n v = (vecA v.k (if x < 0 then v.c.take (cutAt x v.c.length) else v.c.drop (cutAt x v.c.length)), 0) := by
  unfold sDrop
  rw [if_neg (fun h' => h' h), hx]
  show (if x < 0 then _ else _) = _
  by_cases hx0 : x < 0 <;> simp [hx0]
theorem sTake_err {n v : Arr} (h : twoE n v 0 1 ≠ 0) : sTake n v = (zA, twoE n v 0 1) := by unfold sTake; rw [if_pos h]
theorem sDrop_err {n v : Arr} (h : twoE n v 0 1 ≠ 0) : sDrop n v = (zA, twoE n v 0 1) := by unfold sDrop; rw [if_pos h]
/-- What a call that returns an array and an error number leaves. -/
def RetA (w0 : World) (R : Arr × Int) (e : Ending) (w' : World) : Prop :=
  (∃ A n c, e = .returned (.tuple #[.agg #[.int .i64 R.1.k, .int .i64 R.1.r, .int .i64 R.1.l0, .int .i64 R.1.l1, .slice A n c], .int .i64 R.2]) ∧ Sl w' A n c R.1.c ∧ New w0 A) ∧ Below w0.heap.size w0 w'
theorem RetA.mk {w0 w' : World} {k r l0 l1 ec : Int} {xs : List Int} {A : Option Addr} {n c : Nat} {R : Arr × Int} (hR : R = (⟨k, r, l0, l1, xs⟩, ec)) (hs : Sl w' A n c xs) (hn : New w0 A) (hb : Below w0.heap.size w0 w') :
    RetA w0 R (.returned (.tuple #[.agg #[.int .i64 k, .int .i64 r, .int .i64 l0, .int .i64 l1, .slice A n c], .int .i64 ec])) w' := by
  subst hR
  exact ⟨⟨A, n, c, rfl, hs, hn⟩, hb⟩
end Go.Proofs.Ytoapgknkenlcgaa

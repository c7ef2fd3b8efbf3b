/-
  The document's words as plain Lean functions: places, indices, rows, fits (chapter 5). No program in sight.
-/
import Derived.Test.YtfbloddffhafdaaSpec
namespace Go.Proofs.Ytfbloddffhafdaa
/-- The length of axis i; 1 beyond the rank. -/
def mst (r i l : Int) : Int := if i < r then l else 1
def sPlace (r l0 l1 x0 x1 : Int) : Int × Int :=
  if shp r l0 l1 ≠ 0 then (0, shp r l0 l1)
  else if x0 < 0 ∨ mst r 0 l0 ≤ x0 ∨ x1 < 0 ∨ mst r 1 l1 ≤ x1 then (0, 4)
  else (x0 * mst r 1 l1 + x1, 0)
def sIndex (r l0 l1 p : Int) : Int × Int × Int :=
  if shp r l0 l1 ≠ 0 then (0, 0, shp r l0 l1)
  else if p < 0 ∨ prodI r l0 l1 ≤ p then (0, 0, 4)
  else if r < 2 then (p, 0, 0)
  else (p / l1, p % l1, 0)
def sLens (r : Int) (xs : List Int) : Int × Int × Int :=
  if r < 0 ∨ 2 < r then (0, 0, 7)
  else if (xs.length : Int) ≠ r then (0, 0, 6)
  else if shp r (xs.getD 0 0) (xs.getD 1 0) ≠ 0 then (0, 0, shp r (xs.getD 0 0) (xs.getD 1 0))
  else (xs.getD 0 0, xs.getD 1 0, 0)
def sRows (r l0 l1 : Int) : Int × Int × Int :=
  if shp r l0 l1 ≠ 0 then (0, 0, shp r l0 l1)
  else if r = 2 then (l0, l1, 0)
  else if r = 1 then (1, l0, 0)
  else (1, 1, 0)
def sFits (ra a0 a1 rb b0 b1 : Int) : Int × Int × Int × Int :=
  if shp ra a0 a1 ≠ 0 then (0, 0, 0, shp ra a0 a1)
  else if shp rb b0 b1 ≠ 0 then (0, 0, 0, shp rb b0 b1)
  else if rb = 0 then (ra, a0, a1, 0)
  else if ra = 0 then (rb, b0, b1, 0)
  else if ra ≠ rb then (0, 0, 0, 6)
  else if a0 ≠ b0 ∨ a1 ≠ b1 then (0, 0, 0, 11)
  else (ra, a0, a1, 0)
def sFlipS (r l0 l1 : Int) : Int × Int × Int :=
  if shp r l0 l1 ≠ 0 then (0, 0, shp r l0 l1)
  else if r ≠ 2 then (0, 0, 6)
  else (l1, l0, 0)
end Go.Proofs.Ytfbloddffhafdaa

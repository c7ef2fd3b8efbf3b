/-
  The document's words as plain Lean functions: arrays (chapter 6); what a call leaves that returns an array.
-/
import Derived.Test.YtfbloddffhafdaaBase2
import Derived.Test.YtfbloddffhafdaaS5
import Derived.Test.YtfbloddffhafdaaProg
namespace Go.Proofs.Ytfbloddffhafdaa
open Go.RowKit
def zA : Arr := ⟨0, 0, 0, 0, []⟩
def chkA (a : Arr) : Int := achk a.k a.r a.l0 a.l1 a.c
/-- The place of a cell of an array, and the error number. -/
def sAtP (a : Arr) (x0 x1 : Int) : Int × Int := if chkA a ≠ 0 then (0, chkA a) else sPlace a.r a.l0 a.l1 x0 x1
def sAt (a : Arr) (x0 x1 : Int) : Int × Int := if (sAtP a x0 x1).2 ≠ 0 then (0, (sAtP a x0 x1).2) else (a.c.getD (sAtP a x0 x1).1.toNat 0, 0)
def sWith (a : Arr) (x0 x1 v : Int) : Arr × Int :=
  if (sAtP a x0 x1).2 ≠ 0 then (zA, (sAtP a x0 x1).2)
  else if rightB a.k v = false then (zA, 7)
  else (⟨a.k, a.r, a.l0, a.l1, a.c.set (sAtP a x0 x1).1.toNat v⟩, 0)
def sMake (a : Arr) : Arr × Int := if chkA a ≠ 0 then (zA, chkA a) else (a, 0)
def sZero (k r : Int) : Arr × Int :=
  if k ≠ 1 ∧ k ≠ 2 then (zA, 2)
  else if r < 0 ∨ 2 < r then (zA, 7)
  else if r = 0 then (⟨k, 0, 0, 0, [0]⟩, 0)
  else (⟨k, r, 0, 0, []⟩, 0)
/-- What a call that returns an array and an error number leaves. -/
def RetA (w0 : World) (R : Arr × Int) (e : Ending) (w' : World) : Prop :=
  (∃ A n c, e = .returned (.tuple #[.agg #[.int .i64 R.1.k, .int .i64 R.1.r, .int .i64 R.1.l0, .int .i64 R.1.l1, .slice A n c], .int .i64 R.2]) ∧ Sl w' A n c R.1.c ∧ New w0 A) ∧ Below w0.heap.size w0 w'
theorem RetA.mk {w0 w' : World} {k r l0 l1 ec : Int} {xs : List Int} {A : Option Addr} {n c : Nat} {R : Arr × Int} (hR : R = (⟨k, r, l0, l1, xs⟩, ec)) (hs : Sl w' A n c xs) (hn : New w0 A) (hb : Below w0.heap.size w0 w') :
    RetA w0 R (.returned (.tuple #[.agg #[.int .i64 k, .int .i64 r, .int .i64 l0, .int .i64 l1, .slice A n c], .int .i64 ec])) w' := by
  subst hR
  exact ⟨⟨A, n, c, rfl, hs, hn⟩, hb⟩
theorem RetA.flat {w0 w' : World} {k r l0 l1 ec : Int} {xs : List Int} {e : Ending} (h : RetA w0 (⟨k, r, l0, l1, xs⟩, ec) e w') :
    ∃ A n c, e = .returned (.tuple #[.agg #[.int .i64 k, .int .i64 r, .int .i64 l0, .int .i64 l1, .slice A n c], .int .i64 ec]) ∧ Sl w' A n c xs ∧ New w0 A ∧ Below w0.heap.size w0 w' := by
  obtain ⟨⟨A, n, c, he, hs, hn⟩, hb⟩ := h
  exact ⟨A, n, c, he, hs, hn, hb⟩
/-- What a call that returns an array leaves. -/
def RetV (w0 : World) (k r l0 l1 : Int) (xs : List Int) (e : Ending) (w' : World) : Prop :=
  (∃ A n c, e = .returned (.agg #[.int .i64 k, .int .i64 r, .int .i64 l0, .int .i64 l1, .slice A n c]) ∧ Sl w' A n c xs ∧ New w0 A) ∧ Below w0.heap.size w0 w'
theorem below_set5' {w0 w : World} (h : Below w0.heap.size w0 w) {B : Nat} (hB : w0.heap.size ≤ B) (v0 v1 v2 v3 v4 : Value) : Below w0.heap.size w0 (((((w.setCell ⟨B, 0, none⟩ v0).setCell ⟨B, 1, none⟩ v1).setCell ⟨B, 2, none⟩ v2).setCell ⟨B, 3, none⟩ v3).setCell ⟨B, 4, none⟩ v4) := below_set5 h hB _ _ _ _ _
theorem chkA_ok {k r l0 l1 : Int} {xs : List Int} (h : achk k r l0 l1 xs = 0) : shp r l0 l1 = 0 ∧ (xs.length : Int) = prodI r l0 l1 := by
  obtain ⟨_, h1, h2, _⟩ := achk_ok h
  exact ⟨h1, h2⟩
/-- Where a place is found it is a cell. -/
theorem atP_ok {a : Arr} {x0 x1 p : Int} (h : sAtP a x0 x1 = (p, 0)) : chkA a = 0 ∧ sPlace a.r a.l0 a.l1 x0 x1 = (p, 0) := by
  unfold sAtP at h
  split at h
  · rename_i hc
    simp only [Prod.mk.injEq] at h
    exact absurd h.2 hc
  · rename_i hc
    exact ⟨Decidable.not_not.1 hc, h⟩
end Go.Proofs.Ytfbloddffhafdaa

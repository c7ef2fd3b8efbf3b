/-
  The reference's Vector, Matrix, Two and taken.
-/
import Derived.Test.YtoapgknkenlcgaaMspec
import Derived.Test.YtoapgknkenlcgaaApp
namespace Go.Proofs.Ytoapgknkenlcgaa
open Go.RowKit

theorem Bx.grown {w w' : World} {B : Nat} {cs : Array Value} {T : TypeId} {row : Option Nat} (h : Bx w B cs T) (hg : w.grownBy w' row) (hne : some B ≠ row) : Bx w' B cs T := (hg.block B h.lt hne).trans h

/-- What a call that returns an array leaves. -/
def RetV (w0 : World) (k r l0 l1 : Int) (xs : List Int) (e : Ending) (w' : World) : Prop :=
  (∃ A n c, e = .returned (.agg #[.int .i64 k, .int .i64 r, .int .i64 l0, .int .i64 l1, .slice A n c]) ∧ Sl w' A n c xs ∧ New w0 A) ∧ Below w0.heap.size w0 w'

set_option maxHeartbeats 1000000 in
theorem rVector_any (k : Int) (A : Option Addr) (n c : Nat) (xs : List Int) (w : World) (hs : Sl w A n c xs) (hn : n ≤ 1000000) :
    Calls Try.prog 37 #[.int .i64 k, .slice A n c] w (RetV w k 1 n 0 xs) := by
  have HS := Lib.hid hs
  clear hs
  go_enter Try.func37, Try.ntmps37
  go_wp2_with (at_builtin; refine wpList_append_sl rfl _ _ rfl rfl (w.heap.size + 1) _ 0 [] rfl (ownEmpty (w.alloc (.cells #[.int .i64 0, .int .i64 0, .int .i64 0, .int .i64 0, .slice none 0 0] 25)) (w.heap.size + 1) (w.heap.size + 1) (by simp) (by simp)) A n c xs rfl (HS.out.step (below2 _ _ _)) (by omega) (by simp) ?_)
  intro A' c' w1 hg
  have X0 := (Bx.alloc (Bx.new w #[.int .i64 0, .int .i64 0, .int .i64 0, .int .i64 0, .slice none 0 0] 25) (.cells #[] 2)).grown hg.2.2 (by simp [Value.ownBlock])
  have b1 := hg.below (below2 w (.cells #[.int .i64 0, .int .i64 0, .int .i64 0, .int .i64 0, .slice none 0 0] 25) (.cells #[] 2)) (by simp [Value.ownBlock])
  have HF := hg.from
  have HN : New w A' := fun b o s e => by have := HF b o s e; omega
  have HS1 := Lib.hid hg.2.1
  clear hg
  have g0 := X0.cell
  have f0 := X0.frozen
  go_wp2
  refine retA (B := w.heap.size) rfl rfl rfl (X0.set5 _ _ _ _ _) ?_
  have hS := HS1.out
  refine ⟨⟨_, _, _, rfl, hS.past5 _ _ _ _ _ (fun b o e => by have := HF b o none e; omega), HN⟩, below_set5 b1 (Nat.le_refl _) _ _ _ _ _⟩
set_option maxHeartbeats 1000000 in
theorem rMatrix_any (k m p : Int) (A : Option Addr) (n c : Nat) (xs : List Int) (w : World) (hs : Sl w A n c xs) (hn : n ≤ 1000000) :
    Calls Try.prog 38 #[.int .i64 k, .int .i64 m, .int .i64 p, .slice A n c] w (RetV w k 2 m p xs) := by
  have HS := Lib.hid hs
  clear hs
  go_enter Try.func38, Try.ntmps38
  go_wp2_with (at_builtin; refine wpList_append_sl rfl _ _ rfl rfl (w.heap.size + 1) _ 0 [] rfl (ownEmpty (w.alloc (.cells #[.int .i64 0, .int .i64 0, .int .i64 0, .int .i64 0, .slice none 0 0] 25)) (w.heap.size + 1) (w.heap.size + 1) (by simp) (by simp)) A n c xs rfl (HS.out.step (below2 _ _ _)) (by omega) (by simp) ?_)
  intro A' c' w1 hg
  have X0 := (Bx.alloc (Bx.new w #[.int .i64 0, .int .i64 0, .int .i64 0, .int .i64 0, .slice none 0 0] 25) (.cells #[] 2)).grown hg.2.2 (by simp [Value.ownBlock])
  have b1 := hg.below (below2 w (.cells #[.int .i64 0, .int .i64 0, .int .i64 0, .int .i64 0, .slice none 0 0] 25) (.cells #[] 2)) (by simp [Value.ownBlock])
  have HF := hg.from
  have HN : New w A' := fun b o s e => by have := HF b o s e; omega
  have HS1 := Lib.hid hg.2.1
  clear hg
  have g0 := X0.cell
  have f0 := X0.frozen
  go_wp2
  refine retA (B := w.heap.size) rfl rfl rfl (X0.set5 _ _ _ _ _) ?_
  have hS := HS1.out
  refine ⟨⟨_, _, _, rfl, hS.past5 _ _ _ _ _ (fun b o e => by have := HF b o none e; omega), HN⟩, below_set5 b1 (Nat.le_refl _) _ _ _ _ _⟩
end Go.Proofs.Ytoapgknkenlcgaa

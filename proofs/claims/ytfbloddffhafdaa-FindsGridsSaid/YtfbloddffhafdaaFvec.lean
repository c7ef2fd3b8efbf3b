/-
  finds.vector, the reference's Vector and Scalar, the law's Int, Ints, is, Alike, Far.
-/
import Derived.Test.YtfbloddffhafdaaOwn
import Derived.Test.YtfbloddffhafdaaRet
import Derived.Test.YtfbloddffhafdaaRarr
import Derived.Test.YtfbloddffhafdaaSame
namespace Go.Proofs.Ytfbloddffhafdaa
open Go.RowKit

set_option maxHeartbeats 400000 in
theorem fvec_any (k : Int) (A : Option Addr) (n c : Nat) (w : World) :
    Calls Try.prog 35 #[.int .i64 k, .slice A n c] w fun e w' => e = .returned (.agg #[.int .i64 k, .int .i64 1, .int .i64 n, .int .i64 0, .slice A n c]) ∧ Below w.heap.size w w' := by
  go_enter Try.func35, Try.ntmps35
  go_wp2
  refine retA (B := w.heap.size) rfl rfl rfl (Bx.new _ _ _) ?_
  exact ⟨rfl, below1 _ _⟩
set_option maxHeartbeats 1000000 in
theorem rVector_any (k : Int) (A : Option Addr) (n c : Nat) (xs : List Int) (w : World) (hs : Sl w A n c xs) (hn : n ≤ 1000000) :
    Calls Try.prog 36 #[.int .i64 k, .slice A n c] w (RetV w k 1 n 0 xs) := by
  have HS := Lib.hid hs
  clear hs
  go_enter Try.func36, Try.ntmps36
  go_wp2_with (at_builtin; refine wpList_append_sl rfl _ _ rfl rfl (w.heap.size + 1) _ 0 [] rfl (ownEmpty (w.alloc (.cells #[.int .i64 0, .int .i64 0, .int .i64 0, .int .i64 0, .slice none 0 0] 25)) (w.heap.size + 1) (w.heap.size + 1) (by simp) (by simp)) A n c xs rfl (HS.out.step (below2 _ _ _)) (by omega) (by simp) ?_)
  intro A' c' w1 hg
  have X0 := (Bx.alloc (Bx.new w #[.int .i64 0, .int .i64 0, .int .i64 0, .int .i64 0, .slice none 0 0] 25) (.cells #[] 2)).grown hg.2.2 (by simp [Value.ownBlock])
  have b1 := hg.below (below2 w (.cells #[.int .i64 0, .int .i64 0, .int .i64 0, .int .i64 0, .slice none 0 0] 25) (.cells #[] 2)) (by simp [Value.ownBlock])
  have HF := hg.from
  have HN : New w A' := fun b o s e => by have := HF b o s e; omega
  have HS1 := Lib.hid hg.2.1
  clear hg
  have g0 := X0.cell
  have f0 := X0.frozen
  go_wp2
  refine retA (B := w.heap.size) rfl rfl rfl (X0.set5 _ _ _ _ _) ?_
  have hS := HS1.out
  refine ⟨⟨_, _, _, rfl, hS.past5 _ _ _ _ _ (fun b o e => by have := HF b o none e; omega), HN⟩, below_set5 b1 (Nat.le_refl _) _ _ _ _ _⟩
set_option maxHeartbeats 400000 in
theorem rScalar_any (k x : Int) (w : World) : Calls Try.prog 44 #[.int .i64 k, .int .i64 x] w (RetV w k 0 0 0 [x]) := by
  go_enter Try.func44, Try.ntmps44
  go_wp2
  refine retA (B := w.heap.size) rfl rfl rfl ((Bx.new _ _ _).alloc _) ?_
  refine ⟨⟨_, _, _, rfl, ?_, fun b o s e => by cases e; omega⟩, below2 _ _ _⟩
  have := Bx.new (w.alloc (.cells #[.int .i64 k, .int .i64 0, .int .i64 0, .int .i64 0, .slice (some ⟨w.heap.size + 1, 0, none⟩) 1 1] 25)) #[.int .i64 x] 2
  rw [World.size_alloc] at this
  exact Sl.of_box this rfl (by omega) (by decide) (fun j hj => by
    obtain rfl : j = 0 := by omega
    rfl)
set_option maxHeartbeats 1000000 in
theorem int_any (x : Int) (w : World) : Calls Try.prog 27 #[.int .i64 x] w (RetV w 1 0 0 0 [x]) := by
  go_enter Try.func27, Try.ntmps27
  go_wp2_with fail
  refine (rScalar_any 1 x _).mono ?_
  rintro e w1 ⟨⟨A, n, c, rfl, hS, hN⟩, hb1⟩
  obtain ⟨X0, b1⟩ := after1 hb1
  have c0 : ∀ i, w1.cell? ⟨w.heap.size, i, none⟩ = _ := Bx.cell X0
  have f0 : ∀ i, w1.frozen? ⟨w.heap.size, i, none⟩ = false := Bx.frozen X0
  have HS := Lib.hid hS
  have hN1 : ∀ b o, A = some ⟨b, o, none⟩ → b ≠ w.heap.size := fun b o e => by have := hN b o none e; simp at this; omega
  have hN2 : New w A := hN.mono (by simp)
  clear hS hN hb1
  go_wp2
  refine retA (B := w.heap.size) rfl rfl rfl (Bx.set5 X0 _ _ _ _ _) ?_
  exact ⟨⟨_, _, _, rfl, HS.out.past5 _ _ _ _ _ hN1, hN2⟩, below_set5 b1 (Nat.le_refl _) _ _ _ _ _⟩
set_option maxHeartbeats 1000000 in
theorem ints_any (A : Option Addr) (n c : Nat) (xs : List Int) (w : World) (hs : Sl w A n c xs) (hn : n ≤ 1000000) : Calls Try.prog 29 #[.slice A n c] w (RetV w 1 1 n 0 xs) := by
  have HS0 := Lib.hid hs
  clear hs
  go_enter Try.func29, Try.ntmps29
  go_wp2_with fail
  refine (rVector_any 1 A n c xs _ (HS0.out.step (below1 _ _)) hn).mono ?_
  rintro e w1 ⟨⟨A, n', c, rfl, hS, hN⟩, hb1⟩
  obtain ⟨X0, b1⟩ := after1 hb1
  have c0 : ∀ i, w1.cell? ⟨w.heap.size, i, none⟩ = _ := Bx.cell X0
  have f0 : ∀ i, w1.frozen? ⟨w.heap.size, i, none⟩ = false := Bx.frozen X0
  have HS := Lib.hid hS
  have hN1 : ∀ b o, A = some ⟨b, o, none⟩ → b ≠ w.heap.size := fun b o e => by have := hN b o none e; simp at this; omega
  have hN2 : New w A := hN.mono (by simp)
  clear hS hN hb1
  go_wp2
  refine retA (B := w.heap.size) rfl rfl rfl (Bx.set5 X0 _ _ _ _ _) ?_
  exact ⟨⟨_, _, _, rfl, HS.out.past5 _ _ _ _ _ hN1, hN2⟩, below_set5 b1 (Nat.le_refl _) _ _ _ _ _⟩
set_option maxHeartbeats 1000000 in
theorem is_true (k r l0 l1 : Int) (A : Option Addr) (n c : Nat) (xs : List Int) (A' : Option Addr) (n' c' : Nat) (w : World) (hs : Sl w A n c xs) (hs' : Sl w A' n' c' xs) :
    Calls Try.prog 28 #[.agg #[.int .i64 k, .int .i64 r, .int .i64 l0, .int .i64 l1, .slice A n c], .int .i64 0, .agg #[.int .i64 k, .int .i64 r, .int .i64 l0, .int .i64 l1, .slice A' n' c']] w fun e w' => e = .returned (.bool true) ∧ Below w.heap.size w w' := by
  have HS := Lib.hid hs
  have HS' := Lib.hid hs'
  clear hs hs'
  go_enter Try.func28, Try.ntmps28
  go_wp2_with fail
  refine (rsame_any _ _ _ _ _ _ _ xs _ _ _ _ _ _ _ xs true _ (HS.out.step (below2 _ _ _)) (HS'.out.step (below2 _ _ _)) (by simp)).mono ?_
  rintro e w1 ⟨rfl, hb1⟩
  go_wp2
  go_ret
  exact ⟨rfl, bst (below2 _ _ _) hb1⟩
set_option maxHeartbeats 1000000 in
theorem alike_true (k r l0 l1 ec : Int) (A : Option Addr) (n c : Nat) (xs : List Int) (A' : Option Addr) (n' c' : Nat) (w : World) (hs : Sl w A n c xs) (hs' : Sl w A' n' c' xs) :
    Calls Try.prog 17 #[.agg #[.int .i64 k, .int .i64 r, .int .i64 l0, .int .i64 l1, .slice A n c], .int .i64 ec, .agg #[.int .i64 k, .int .i64 r, .int .i64 l0, .int .i64 l1, .slice A' n' c'], .int .i64 ec] w fun e w' => e = .returned (.bool true) ∧ Below w.heap.size w w' := by
  have HS := Lib.hid hs
  have HS' := Lib.hid hs'
  clear hs hs'
  have hee : (ec == ec) = true := by simp
  go_enter Try.func17, Try.ntmps17
  go_wp2_with fail
  refine (rsame_any _ _ _ _ _ _ _ xs _ _ _ _ _ _ _ xs true _ (HS.out.step (below2 _ _ _)) (HS'.out.step (below2 _ _ _)) (by simp)).mono ?_
  rintro e w1 ⟨rfl, hb1⟩
  go_wp2
  go_ret
  exact ⟨rfl, bst (below2 _ _ _) hb1⟩
set_option maxHeartbeats 400000 in
theorem far_any (k r l0 l1 : Int) (A : Option Addr) (n c : Nat) (w : World) :
    Calls Try.prog 11 #[.agg #[.int .i64 k, .int .i64 r, .int .i64 l0, .int .i64 l1, .slice A n c]] w fun e w' => e = .returned (.bool (decide (405 < n))) ∧ Below w.heap.size w w' := by
  by_cases h : 405 < n
  · have h1 : (405 : Int) < (n : Int) := by omega
    go_enter Try.func11, Try.ntmps11
    go_wp2
    go_ret
    exact ⟨by rw [decide_eq_true h]; rfl, bal (Below.refl _ _) _⟩
  · have h1 : ¬ (405 : Int) < (n : Int) := by omega
    go_enter Try.func11, Try.ntmps11
    go_wp2
    go_ret
    exact ⟨by rfl, bal (Below.refl _ _) _⟩

end Go.Proofs.Ytfbloddffhafdaa

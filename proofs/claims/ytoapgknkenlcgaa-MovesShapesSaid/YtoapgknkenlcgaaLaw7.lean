/-
  The law's helpers: Int, Ints, is, fails, Alike, where they hold.
-/
import Derived.Test.YtoapgknkenlcgaaRsca
import Derived.Test.YtoapgknkenlcgaaSame
import Derived.Test.YtoapgknkenlcgaaRvec
namespace Go.Proofs.Ytoapgknkenlcgaa
open Go.RowKit

theorem RetA.flat {w0 w' : World} {k r l0 l1 ec : Int} {xs : List Int} {e : Ending} (h : RetA w0 (⟨k, r, l0, l1, xs⟩, ec) e w') :
    ∃ A n c, e = .returned (.tuple #[.agg #[.int .i64 k, .int .i64 r, .int .i64 l0, .int .i64 l1, .slice A n c], .int .i64 ec]) ∧ Sl w' A n c xs ∧ New w0 A ∧ Below w0.heap.size w0 w' := by
  obtain ⟨⟨A, n, c, he, hs, hn⟩, hb⟩ := h
  exact ⟨A, n, c, he, hs, hn, hb⟩
set_option maxHeartbeats 1000000 in
theorem int_any (x : Int) (w : World) : Calls Try.prog 30 #[.int .i64 x] w (RetV w 1 0 0 0 [x]) := by
  go_enter Try.func30, Try.ntmps30
  go_wp2_with fail
  refine (rScalar_any 1 x _).mono ?_
  rintro e w1 ⟨⟨A, n, c, rfl, hS, hN⟩, hb1⟩
  obtain ⟨X0, b1⟩ := after1 hb1
  have c0 : ∀ i, w1.cell? ⟨w.heap.size, i, none⟩ = _ := Bx.cell X0
  have f0 : ∀ i, w1.frozen? ⟨w.heap.size, i, none⟩ = false := Bx.frozen X0
  have HS := Lib.hid hS
  have hN1 : ∀ b o, A = some ⟨b, o, none⟩ → b ≠ w.heap.size := fun b o e => by have := hN b o none e; simp at this; omega
  have hN2 : New w A := hN.mono (by simp)
  clear hS hN hb1
  go_wp2
  refine retA (B := w.heap.size) rfl rfl rfl (Bx.set5 X0 _ _ _ _ _) ?_
  exact ⟨⟨_, _, _, rfl, HS.out.past5 _ _ _ _ _ hN1, hN2⟩, below_set5 b1 (Nat.le_refl _) _ _ _ _ _⟩
set_option maxHeartbeats 1000000 in
theorem ints_any (A : Option Addr) (n c : Nat) (xs : List Int) (w : World) (hs : Sl w A n c xs) (hn : n ≤ 1000000) : Calls Try.prog 35 #[.slice A n c] w (RetV w 1 1 n 0 xs) := by
  have HS0 := Lib.hid hs
  clear hs
  go_enter Try.func35, Try.ntmps35
  go_wp2_with fail
  refine (rVector_any 1 A n c xs _ (HS0.out.step (below1 _ _)) hn).mono ?_
  rintro e w1 ⟨⟨A, n', c, rfl, hS, hN⟩, hb1⟩
  obtain ⟨X0, b1⟩ := after1 hb1
  have c0 : ∀ i, w1.cell? ⟨w.heap.size, i, none⟩ = _ := Bx.cell X0
  have f0 : ∀ i, w1.frozen? ⟨w.heap.size, i, none⟩ = false := Bx.frozen X0
  have HS := Lib.hid hS
  have hN1 : ∀ b o, A = some ⟨b, o, none⟩ → b ≠ w.heap.size := fun b o e => by have := hN b o none e; simp at this; omega
  have hN2 : New w A := hN.mono (by simp)
  clear hS hN hb1
  go_wp2
  refine retA (B := w.heap.size) rfl rfl rfl (Bx.set5 X0 _ _ _ _ _) ?_
  exact ⟨⟨_, _, _, rfl, HS.out.past5 _ _ _ _ _ hN1, hN2⟩, below_set5 b1 (Nat.le_refl _) _ _ _ _ _⟩
set_option maxHeartbeats 1000000 in
theorem is_true (k r l0 l1 : Int) (A : Option Addr) (n c : Nat) (xs : List Int) (A' : Option Addr) (n' c' : Nat) (w : World) (hs : Sl w A n c xs) (hs' : Sl w A' n' c' xs) :
    Calls Try.prog 27 #[.agg #[.int .i64 k, .int .i64 r, .int .i64 l0, .int .i64 l1, .slice A n c], .int .i64 0, .agg #[.int .i64 k, .int .i64 r, .int .i64 l0, .int .i64 l1, .slice A' n' c']] w fun e w' => e = .returned (.bool true) ∧ Below w.heap.size w w' := by
  have HS := Lib.hid hs
  have HS' := Lib.hid hs'
  clear hs hs'
  go_enter Try.func27, Try.ntmps27
  go_wp2_with fail
  refine (rsame_any _ _ _ _ _ _ _ xs _ _ _ _ _ _ _ xs true _ (HS.out.step (below2 _ _ _)) (HS'.out.step (below2 _ _ _)) (by simp)).mono ?_
  rintro e w1 ⟨rfl, hb1⟩
  go_wp2
  go_ret
  exact ⟨rfl, bst (below2 _ _ _) hb1⟩
set_option maxHeartbeats 1000000 in
theorem alike_true (k r l0 l1 ec : Int) (A : Option Addr) (n c : Nat) (xs : List Int) (A' : Option Addr) (n' c' : Nat) (w : World) (hs : Sl w A n c xs) (hs' : Sl w A' n' c' xs) :
    Calls Try.prog 17 #[.agg #[.int .i64 k, .int .i64 r, .int .i64 l0, .int .i64 l1, .slice A n c], .int .i64 ec, .agg #[.int .i64 k, .int .i64 r, .int .i64 l0, .int .i64 l1, .slice A' n' c'], .int .i64 ec] w fun e w' => e = .returned (.bool true) ∧ Below w.heap.size w w' := by
  have HS := Lib.hid hs
  have HS' := Lib.hid hs'
  clear hs hs'
  have hee : (ec == ec) = true := by simp
  go_enter Try.func17, Try.ntmps17
  go_wp2_with fail
  refine (rsame_any _ _ _ _ _ _ _ xs _ _ _ _ _ _ _ xs true _ (HS.out.step (below2 _ _ _)) (HS'.out.step (below2 _ _ _)) (by simp)).mono ?_
  rintro e w1 ⟨rfl, hb1⟩
  go_wp2
  go_ret
  exact ⟨rfl, bst (below2 _ _ _) hb1⟩
set_option maxHeartbeats 1000000 in
theorem fails_true (ec : Int) (A : Option Addr) (c : Nat) (w : World) :
    Calls Try.prog 26 #[.agg #[.int .i64 0, .int .i64 0, .int .i64 0, .int .i64 0, .slice A 0 c], .int .i64 ec, .int .i64 ec] w fun e w' => e = .returned (.bool true) ∧ Below w.heap.size w w' := by
  have hee : (ec == ec) = true := by simp
  have hE : ∀ w, (Op.equalIn 10000 22 (.agg #[.int .i64 0, .int .i64 0]) (.agg #[.int .i64 0, .int .i64 0])).run Try.prog w = .ok true w := fun w => eqLens 0 0 0 0 w
  go_enter Try.func26, Try.ntmps26
  go_wp2
  go_ret
  exact ⟨rfl, bal (Below.refl _ _) _⟩
end Go.Proofs.Ytoapgknkenlcgaa

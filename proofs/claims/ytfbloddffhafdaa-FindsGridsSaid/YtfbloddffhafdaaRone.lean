/-
  The reference's one, has, Shape, Iota.
-/
import Derived.Test.YtfbloddffhafdaaFvec
import Derived.Test.YtfbloddffhafdaaFdef
import Derived.Test.YtfbloddffhafdaaFlib
namespace Go.Proofs.Ytfbloddffhafdaa
open Go.RowKit

set_option maxHeartbeats 400000 in
theorem rone_any (k r l0 l1 : Int) (A : Option Addr) (n c : Nat) (xs : List Int) (rank ec : Int) (w : World) (hs : Sl w A n c xs) (h : fE (k == 1) (r == rank) (achk k r l0 l1 xs) = ec) :
    Calls Try.prog 37 #[.agg #[.int .i64 k, .int .i64 r, .int .i64 l0, .int .i64 l1, .slice A n c], .int .i64 rank] w fun e w' => e = .returned (.int .i64 ec) ∧ Below w.heap.size w w' := by
  obtain ⟨e1, he1⟩ : ∃ ec, achk k r l0 l1 xs = ec := ⟨_, rfl⟩
  rw [he1] at h
  have HE := Lib.hid he1
  have HS := Lib.hid hs
  clear hs he1
  unfold fE at h
  by_cases h0 : e1 = 0
  · subst h0
    rw [if_neg (by simp)] at h
    by_cases hk : k = 1
    · subst hk
      rw [if_neg (by simp)] at h
      by_cases hr : r = rank
      · subst hr
        rw [if_neg (by simp)] at h
        subst h
        have hrr : (r != r) = false := by simp
        go_enter Try.func37, Try.ntmps37
        go_wp2_with fail
        refine (racheck_any _ _ _ _ _ _ _ xs _ _ (HS.out.step (below1 _ _)) HE.out).mono ?_
        rintro e w1 ⟨rfl, hb1⟩
        obtain ⟨X0, b1⟩ := after1 hb1
        have c0 : ∀ i, w1.cell? ⟨w.heap.size, i, none⟩ = _ := Bx.cell X0
        clear hb1
        go_wp2
        go_ret
        exact ⟨rfl, b1⟩
      · rw [if_pos (by simpa using hr)] at h
        subst h
        have hrr : (r != rank) = true := by simpa using hr
        clear hr
        go_enter Try.func37, Try.ntmps37
        go_wp2_with fail
        refine (racheck_any _ _ _ _ _ _ _ xs _ _ (HS.out.step (below1 _ _)) HE.out).mono ?_
        rintro e w1 ⟨rfl, hb1⟩
        obtain ⟨X0, b1⟩ := after1 hb1
        have c0 : ∀ i, w1.cell? ⟨w.heap.size, i, none⟩ = _ := Bx.cell X0
        clear hb1
        go_wp2
        go_ret
        exact ⟨rfl, b1⟩
    · rw [if_pos (by simpa using hk)] at h
      subst h
      have hkk : (k != 1) = true := by simpa using hk
      clear hk
      go_enter Try.func37, Try.ntmps37
      go_wp2_with fail
      refine (racheck_any _ _ _ _ _ _ _ xs _ _ (HS.out.step (below1 _ _)) HE.out).mono ?_
      rintro e w1 ⟨rfl, hb1⟩
      obtain ⟨X0, b1⟩ := after1 hb1
      have c0 : ∀ i, w1.cell? ⟨w.heap.size, i, none⟩ = _ := Bx.cell X0
      clear hb1
      go_wp2
      go_ret
      exact ⟨rfl, b1⟩
  · rw [if_pos h0] at h
    subst h
    have h00 : (e1 == 0) = false := by simpa using h0
    clear h0
    go_enter Try.func37, Try.ntmps37
    go_wp2_with fail
    refine (racheck_any _ _ _ _ _ _ _ xs _ _ (HS.out.step (below1 _ _)) HE.out).mono ?_
    rintro e w1 ⟨rfl, hb1⟩
    obtain ⟨X0, b1⟩ := after1 hb1
    have c0 : ∀ i, w1.cell? ⟨w.heap.size, i, none⟩ = _ := Bx.cell X0
    clear hb1
    go_wp2
    go_ret
    exact ⟨rfl, b1⟩
end Go.Proofs.Ytfbloddffhafdaa

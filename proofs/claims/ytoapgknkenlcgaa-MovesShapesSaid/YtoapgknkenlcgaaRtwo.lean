/-
  The reference's Two and taken.
-/
import Derived.Test.YtoapgknkenlcgaaRvec
namespace Go.Proofs.Ytoapgknkenlcgaa
open Go.RowKit

set_option maxHeartbeats 1000000 in
theorem rtwo_any (k r l0 l1 : Int) (A : Option Addr) (n c : Nat) (xs : List Int) (k' r' l0' l1' : Int) (A' : Option Addr) (n' c' : Nat) (ys : List Int) (rank other : Int) (ec : Int) (w : World)
    (hs : Sl w A n c xs) (hs' : Sl w A' n' c' ys) (h : twoE ⟨k, r, l0, l1, xs⟩ ⟨k', r', l0', l1', ys⟩ rank other = ec) :
    Calls Try.prog 40 #[.agg #[.int .i64 k, .int .i64 r, .int .i64 l0, .int .i64 l1, .slice A n c], .agg #[.int .i64 k', .int .i64 r', .int .i64 l0', .int .i64 l1', .slice A' n' c'], .int .i64 rank, .int .i64 other] w fun e w' => e = .returned (.int .i64 ec) ∧ Below w.heap.size w w' := by
  have HS := Lib.hid hs
  have HS' := Lib.hid hs'
  clear hs hs'
  obtain ⟨e1, h1⟩ : ∃ e1, achk k r l0 l1 xs = e1 := ⟨_, rfl⟩
  obtain ⟨e2, h2⟩ : ∃ e2, achk k' r' l0' l1' ys = e2 := ⟨_, rfl⟩
  have H1 := Lib.hid h1
  have H2 := Lib.hid h2
  unfold twoE at h
  simp only [h1, h2] at h
  clear h1 h2
  unfold orE at h
  by_cases z1 : e1 = 0
  · subst z1
    simp only [if_true] at h
    by_cases z2 : e2 = 0
    · subst z2
      rw [if_neg (by simp)] at h
      by_cases hk : k = 1
      · subst hk
        rw [if_neg (by simp)] at h
        by_cases hr : r = rank
        · subst hr
          by_cases hr' : r' = other
          · subst hr'
            rw [if_neg (by simp)] at h
            subst h
            go_enter Try.func40, Try.ntmps40
            go_wp2_with fail
            refine (racheck_any _ _ _ _ _ _ _ xs _ _ (HS.out.step (below2 _ _ _)) H1.out).mono ?_
            rintro e w1 ⟨rfl, hb1⟩
            obtain ⟨X0, X1, b1⟩ := after2 hb1
            clear hb1
            have c0 : ∀ i, w1.cell? ⟨w.heap.size, i, none⟩ = _ := Bx.cell X0
            have c1 : ∀ i, w1.cell? ⟨w.heap.size + 1, i, none⟩ = _ := Bx.cell X1
            go_wp2_with fail
            refine (racheck_any _ _ _ _ _ _ _ ys _ _ (HS'.out.step b1) H2.out).mono ?_
            rintro e w2 ⟨rfl, hb2⟩
            have b2 := bst b1 hb2
            have d0 : ∀ i, w2.cell? ⟨w.heap.size, i, none⟩ = _ := (Bx.step X0 hb2).cell
            have d1 : ∀ i, w2.cell? ⟨w.heap.size + 1, i, none⟩ = _ := (Bx.step X1 hb2).cell
            clear c0 c1
            go_wp2
            go_ret
            exact ⟨rfl, b2⟩
          · rw [if_pos (.inr hr')] at h
            subst h
            have hr2 : (r' != other) = true := by simpa using hr'
            clear hr'
            go_enter Try.func40, Try.ntmps40
            go_wp2_with fail
            refine (racheck_any _ _ _ _ _ _ _ xs _ _ (HS.out.step (below2 _ _ _)) H1.out).mono ?_
            rintro e w1 ⟨rfl, hb1⟩
            obtain ⟨X0, X1, b1⟩ := after2 hb1
            clear hb1
            have c0 : ∀ i, w1.cell? ⟨w.heap.size, i, none⟩ = _ := Bx.cell X0
            have c1 : ∀ i, w1.cell? ⟨w.heap.size + 1, i, none⟩ = _ := Bx.cell X1
            go_wp2_with fail
            refine (racheck_any _ _ _ _ _ _ _ ys _ _ (HS'.out.step b1) H2.out).mono ?_
            rintro e w2 ⟨rfl, hb2⟩
            have b2 := bst b1 hb2
            have d0 : ∀ i, w2.cell? ⟨w.heap.size, i, none⟩ = _ := (Bx.step X0 hb2).cell
            have d1 : ∀ i, w2.cell? ⟨w.heap.size + 1, i, none⟩ = _ := (Bx.step X1 hb2).cell
            clear c0 c1
            go_wp2
            go_ret
            exact ⟨rfl, b2⟩
        · rw [if_pos (.inl hr)] at h
          subst h
          have hr2 : (r != rank) = true := by simpa using hr
          clear hr
          go_enter Try.func40, Try.ntmps40
          go_wp2_with fail
          refine (racheck_any _ _ _ _ _ _ _ xs _ _ (HS.out.step (below2 _ _ _)) H1.out).mono ?_
          rintro e w1 ⟨rfl, hb1⟩
          obtain ⟨X0, X1, b1⟩ := after2 hb1
          clear hb1
          have c0 : ∀ i, w1.cell? ⟨w.heap.size, i, none⟩ = _ := Bx.cell X0
          have c1 : ∀ i, w1.cell? ⟨w.heap.size + 1, i, none⟩ = _ := Bx.cell X1
          go_wp2_with fail
          refine (racheck_any _ _ _ _ _ _ _ ys _ _ (HS'.out.step b1) H2.out).mono ?_
          rintro e w2 ⟨rfl, hb2⟩
          have b2 := bst b1 hb2
          have d0 : ∀ i, w2.cell? ⟨w.heap.size, i, none⟩ = _ := (Bx.step X0 hb2).cell
          have d1 : ∀ i, w2.cell? ⟨w.heap.size + 1, i, none⟩ = _ := (Bx.step X1 hb2).cell
          clear c0 c1
          go_wp2
          go_ret
          exact ⟨rfl, b2⟩
      · rw [if_pos hk] at h
        subst h
        have hk2 : (k != 1) = true := by simpa using hk
        clear hk
        go_enter Try.func40, Try.ntmps40
        go_wp2_with fail
        refine (racheck_any _ _ _ _ _ _ _ xs _ _ (HS.out.step (below2 _ _ _)) H1.out).mono ?_
        rintro e w1 ⟨rfl, hb1⟩
        obtain ⟨X0, X1, b1⟩ := after2 hb1
        clear hb1
        have c0 : ∀ i, w1.cell? ⟨w.heap.size, i, none⟩ = _ := Bx.cell X0
        have c1 : ∀ i, w1.cell? ⟨w.heap.size + 1, i, none⟩ = _ := Bx.cell X1
        go_wp2_with fail
        refine (racheck_any _ _ _ _ _ _ _ ys _ _ (HS'.out.step b1) H2.out).mono ?_
        rintro e w2 ⟨rfl, hb2⟩
        have b2 := bst b1 hb2
        have d0 : ∀ i, w2.cell? ⟨w.heap.size, i, none⟩ = _ := (Bx.step X0 hb2).cell
        have d1 : ∀ i, w2.cell? ⟨w.heap.size + 1, i, none⟩ = _ := (Bx.step X1 hb2).cell
        clear c0 c1
        go_wp2
        go_ret
        exact ⟨rfl, b2⟩
    · rw [if_pos z2] at h
      subst h
      have z3 : (e2 == 0) = false := by simpa using z2
      clear z2
      go_enter Try.func40, Try.ntmps40
      go_wp2_with fail
      refine (racheck_any _ _ _ _ _ _ _ xs _ _ (HS.out.step (below2 _ _ _)) H1.out).mono ?_
      rintro e w1 ⟨rfl, hb1⟩
      obtain ⟨X0, X1, b1⟩ := after2 hb1
      clear hb1
      have c0 : ∀ i, w1.cell? ⟨w.heap.size, i, none⟩ = _ := Bx.cell X0
      have c1 : ∀ i, w1.cell? ⟨w.heap.size + 1, i, none⟩ = _ := Bx.cell X1
      go_wp2_with fail
      refine (racheck_any _ _ _ _ _ _ _ ys _ _ (HS'.out.step b1) H2.out).mono ?_
      rintro e w2 ⟨rfl, hb2⟩
      have b2 := bst b1 hb2
      have d0 : ∀ i, w2.cell? ⟨w.heap.size, i, none⟩ = _ := (Bx.step X0 hb2).cell
      have d1 : ∀ i, w2.cell? ⟨w.heap.size + 1, i, none⟩ = _ := (Bx.step X1 hb2).cell
      clear c0 c1
      go_wp2
      go_ret
      exact ⟨rfl, b2⟩
  · rw [if_neg z1, if_pos z1] at h
    subst h
    have z3 : (e1 == 0) = false := by simpa using z1
    clear z1
    go_enter Try.func40, Try.ntmps40
    go_wp2_with fail
    refine (racheck_any _ _ _ _ _ _ _ xs _ _ (HS.out.step (below2 _ _ _)) H1.out).mono ?_
    rintro e w1 ⟨rfl, hb1⟩
    obtain ⟨X0, X1, b1⟩ := after2 hb1
    clear hb1
    have c0 : ∀ i, w1.cell? ⟨w.heap.size, i, none⟩ = _ := Bx.cell X0
    have c1 : ∀ i, w1.cell? ⟨w.heap.size + 1, i, none⟩ = _ := Bx.cell X1
    go_wp2
    go_ret
    exact ⟨rfl, b1⟩

/-- How many cells are taken. -/
def takenN (x : Int) (m : Nat) : Nat := if x < 0 then m - cutAt x m else cutAt x m
set_option maxHeartbeats 400000 in
theorem taken_any (x : Int) (m q : Nat) (w : World) (hq : takenN x m = q) (h0 : -9223372036854775808 ≤ x) (h1 : x ≤ 9223372036854775807) (hm : m ≤ 1000) :
    Calls Try.prog 41 #[.int .i64 x, .int .i64 m] w fun e w' => e = .returned (.tuple #[.int .i64 q, .bool (decide (x < 0))]) ∧ w' = w := by
  have HQ := Lib.hid hq
  clear hq
  by_cases hx : x < 0
  · by_cases hy : x < -(m : Int)
    · have hc : ((takenN x m : Nat) : Int) = (m : Int) := by unfold takenN cutAt; rw [if_pos hx, if_pos hx]; omega
      have HC := Lib.hid hc
      clear hc
      go_enter Try.func41, Try.ntmps41
      go_wp2
      go_ret2
      refine ⟨?_, rfl⟩
      rw [← HQ.out, HC.out]
      simp [hx]
    · have hc : ((takenN x m : Nat) : Int) = -x := by unfold takenN cutAt; rw [if_pos hx, if_pos hx]; omega
      have HC := Lib.hid hc
      clear hc
      go_enter Try.func41, Try.ntmps41
      go_wp2
      go_ret2
      refine ⟨?_, rfl⟩
      rw [← HQ.out, HC.out]
      simp
  · by_cases hy : x ≤ (m : Int)
    · have hc : ((takenN x m : Nat) : Int) = x := by unfold takenN cutAt; rw [if_neg hx, if_neg hx]; omega
      have HC := Lib.hid hc
      clear hc
      go_enter Try.func41, Try.ntmps41
      go_wp2
      go_ret2
      refine ⟨?_, rfl⟩
      rw [← HQ.out, HC.out]
      simp; omega
    · have hc : ((takenN x m : Nat) : Int) = (m : Int) := by unfold takenN cutAt; rw [if_neg hx, if_neg hx]; omega
      have HC := Lib.hid hc
      clear hc
      go_enter Try.func41, Try.ntmps41
      go_wp2
      go_ret2
      refine ⟨?_, rfl⟩
      rw [← HQ.out, HC.out]
      simp; omega
end Go.Proofs.Ytoapgknkenlcgaa

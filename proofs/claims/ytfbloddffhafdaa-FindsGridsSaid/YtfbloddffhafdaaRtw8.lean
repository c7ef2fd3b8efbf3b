/-
  The reference's Two.
-/
import Derived.Test.YtfbloddffhafdaaRsi
namespace Go.Proofs.Ytfbloddffhafdaa
open Go.RowKit

/-- The error number of two operands, the first of which must be an int array of a rank, the other one of another rank. -/
def twoE (a b : Arr) (rank other : Int) : Int :=
  if orE (achk a.k a.r a.l0 a.l1 a.c) (achk b.k b.r b.l0 b.l1 b.c) ≠ 0 then orE (achk a.k a.r a.l0 a.l1 a.c) (achk b.k b.r b.l0 b.l1 b.c)
  else if a.k ≠ 1 then 21
  else if a.r ≠ rank ∨ b.r ≠ other then 22
  else 0

set_option maxHeartbeats 1000000 in
theorem rtwo_any (k r l0 l1 : Int) (A : Option Addr) (n c : Nat) (xs : List Int) (k' r' l0' l1' : Int) (A' : Option Addr) (n' c' : Nat) (ys : List Int) (rank other : Int) (ec : Int) (w : World)
    (hs : Sl w A n c xs) (hs' : Sl w A' n' c' ys) (h : twoE ⟨k, r, l0, l1, xs⟩ ⟨k', r', l0', l1', ys⟩ rank other = ec) :
    Calls Try.prog 40 #[.agg #[.int .i64 k, .int .i64 r, .int .i64 l0, .int .i64 l1, .slice A n c], .agg #[.int .i64 k', .int .i64 r', .int .i64 l0', .int .i64 l1', .slice A' n' c'], .int .i64 rank, .int .i64 other] w fun e w' => e = .returned (.int .i64 ec) ∧ Below w.heap.size w w' := by
  have HS := Lib.hid hs
  have HS' := Lib.hid hs'
  clear hs hs'
  obtain ⟨e1, h1⟩ : ∃ e1, achk k r l0 l1 xs = e1 := ⟨_, rfl⟩
  obtain ⟨e2, h2⟩ : ∃ e2, achk k' r' l0' l1' ys = e2 := ⟨_, rfl⟩
  have H1 := Lib.hid h1
  have H2 := Lib.hid h2
  unfold twoE at h
  simp only [h1, h2] at h
  clear h1 h2
  unfold orE at h
  by_cases z1 : e1 = 0
  · subst z1
    simp only [if_true] at h
    by_cases z2 : e2 = 0
    · subst z2
      rw [if_neg (by simp)] at h
      by_cases hk : k = 1
      · subst hk
        rw [if_neg (by simp)] at h
        by_cases hr : r = rank
        · subst hr
          by_cases hr' : r' = other
          · subst hr'
            rw [if_neg (by simp)] at h
            subst h
            go_enter Try.func40, Try.ntmps40
            go_wp2_with fail
            refine (racheck_any _ _ _ _ _ _ _ xs _ _ (HS.out.step (below2 _ _ _)) H1.out).mono ?_
            rintro e w1 ⟨rfl, hb1⟩
            obtain ⟨X0, X1, b1⟩ := after2 hb1
            clear hb1
            have c0 : ∀ i, w1.cell? ⟨w.heap.size, i, none⟩ = _ := Bx.cell X0
            have c1 : ∀ i, w1.cell? ⟨w.heap.size + 1, i, none⟩ = _ := Bx.cell X1
            go_wp2_with fail
            refine (racheck_any _ _ _ _ _ _ _ ys _ _ (HS'.out.step b1) H2.out).mono ?_
            rintro e w2 ⟨rfl, hb2⟩
            have b2 := bst b1 hb2
            have d0 : ∀ i, w2.cell? ⟨w.heap.size, i, none⟩ = _ := (Bx.step X0 hb2).cell
            have d1 : ∀ i, w2.cell? ⟨w.heap.size + 1, i, none⟩ = _ := (Bx.step X1 hb2).cell
            clear c0 c1
            go_wp2
            go_ret
            exact ⟨rfl, b2⟩
          · rw [if_pos (.inr hr')] at h
            subst h
            have hr2 : (r' != other) = true := by simpa using hr'
            clear hr'
            go_enter Try.func40, Try.ntmps40
            go_wp2_with fail
            refine (racheck_any _ _ _ _ _ _ _ xs _ _ (HS.out.step (below2 _ _ _)) H1.out).mono ?_
            rintro e w1 ⟨rfl, hb1⟩
            obtain ⟨X0, X1, b1⟩ := after2 hb1
            clear hb1
            have c0 : ∀ i, w1.cell? ⟨w.heap.size, i, none⟩ = _ := Bx.cell X0
            have c1 : ∀ i, w1.cell? ⟨w.heap.size + 1, i, none⟩ = _ := Bx.cell X1
            go_wp2_with fail
            refine (racheck_any _ _ _ _ _ _ _ ys _ _ (HS'.out.step b1) H2.out).mono ?_
            rintro e w2 ⟨rfl, hb2⟩
            have b2 := bst b1 hb2
            have d0 : ∀ i, w2.cell? ⟨w.heap.size, i, none⟩ = _ := (Bx.step X0 hb2).cell
            have d1 : ∀ i, w2.cell? ⟨w.heap.size + 1, i, none⟩ = _ := (Bx.step X1 hb2).cell
            clear c0 c1
            go_wp2
            go_ret
            exact ⟨rfl, b2⟩
        · rw [if_pos (.inl hr)] at h
          subst h
          have hr2 : (r != rank) = true := by simpa using hr
          clear hr
          go_enter Try.func40, Try.ntmps40
          go_wp2_with fail
          refine (racheck_any _ _ _ _ _ _ _ xs _ _ (HS.out.step (below2 _ _ _)) H1.out).mono ?_
          rintro e w1 ⟨rfl, hb1⟩
          obtain ⟨X0, X1, b1⟩ := after2 hb1
          clear hb1
          have c0 : ∀ i, w1.cell? ⟨w.heap.size, i, none⟩ = _ := Bx.cell X0
          have c1 : ∀ i, w1.cell? ⟨w.heap.size + 1, i, none⟩ = _ := Bx.cell X1
          go_wp2_with fail
          refine (racheck_any _ _ _ _ _ _ _ ys _ _ (HS'.out.step b1) H2.out).mono ?_
          rintro e w2 ⟨rfl, hb2⟩
          have b2 := bst b1 hb2
          have d0 : ∀ i, w2.cell? ⟨w.heap.size, i, none⟩ = _ := (Bx.step X0 hb2).cell
          have d1 : ∀ i, w2.cell? ⟨w.heap.size + 1, i, none⟩ = _ := (Bx.step X1 hb2).cell
          clear c0 c1
          go_wp2
          go_ret
          exact ⟨rfl, b2⟩
      · rw [if_pos hk] at h
        subst h
        have hk2 : (k != 1) = true := by simpa using hk
        clear hk
        go_enter Try.func40, Try.ntmps40
        go_wp2_with fail
        refine (racheck_any _ _ _ _ _ _ _ xs _ _ (HS.out.step (below2 _ _ _)) H1.out).mono ?_
        rintro e w1 ⟨rfl, hb1⟩
        obtain ⟨X0, X1, b1⟩ := after2 hb1
        clear hb1
        have c0 : ∀ i, w1.cell? ⟨w.heap.size, i, none⟩ = _ := Bx.cell X0
        have c1 : ∀ i, w1.cell? ⟨w.heap.size + 1, i, none⟩ = _ := Bx.cell X1
        go_wp2_with fail
        refine (racheck_any _ _ _ _ _ _ _ ys _ _ (HS'.out.step b1) H2.out).mono ?_
        rintro e w2 ⟨rfl, hb2⟩
        have b2 := bst b1 hb2
        have d0 : ∀ i, w2.cell? ⟨w.heap.size, i, none⟩ = _ := (Bx.step X0 hb2).cell
        have d1 : ∀ i, w2.cell? ⟨w.heap.size + 1, i, none⟩ = _ := (Bx.step X1 hb2).cell
        clear c0 c1
        go_wp2
        go_ret
        exact ⟨rfl, b2⟩
    · rw [if_pos z2] at h
      subst h
      have z3 : (e2 == 0) = false := by simpa using z2
      clear z2
      go_enter Try.func40, Try.ntmps40
      go_wp2_with fail
      refine (racheck_any _ _ _ _ _ _ _ xs _ _ (HS.out.step (below2 _ _ _)) H1.out).mono ?_
      rintro e w1 ⟨rfl, hb1⟩
      obtain ⟨X0, X1, b1⟩ := after2 hb1
      clear hb1
      have c0 : ∀ i, w1.cell? ⟨w.heap.size, i, none⟩ = _ := Bx.cell X0
      have c1 : ∀ i, w1.cell? ⟨w.heap.size + 1, i, none⟩ = _ := Bx.cell X1
      go_wp2_with fail
      refine (racheck_any _ _ _ _ _ _ _ ys _ _ (HS'.out.step b1) H2.out).mono ?_
      rintro e w2 ⟨rfl, hb2⟩
      have b2 := bst b1 hb2
      have d0 : ∀ i, w2.cell? ⟨w.heap.size, i, none⟩ = _ := (Bx.step X0 hb2).cell
      have d1 : ∀ i, w2.cell? ⟨w.heap.size + 1, i, none⟩ = _ := (Bx.step X1 hb2).cell
      clear c0 c1
      go_wp2
      go_ret
      exact ⟨rfl, b2⟩
  · rw [if_neg z1, if_pos z1] at h
    subst h
    have z3 : (e1 == 0) = false := by simpa using z1
    clear z1
    go_enter Try.func40, Try.ntmps40
    go_wp2_with fail
    refine (racheck_any _ _ _ _ _ _ _ xs _ _ (HS.out.step (below2 _ _ _)) H1.out).mono ?_
    rintro e w1 ⟨rfl, hb1⟩
    obtain ⟨X0, X1, b1⟩ := after2 hb1
    clear hb1
    have c0 : ∀ i, w1.cell? ⟨w.heap.size, i, none⟩ = _ := Bx.cell X0
    have c1 : ∀ i, w1.cell? ⟨w.heap.size + 1, i, none⟩ = _ := Bx.cell X1
    go_wp2
    go_ret
    exact ⟨rfl, b1⟩


theorem twoE_fE (a b : Arr) : twoE a b 1 1 = fE (a.k == 1) (a.r == 1 && b.r == 1) (orE (chkA a) (chkA b)) := by
  unfold twoE fE chkA
  generalize orE (achk a.k a.r a.l0 a.l1 a.c) (achk b.k b.r b.l0 b.l1 b.c) = e
  by_cases h0 : e = 0 <;> by_cases h1 : a.k = 1 <;> by_cases h2 : a.r = 1 <;> by_cases h3 : b.r = 1 <;> simp [h0, h1, h2, h3]
end Go.Proofs.Ytfbloddffhafdaa

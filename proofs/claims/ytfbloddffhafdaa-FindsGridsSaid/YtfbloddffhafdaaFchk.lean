/-
  finds.check of one and of two arrays.
-/
import Derived.Test.YtfbloddffhafdaaSame
import Derived.Test.YtfbloddffhafdaaProg
namespace Go.Proofs.Ytfbloddffhafdaa
open Go.RowKit

/-- The first error number that is not 0. -/
def orE (a b : Int) : Int := if a = 0 then b else a
/-- What finds.check answers, given what is wrong with the operands themselves. -/
def fE (kb rb : Bool) (e : Int) : Int := if e ≠ 0 then e else if kb = false then 21 else if rb = false then 22 else 0
theorem fE_err {kb rb : Bool} {e : Int} (h : e ≠ 0) : fE kb rb e = e := if_pos h
theorem fE_kind {rb : Bool} : fE false rb 0 = 21 := rfl
theorem fE_rank : fE true false 0 = 22 := rfl
theorem fE_ok : fE true true 0 = 0 := rfl
theorem fE_zero {kb rb : Bool} {e : Int} (h : fE kb rb e = 0) : e = 0 ∧ kb = true ∧ rb = true := by
  unfold fE at h
  by_cases h0 : e = 0
  · rw [if_neg (fun g => g h0)] at h
    cases kb <;> cases rb <;> simp_all
  · rw [if_pos h0] at h
    exact absurd h h0

set_option maxHeartbeats 1000000 in
theorem fcheck1 (kb rb : Bool) (k r l0 l1 : Int) (A : Option Addr) (n c : Nat) (xs : List Int) (ec : Int) (B : Nat) (w : World) (hs : Sl w A n c xs) (hec : achk k r l0 l1 xs = ec)
    (hX : Bx w B #[.int .i64 k, .int .i64 r, .int .i64 l0, .int .i64 l1, .slice A n c] 25) :
    Calls Try.prog 34 #[.bool kb, .bool rb, .slice (some ⟨B, 0, none⟩) 1 1] w fun e w' => e = .returned (.int .i64 (fE kb rb ec)) ∧ Below w.heap.size w w' := by
  have HE := Lib.hid hec
  have HS := Lib.hid hs
  have hB := hX.lt
  clear hec hs
  have hcx : ∀ i, w.cell? ⟨B, i, none⟩ = _ := hX.cell
  by_cases h0 : ec = 0
  · subst h0
    cases kb
    · rw [fE_kind]
      go_enter Try.func34, Try.ntmps34
      go_wp2
      refine wp_loop_rounds 2 ?_
      rw [rounds_succ]
      go_wp2_with fail
      refine (acheck_any _ _ _ _ _ _ _ xs _ _ (HS.out.step (bal (Below.refl _ _) _)) HE.out).mono ?_
      rintro e w1 ⟨rfl, hb1⟩
      go_wp2
      rw [rounds_succ]
      go_wp2
      go_ret
      exact ⟨rfl, bst (bal (Below.refl _ _) _) hb1⟩
    · cases rb
      · rw [fE_rank]
        go_enter Try.func34, Try.ntmps34
        go_wp2
        refine wp_loop_rounds 2 ?_
        rw [rounds_succ]
        go_wp2_with fail
        refine (acheck_any _ _ _ _ _ _ _ xs _ _ (HS.out.step (bal (Below.refl _ _) _)) HE.out).mono ?_
        rintro e w1 ⟨rfl, hb1⟩
        go_wp2
        rw [rounds_succ]
        go_wp2
        go_ret
        exact ⟨rfl, bst (bal (Below.refl _ _) _) hb1⟩
      · rw [fE_ok]
        go_enter Try.func34, Try.ntmps34
        go_wp2
        refine wp_loop_rounds 2 ?_
        rw [rounds_succ]
        go_wp2_with fail
        refine (acheck_any _ _ _ _ _ _ _ xs _ _ (HS.out.step (bal (Below.refl _ _) _)) HE.out).mono ?_
        rintro e w1 ⟨rfl, hb1⟩
        go_wp2
        rw [rounds_succ]
        go_wp2
        go_ret
        exact ⟨rfl, bst (bal (Below.refl _ _) _) hb1⟩
  · rw [fE_err h0]
    have h0' : (ec != 0) = true := by simpa using h0
    clear h0
    go_enter Try.func34, Try.ntmps34
    go_wp2
    refine wp_loop_rounds 1 ?_
    rw [rounds_succ]
    go_wp2_with fail
    refine (acheck_any _ _ _ _ _ _ _ xs _ _ (HS.out.step (bal (Below.refl _ _) _)) HE.out).mono ?_
    rintro e w1 ⟨rfl, hb1⟩
    go_wp2
    go_ret
    exact ⟨rfl, bst (bal (Below.refl _ _) _) hb1⟩

set_option maxHeartbeats 1000000 in
theorem fcheck2 (kb rb : Bool) (k r l0 l1 : Int) (A : Option Addr) (n c : Nat) (xs : List Int) (k' r' l0' l1' : Int) (A' : Option Addr) (n' c' : Nat) (ys : List Int) (e1 e2 : Int) (B : Nat) (w : World)
    (hs : Sl w A n c xs) (hs' : Sl w A' n' c' ys) (h1 : achk k r l0 l1 xs = e1) (h2 : achk k' r' l0' l1' ys = e2)
    (hX : Bx w B #[.int .i64 k, .int .i64 r, .int .i64 l0, .int .i64 l1, .slice A n c, .int .i64 k', .int .i64 r', .int .i64 l0', .int .i64 l1', .slice A' n' c'] 25) :
    Calls Try.prog 34 #[.bool kb, .bool rb, .slice (some ⟨B, 0, none⟩) 2 2] w fun e w' => e = .returned (.int .i64 (fE kb rb (orE e1 e2))) ∧ Below w.heap.size w w' := by
  have H1 := Lib.hid h1
  have H2 := Lib.hid h2
  have HS := Lib.hid hs
  have HS' := Lib.hid hs'
  have hB := hX.lt
  clear h1 h2 hs hs'
  have hcx : ∀ i, w.cell? ⟨B, i, none⟩ = _ := hX.cell
  by_cases h0 : e1 = 0
  · subst h0
    have hor : orE 0 e2 = e2 := if_pos rfl
    rw [hor]
    clear hor
    by_cases h0 : e2 = 0
    · subst h0
      cases kb
      · rw [fE_kind]
        go_enter Try.func34, Try.ntmps34
        go_wp2
        refine wp_loop_rounds 3 ?_
        rw [rounds_succ]
        go_wp2_with fail
        refine (acheck_any _ _ _ _ _ _ _ xs _ _ (HS.out.step (bal (Below.refl _ _) _)) H1.out).mono ?_
        rintro e w1 ⟨rfl, hb1⟩
        have b1 : Below w.heap.size w w1 := bst (bal (Below.refl _ _) _) hb1
        have hcx1 : ∀ i, w1.cell? ⟨B, i, none⟩ = _ := (hX.step b1).cell
        go_wp2
        rw [rounds_succ]
        go_wp2_with fail
        refine (acheck_any _ _ _ _ _ _ _ ys _ _ (HS'.out.step (bal b1 _)) H2.out).mono ?_
        rintro e w2 ⟨rfl, hb2⟩
        go_wp2
        rw [rounds_succ]
        go_wp2
        go_ret
        exact ⟨rfl, bst (bal b1 _) hb2⟩
      · cases rb
        · rw [fE_rank]
          go_enter Try.func34, Try.ntmps34
          go_wp2
          refine wp_loop_rounds 3 ?_
          rw [rounds_succ]
          go_wp2_with fail
          refine (acheck_any _ _ _ _ _ _ _ xs _ _ (HS.out.step (bal (Below.refl _ _) _)) H1.out).mono ?_
          rintro e w1 ⟨rfl, hb1⟩
          have b1 : Below w.heap.size w w1 := bst (bal (Below.refl _ _) _) hb1
          have hcx1 : ∀ i, w1.cell? ⟨B, i, none⟩ = _ := (hX.step b1).cell
          go_wp2
          rw [rounds_succ]
          go_wp2_with fail
          refine (acheck_any _ _ _ _ _ _ _ ys _ _ (HS'.out.step (bal b1 _)) H2.out).mono ?_
          rintro e w2 ⟨rfl, hb2⟩
          go_wp2
          rw [rounds_succ]
          go_wp2
          go_ret
          exact ⟨rfl, bst (bal b1 _) hb2⟩
        · rw [fE_ok]
          go_enter Try.func34, Try.ntmps34
          go_wp2
          refine wp_loop_rounds 3 ?_
          rw [rounds_succ]
          go_wp2_with fail
          refine (acheck_any _ _ _ _ _ _ _ xs _ _ (HS.out.step (bal (Below.refl _ _) _)) H1.out).mono ?_
          rintro e w1 ⟨rfl, hb1⟩
          have b1 : Below w.heap.size w w1 := bst (bal (Below.refl _ _) _) hb1
          have hcx1 : ∀ i, w1.cell? ⟨B, i, none⟩ = _ := (hX.step b1).cell
          go_wp2
          rw [rounds_succ]
          go_wp2_with fail
          refine (acheck_any _ _ _ _ _ _ _ ys _ _ (HS'.out.step (bal b1 _)) H2.out).mono ?_
          rintro e w2 ⟨rfl, hb2⟩
          go_wp2
          rw [rounds_succ]
          go_wp2
          go_ret
          exact ⟨rfl, bst (bal b1 _) hb2⟩
    · rw [fE_err h0]
      have h0' : (e2 != 0) = true := by simpa using h0
      clear h0
      go_enter Try.func34, Try.ntmps34
      go_wp2
      refine wp_loop_rounds 2 ?_
      rw [rounds_succ]
      go_wp2_with fail
      refine (acheck_any _ _ _ _ _ _ _ xs _ _ (HS.out.step (bal (Below.refl _ _) _)) H1.out).mono ?_
      rintro e w1 ⟨rfl, hb1⟩
      have b1 : Below w.heap.size w w1 := bst (bal (Below.refl _ _) _) hb1
      have hcx1 : ∀ i, w1.cell? ⟨B, i, none⟩ = _ := (hX.step b1).cell
      go_wp2
      rw [rounds_succ]
      go_wp2_with fail
      refine (acheck_any _ _ _ _ _ _ _ ys _ _ (HS'.out.step (bal b1 _)) H2.out).mono ?_
      rintro e w2 ⟨rfl, hb2⟩
      go_wp2
      go_ret
      exact ⟨rfl, bst (bal b1 _) hb2⟩
  · have h0' : (e1 != 0) = true := by simpa using h0
    have hor : orE e1 e2 = e1 := if_neg h0
    rw [hor, fE_err h0]
    clear h0 hor
    go_enter Try.func34, Try.ntmps34
    go_wp2
    refine wp_loop_rounds 1 ?_
    rw [rounds_succ]
    go_wp2_with fail
    refine (acheck_any _ _ _ _ _ _ _ xs _ _ (HS.out.step (bal (Below.refl _ _) _)) H1.out).mono ?_
    rintro e w1 ⟨rfl, hb1⟩
    go_wp2
    go_ret
    exact ⟨rfl, bst (bal (Below.refl _ _) _) hb1⟩
end Go.Proofs.Ytfbloddffhafdaa

/-
  moves.check of one and of two arrays, moves.two, the reference's Two.
-/
import Derived.Test.YtoapgknkenlcgaaSame
namespace Go.Proofs.Ytoapgknkenlcgaa
open Go.RowKit

set_option maxHeartbeats 1000000 in
theorem mcheck1 (k r l0 l1 : Int) (A : Option Addr) (n c : Nat) (xs : List Int) (ec : Int) (B : Nat) (w : World) (hs : Sl w A n c xs) (hec : achk k r l0 l1 xs = ec)
    (hX : Bx w B #[.int .i64 k, .int .i64 r, .int .i64 l0, .int .i64 l1, .slice A n c] 25) :
    Calls Try.prog 47 #[.slice (some ⟨B, 0, none⟩) 1 1] w fun e w' => e = .returned (.int .i64 ec) ∧ Below w.heap.size w w' := by
  have HE := Lib.hid hec
  have HS := Lib.hid hs
  have hB := hX.lt
  clear hec hs
  have hcx : ∀ i, w.cell? ⟨B, i, none⟩ = _ := hX.cell
  by_cases h0 : ec = 0
  · subst h0
    go_enter Try.func47, Try.ntmps47
    go_wp2
    refine wp_loop_rounds 2 ?_
    rw [rounds_succ]
    go_wp2_with fail
    refine (acheck_any _ _ _ _ _ _ _ xs _ _ (HS.out.step (bal (Below.refl _ _) _)) HE.out).mono ?_
    rintro e w1 ⟨rfl, hb1⟩
    go_wp2
    rw [rounds_succ]
    go_wp2
    go_ret
    exact ⟨rfl, bst (bal (Below.refl _ _) _) hb1⟩
  · have h0' : (ec != 0) = true := by simpa using h0
    clear h0
    go_enter Try.func47, Try.ntmps47
    go_wp2
    refine wp_loop_rounds 1 ?_
    rw [rounds_succ]
    go_wp2_with fail
    refine (acheck_any _ _ _ _ _ _ _ xs _ _ (HS.out.step (bal (Below.refl _ _) _)) HE.out).mono ?_
    rintro e w1 ⟨rfl, hb1⟩
    go_wp2
    go_ret
    exact ⟨rfl, bst (bal (Below.refl _ _) _) hb1⟩

/-- The first error number that is not 0. -/
def orE (a b : Int) : Int := if a = 0 then b else a

set_option maxHeartbeats 1000000 in
theorem mcheck2 (k r l0 l1 : Int) (A : Option Addr) (n c : Nat) (xs : List Int) (k' r' l0' l1' : Int) (A' : Option Addr) (n' c' : Nat) (ys : List Int) (e1 e2 : Int) (B : Nat) (w : World)
    (hs : Sl w A n c xs) (hs' : Sl w A' n' c' ys) (h1 : achk k r l0 l1 xs = e1) (h2 : achk k' r' l0' l1' ys = e2)
    (hX : Bx w B #[.int .i64 k, .int .i64 r, .int .i64 l0, .int .i64 l1, .slice A n c, .int .i64 k', .int .i64 r', .int .i64 l0', .int .i64 l1', .slice A' n' c'] 25) :
    Calls Try.prog 47 #[.slice (some ⟨B, 0, none⟩) 2 2] w fun e w' => e = .returned (.int .i64 (orE e1 e2)) ∧ Below w.heap.size w w' := by
  have H1 := Lib.hid h1
  have H2 := Lib.hid h2
  have HS := Lib.hid hs
  have HS' := Lib.hid hs'
  have hB := hX.lt
  clear h1 h2 hs hs'
  have hcx : ∀ i, w.cell? ⟨B, i, none⟩ = _ := hX.cell
  by_cases h0 : e1 = 0
  · subst h0
    have hor : orE 0 e2 = e2 := if_pos rfl
    rw [hor]
    clear hor
    by_cases h0 : e2 = 0
    · subst h0
      go_enter Try.func47, Try.ntmps47
      go_wp2
      refine wp_loop_rounds 3 ?_
      rw [rounds_succ]
      go_wp2_with fail
      refine (acheck_any _ _ _ _ _ _ _ xs _ _ (HS.out.step (bal (Below.refl _ _) _)) H1.out).mono ?_
      rintro e w1 ⟨rfl, hb1⟩
      have b1 : Below w.heap.size w w1 := bst (bal (Below.refl _ _) _) hb1
      have hcx1 : ∀ i, w1.cell? ⟨B, i, none⟩ = _ := (hX.step b1).cell
      go_wp2
      rw [rounds_succ]
      go_wp2_with fail
      refine (acheck_any _ _ _ _ _ _ _ ys _ _ (HS'.out.step (bal b1 _)) H2.out).mono ?_
      rintro e w2 ⟨rfl, hb2⟩
      go_wp2
      rw [rounds_succ]
      go_wp2
      go_ret
      exact ⟨rfl, bst (bal b1 _) hb2⟩
    · have h0' : (e2 != 0) = true := by simpa using h0
      clear h0
      go_enter Try.func47, Try.ntmps47
      go_wp2
      refine wp_loop_rounds 2 ?_
      rw [rounds_succ]
      go_wp2_with fail
      refine (acheck_any _ _ _ _ _ _ _ xs _ _ (HS.out.step (bal (Below.refl _ _) _)) H1.out).mono ?_
      rintro e w1 ⟨rfl, hb1⟩
      have b1 : Below w.heap.size w w1 := bst (bal (Below.refl _ _) _) hb1
      have hcx1 : ∀ i, w1.cell? ⟨B, i, none⟩ = _ := (hX.step b1).cell
      go_wp2
      rw [rounds_succ]
      go_wp2_with fail
      refine (acheck_any _ _ _ _ _ _ _ ys _ _ (HS'.out.step (bal b1 _)) H2.out).mono ?_
      rintro e w2 ⟨rfl, hb2⟩
      go_wp2
      go_ret
      exact ⟨rfl, bst (bal b1 _) hb2⟩
  · have h0' : (e1 != 0) = true := by simpa using h0
    have hor : orE e1 e2 = e1 := if_neg h0
    rw [hor]
    clear h0 hor
    go_enter Try.func47, Try.ntmps47
    go_wp2
    refine wp_loop_rounds 1 ?_
    rw [rounds_succ]
    go_wp2_with fail
    refine (acheck_any _ _ _ _ _ _ _ xs _ _ (HS.out.step (bal (Below.refl _ _) _)) H1.out).mono ?_
    rintro e w1 ⟨rfl, hb1⟩
    go_wp2
    go_ret
    exact ⟨rfl, bst (bal (Below.refl _ _) _) hb1⟩

/-- The error number of two operands, the first of which must be an int array of a rank, the other one of another rank. -/
def twoE (a b : Arr) (rank other : Int) : Int :=
  if orE (achk a.k a.r a.l0 a.l1 a.c) (achk b.k b.r b.l0 b.l1 b.c) ≠ 0 then orE (achk a.k a.r a.l0 a.l1 a.c) (achk b.k b.r b.l0 b.l1 b.c)
  else if a.k ≠ 1 then 21
  else if a.r ≠ rank ∨ b.r ≠ other then 22
  else 0

set_option maxHeartbeats 1000000 in
theorem two_any (k r l0 l1 : Int) (A : Option Addr) (n c : Nat) (xs : List Int) (k' r' l0' l1' : Int) (A' : Option Addr) (n' c' : Nat) (ys : List Int) (rank other : Int) (ec : Int) (w : World)
    (hs : Sl w A n c xs) (hs' : Sl w A' n' c' ys) (h : twoE ⟨k, r, l0, l1, xs⟩ ⟨k', r', l0', l1', ys⟩ rank other = ec) :
    Calls Try.prog 42 #[.agg #[.int .i64 k, .int .i64 r, .int .i64 l0, .int .i64 l1, .slice A n c], .agg #[.int .i64 k', .int .i64 r', .int .i64 l0', .int .i64 l1', .slice A' n' c'], .int .i64 rank, .int .i64 other] w fun e w' => e = .returned (.int .i64 ec) ∧ Below w.heap.size w w' := by
  have HE := Lib.hid h
  have HS := Lib.hid hs
  have HS' := Lib.hid hs'
  clear hs hs' h
  have W3 : ((w.alloc (.cells #[.int .i64 k, .int .i64 r, .int .i64 l0, .int .i64 l1, .slice A n c] 25)).alloc (.cells #[.int .i64 k', .int .i64 r', .int .i64 l0', .int .i64 l1', .slice A' n' c'] 25)).heap.size = w.heap.size + 2 := by simp
  have X0 : Bx (((w.alloc (.cells #[.int .i64 k, .int .i64 r, .int .i64 l0, .int .i64 l1, .slice A n c] 25)).alloc (.cells #[.int .i64 k', .int .i64 r', .int .i64 l0', .int .i64 l1', .slice A' n' c'] 25)).alloc (.cells #[.int .i64 k, .int .i64 r, .int .i64 l0, .int .i64 l1, .slice A n c, .int .i64 k', .int .i64 r', .int .i64 l0', .int .i64 l1', .slice A' n' c'] 25)) w.heap.size #[.int .i64 k, .int .i64 r, .int .i64 l0, .int .i64 l1, .slice A n c] 25 := ((Bx.new _ _ _).alloc _).alloc _
  have Y0 : Bx (((w.alloc (.cells #[.int .i64 k, .int .i64 r, .int .i64 l0, .int .i64 l1, .slice A n c] 25)).alloc (.cells #[.int .i64 k', .int .i64 r', .int .i64 l0', .int .i64 l1', .slice A' n' c'] 25)).alloc (.cells #[.int .i64 k, .int .i64 r, .int .i64 l0, .int .i64 l1, .slice A n c, .int .i64 k', .int .i64 r', .int .i64 l0', .int .i64 l1', .slice A' n' c'] 25)) (w.heap.size + 1) #[.int .i64 k', .int .i64 r', .int .i64 l0', .int .i64 l1', .slice A' n' c'] 25 := by
    have := Bx.new (w.alloc (.cells #[.int .i64 k, .int .i64 r, .int .i64 l0, .int .i64 l1, .slice A n c] 25)) #[.int .i64 k', .int .i64 r', .int .i64 l0', .int .i64 l1', .slice A' n' c'] 25
    rw [World.size_alloc] at this
    exact this.alloc _
  have Z0 : Bx (((w.alloc (.cells #[.int .i64 k, .int .i64 r, .int .i64 l0, .int .i64 l1, .slice A n c] 25)).alloc (.cells #[.int .i64 k', .int .i64 r', .int .i64 l0', .int .i64 l1', .slice A' n' c'] 25)).alloc (.cells #[.int .i64 k, .int .i64 r, .int .i64 l0, .int .i64 l1, .slice A n c, .int .i64 k', .int .i64 r', .int .i64 l0', .int .i64 l1', .slice A' n' c'] 25)) (w.heap.size + 1 + 1) #[.int .i64 k, .int .i64 r, .int .i64 l0, .int .i64 l1, .slice A n c, .int .i64 k', .int .i64 r', .int .i64 l0', .int .i64 l1', .slice A' n' c'] 25 := by
    have := Bx.new ((w.alloc (.cells #[.int .i64 k, .int .i64 r, .int .i64 l0, .int .i64 l1, .slice A n c] 25)).alloc (.cells #[.int .i64 k', .int .i64 r', .int .i64 l0', .int .i64 l1', .slice A' n' c'] 25)) #[.int .i64 k, .int .i64 r, .int .i64 l0, .int .i64 l1, .slice A n c, .int .i64 k', .int .i64 r', .int .i64 l0', .int .i64 l1', .slice A' n' c'] 25
    rwa [W3] at this
  clear W3
  by_cases h0 : orE (achk k r l0 l1 xs) (achk k' r' l0' l1' ys) = 0
  · have H0 := Lib.hid h0
    have he := HE.out
    unfold twoE at he
    rw [if_neg (fun h => h h0)] at he
    clear h0
    by_cases hk : k = 1
    · subst hk
      rw [if_neg (fun h => h rfl)] at he
      by_cases hr : r = rank
      · subst hr
        by_cases hr' : r' = other
        · subst hr'
          rw [if_neg (by simp)] at he
          subst he
          go_enter Try.func42, Try.ntmps42
          go_wp2_with fail
          refine (mcheck2 _ _ _ _ _ _ _ xs _ _ _ _ _ _ _ ys _ _ _ _ (HS.out.step (bal (bal (bal (Below.refl _ _) _) _) _)) (HS'.out.step (bal (bal (bal (Below.refl _ _) _) _) _)) rfl rfl Z0).mono ?_
          rintro e w1 ⟨rfl, hb1⟩
          have X1 := X0.step hb1
          have Y1 := Y0.step hb1
          have hcx : ∀ i, w1.cell? ⟨w.heap.size, i, none⟩ = _ := X1.cell
          have hcy : ∀ i, w1.cell? ⟨w.heap.size + 1, i, none⟩ = _ := Y1.cell
          rw [H0.out]
          go_wp2
          go_ret
          exact ⟨rfl, bst (bal (bal (bal (Below.refl _ _) _) _) _) hb1⟩
        · rw [if_pos (.inr hr')] at he
          subst he
          have hr2 : (r' != other) = true := by simpa using hr'
          clear hr'
          go_enter Try.func42, Try.ntmps42
          go_wp2_with fail
          refine (mcheck2 _ _ _ _ _ _ _ xs _ _ _ _ _ _ _ ys _ _ _ _ (HS.out.step (bal (bal (bal (Below.refl _ _) _) _) _)) (HS'.out.step (bal (bal (bal (Below.refl _ _) _) _) _)) rfl rfl Z0).mono ?_
          rintro e w1 ⟨rfl, hb1⟩
          have X1 := X0.step hb1
          have Y1 := Y0.step hb1
          have hcx : ∀ i, w1.cell? ⟨w.heap.size, i, none⟩ = _ := X1.cell
          have hcy : ∀ i, w1.cell? ⟨w.heap.size + 1, i, none⟩ = _ := Y1.cell
          rw [H0.out]
          go_wp2
          go_ret
          exact ⟨rfl, bst (bal (bal (bal (Below.refl _ _) _) _) _) hb1⟩
      · rw [if_pos (.inl hr)] at he
        subst he
        have hr2 : (r != rank) = true := by simpa using hr
        clear hr
        go_enter Try.func42, Try.ntmps42
        go_wp2_with fail
        refine (mcheck2 _ _ _ _ _ _ _ xs _ _ _ _ _ _ _ ys _ _ _ _ (HS.out.step (bal (bal (bal (Below.refl _ _) _) _) _)) (HS'.out.step (bal (bal (bal (Below.refl _ _) _) _) _)) rfl rfl Z0).mono ?_
        rintro e w1 ⟨rfl, hb1⟩
        have X1 := X0.step hb1
        have Y1 := Y0.step hb1
        have hcx : ∀ i, w1.cell? ⟨w.heap.size, i, none⟩ = _ := X1.cell
        have hcy : ∀ i, w1.cell? ⟨w.heap.size + 1, i, none⟩ = _ := Y1.cell
        rw [H0.out]
        go_wp2
        go_ret
        exact ⟨rfl, bst (bal (bal (bal (Below.refl _ _) _) _) _) hb1⟩
    · rw [if_pos hk] at he
      subst he
      have hk2 : (k != 1) = true := by simpa using hk
      clear hk
      go_enter Try.func42, Try.ntmps42
      go_wp2_with fail
      refine (mcheck2 _ _ _ _ _ _ _ xs _ _ _ _ _ _ _ ys _ _ _ _ (HS.out.step (bal (bal (bal (Below.refl _ _) _) _) _)) (HS'.out.step (bal (bal (bal (Below.refl _ _) _) _) _)) rfl rfl Z0).mono ?_
      rintro e w1 ⟨rfl, hb1⟩
      have X1 := X0.step hb1
      have Y1 := Y0.step hb1
      have hcx : ∀ i, w1.cell? ⟨w.heap.size, i, none⟩ = _ := X1.cell
      have hcy : ∀ i, w1.cell? ⟨w.heap.size + 1, i, none⟩ = _ := Y1.cell
      rw [H0.out]
      go_wp2
      go_ret
      exact ⟨rfl, bst (bal (bal (bal (Below.refl _ _) _) _) _) hb1⟩
  · have he := HE.out
    unfold twoE at he
    rw [if_pos h0] at he
    have hne : (ec != 0) = true := by rw [← he]; simpa using h0
    have HEC := Lib.hid he
    clear h0 he
    go_enter Try.func42, Try.ntmps42
    go_wp2_with fail
    refine (mcheck2 _ _ _ _ _ _ _ xs _ _ _ _ _ _ _ ys _ _ _ _ (HS.out.step (bal (bal (bal (Below.refl _ _) _) _) _)) (HS'.out.step (bal (bal (bal (Below.refl _ _) _) _) _)) rfl rfl Z0).mono ?_
    rintro e w1 ⟨rfl, hb1⟩
    have X1 := X0.step hb1
    have Y1 := Y0.step hb1
    have hcx : ∀ i, w1.cell? ⟨w.heap.size, i, none⟩ = _ := X1.cell
    have hcy : ∀ i, w1.cell? ⟨w.heap.size + 1, i, none⟩ = _ := Y1.cell
    rw [HEC.out]
    go_wp2
    go_ret
    exact ⟨rfl, bst (bal (bal (bal (Below.refl _ _) _) _) _) hb1⟩
end Go.Proofs.Ytoapgknkenlcgaa

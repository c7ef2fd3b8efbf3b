/-
  arrays.Check and the reference's Check of arrays: the error number 'achk'.
-/
import Derived.Test.YtfbloddffhafdaaRchk
import Derived.Test.YtfbloddffhafdaaShp64
namespace Go.Proofs.Ytfbloddffhafdaa
open Go.RowKit

set_option maxHeartbeats 400000 in
theorem validRune_any (x : Int) (w : World) (h0 : 0 ≤ x) (h1 : x ≤ 1114111) :
    Calls Try.prog 65 #[.int .i32 x] w fun e w' => e = .returned (.bool (decide (x < 55296) || decide (57343 < x))) ∧ Below w.heap.size w w' := by
  by_cases a : x < 55296
  · go_enter Try.func65, Try.ntmps65
    go_wp2
    go_ret
    refine ⟨?_, Below.refl _ _⟩
    simp [a]
  · by_cases b : 57343 < x
    · go_enter Try.func65, Try.ntmps65
      go_wp2
      go_ret
      refine ⟨?_, Below.refl _ _⟩
      simp
    · go_enter Try.func65, Try.ntmps65
      go_wp2
      go_ret
      refine ⟨?_, Below.refl _ _⟩
      simp [a, b]

set_option maxHeartbeats 400000 in
theorem right_any (k x : Int) (w : World) :
    Calls Try.prog 59 #[.int .i64 k, .int .i64 x] w fun e w' => e = .returned (.bool (rightB k x)) ∧ Below w.heap.size w w' := by
  by_cases hk : k = 1
  · subst hk
    go_enter Try.func59, Try.ntmps59
    go_wp2
    go_ret
    exact ⟨rfl, Below.refl _ _⟩
  · have hk' : (k == 1) = false := by simpa using hk
    by_cases a : x < 0
    · go_enter Try.func59, Try.ntmps59
      go_wp2
      go_ret
      refine ⟨?_, Below.refl _ _⟩
      have : rightB k x = false := by simp [rightB, isRune, hk]; omega
      rw [this]; rfl
    · by_cases b : 1114111 < x
      · go_enter Try.func59, Try.ntmps59
        go_wp2
        go_ret
        refine ⟨?_, Below.refl _ _⟩
        have : rightB k x = false := by simp [rightB, isRune, hk]; omega
        rw [this]; rfl
      · have a' : 0 ≤ x := by omega
        have b' : x ≤ 1114111 := by omega
        go_enter Try.func59, Try.ntmps59
        go_wp2_with fail
        refine (validRune_any x _ a' b').mono ?_
        rintro e w1 ⟨rfl, hb1⟩
        go_wp2
        go_ret
        refine ⟨?_, hb1⟩
        simp [rightB, isRune, hk, a', b']

set_option maxHeartbeats 400000 in
theorem checkClosure (k x : Int) (B : Nat) (W : World) (hc : W.cell? ⟨B, 0, none⟩ = some (.int .i64 k)) :
    Calls Try.prog 58 #[.int .i64 x, .pointer (some ⟨B, 0, none⟩)] W fun e w' => e = .returned (.bool (!rightB k x)) ∧ Below W.heap.size W w' := by
  go_enter Try.func58, Try.ntmps58
  go_wp2_with fail
  refine (right_any k x _).mono ?_
  rintro e w1 ⟨rfl, hb1⟩
  go_wp2
  go_ret
  exact ⟨rfl, hb1⟩
theorem closureApp {x : Int} {u : Value} {W : World} {R : Ending → World → Prop} (h : Calls Try.prog 58 #[.int .i64 x, u] W R) : Calls Try.prog 58 (#[.int .i64 x] ++ #[u]) W R := by
  have e : (#[.int .i64 x] ++ #[u] : Array Value) = #[.int .i64 x, u] := rfl
  rw [e]; exact h
theorem entersArr : ∀ args w, (callFunc 58 args).run Try.prog w = .ok (.enter 58 args) w := enters_of Try.func58 (by kernel_rfl) rfl

set_option maxHeartbeats 1000000 in
/-- arrays.Check returns the error number of the array. -/
theorem acheck_any (k r l0 l1 : Int) (A : Option Addr) (n c : Nat) (xs : List Int) (ec : Int) (w : World) (hs : Sl w A n c xs) (hec : achk k r l0 l1 xs = ec) :
    Calls Try.prog 50 #[.agg #[.int .i64 k, .int .i64 r, .int .i64 l0, .int .i64 l1, .slice A n c]] w fun e w' => e = .returned (.int .i64 ec) ∧ Below w.heap.size w w' := by
  have HE := Lib.hid hec
  clear hec
  have HS := Lib.hid hs
  have hn := hs.len
  have hm := hs.most
  have hcap := hs.cap
  have HN := Lib.hid hn
  clear hs hn
  by_cases hk : k ≠ 1 ∧ k ≠ 2
  · have h1 : (k != 1) = true := by simpa using hk.1
    have h2 : (k != 2) = true := by simpa using hk.2
    have he := HE.out
    rw [show achk k r l0 l1 xs = 2 by unfold achk; rw [if_pos hk]] at he
    subst he
    clear hk HE
    go_enter Try.func50, Try.ntmps50
    go_wp2
    go_ret
    exact ⟨rfl, bal (Below.refl _ _) _⟩
  · have hk2 : k = 1 ∨ k = 2 := by omega
    have hx : ((k != 1) && (k != 2)) = false := by rcases hk2 with rfl | rfl <;> rfl
    have X0 : Bx (w.alloc (.cells #[.int .i64 k, .int .i64 r, .int .i64 l0, .int .i64 l1, .slice A n c] 25)) w.heap.size #[.int .i64 k, .int .i64 r, .int .i64 l0, .int .i64 l1, .slice A n c] 25 := Bx.new _ _ _
    by_cases hsh : shp r l0 l1 = 0
    · have HSH := Lib.hid hsh
      have hpb := prodI_bounds hsh
      obtain ⟨hp0, hp1⟩ := hpb
      clear hsh
      by_cases hl : (xs.length : Int) = prodI r l0 l1
      · have hl1 : ((n : Int) != prodI r l0 l1) = false := by rw [← HN.out]; simpa using hl
        have HL := Lib.hid hl
        clear hl
        obtain ⟨t, ht⟩ : ∃ t, xs.any (fun c => !rightB k c) = t := ⟨_, rfl⟩
        have HT := Lib.hid ht
        have HK := Lib.hid hk
        clear ht hk
        have he := HE.out
        cases t with
        | true =>
          rw [show achk k r l0 l1 xs = 7 by unfold achk; rw [if_neg HK.out, if_neg (fun h => h HSH.out), if_neg (fun h => h HL.out), if_pos HT.out]] at he
          subst he
          rcases hk2 with rfl | rfl
          · go_enter Try.func50, Try.ntmps50
            go_wp2_with fail
            refine (cells_ok r l0 l1 _ HSH.out).mono ?_
            rintro e w1 ⟨rfl, hb1⟩
            have X1 := X0.step hb1
            have hcc : ∀ i, w1.cell? ⟨w.heap.size, i, none⟩ = _ := X1.cell
            go_wp2_with fail
            refine (containsFunc_i64 58 _ _ entersArr _ _ _ xs true _ (HS.out.step (bst (bal (Below.refl _ _) _) hb1)) (fun x W hb => closureApp (checkClosure 1 x w.heap.size W ((X1.step hb).cell 0))) HT.out).mono ?_
            rintro e w2 ⟨rfl, hb2⟩
            go_wp2
            go_ret
            exact ⟨rfl, bst (bst (bal (Below.refl _ _) _) hb1) hb2⟩
          · go_enter Try.func50, Try.ntmps50
            go_wp2_with fail
            refine (cells_ok r l0 l1 _ HSH.out).mono ?_
            rintro e w1 ⟨rfl, hb1⟩
            have X1 := X0.step hb1
            have hcc : ∀ i, w1.cell? ⟨w.heap.size, i, none⟩ = _ := X1.cell
            go_wp2_with fail
            refine (containsFunc_i64 58 _ _ entersArr _ _ _ xs true _ (HS.out.step (bst (bal (Below.refl _ _) _) hb1)) (fun x W hb => closureApp (checkClosure 2 x w.heap.size W ((X1.step hb).cell 0))) HT.out).mono ?_
            rintro e w2 ⟨rfl, hb2⟩
            go_wp2
            go_ret
            exact ⟨rfl, bst (bst (bal (Below.refl _ _) _) hb1) hb2⟩
        | false =>
          rw [show achk k r l0 l1 xs = 0 by unfold achk; rw [if_neg HK.out, if_neg (fun h => h HSH.out), if_neg (fun h => h HL.out), if_neg (by rw [HT.out]; simp)]] at he
          subst he
          rcases hk2 with rfl | rfl
          · go_enter Try.func50, Try.ntmps50
            go_wp2_with fail
            refine (cells_ok r l0 l1 _ HSH.out).mono ?_
            rintro e w1 ⟨rfl, hb1⟩
            have X1 := X0.step hb1
            have hcc : ∀ i, w1.cell? ⟨w.heap.size, i, none⟩ = _ := X1.cell
            go_wp2_with fail
            refine (containsFunc_i64 58 _ _ entersArr _ _ _ xs false _ (HS.out.step (bst (bal (Below.refl _ _) _) hb1)) (fun x W hb => closureApp (checkClosure 1 x w.heap.size W ((X1.step hb).cell 0))) HT.out).mono ?_
            rintro e w2 ⟨rfl, hb2⟩
            go_wp2
            go_ret
            exact ⟨rfl, bst (bst (bal (Below.refl _ _) _) hb1) hb2⟩
          · go_enter Try.func50, Try.ntmps50
            go_wp2_with fail
            refine (cells_ok r l0 l1 _ HSH.out).mono ?_
            rintro e w1 ⟨rfl, hb1⟩
            have X1 := X0.step hb1
            have hcc : ∀ i, w1.cell? ⟨w.heap.size, i, none⟩ = _ := X1.cell
            go_wp2_with fail
            refine (containsFunc_i64 58 _ _ entersArr _ _ _ xs false _ (HS.out.step (bst (bal (Below.refl _ _) _) hb1)) (fun x W hb => closureApp (checkClosure 2 x w.heap.size W ((X1.step hb).cell 0))) HT.out).mono ?_
            rintro e w2 ⟨rfl, hb2⟩
            go_wp2
            go_ret
            exact ⟨rfl, bst (bst (bal (Below.refl _ _) _) hb1) hb2⟩
      · have hl1 : ((n : Int) != prodI r l0 l1) = true := by rw [← HN.out]; simpa using hl
        have he := HE.out
        rw [show achk k r l0 l1 xs = 6 by unfold achk; rw [if_neg hk, if_neg (fun h => h HSH.out), if_pos hl]] at he
        subst he
        clear hl hk
        rcases hk2 with rfl | rfl
        all_goals
          go_enter Try.func50, Try.ntmps50
          go_wp2_with fail
          refine (cells_ok r l0 l1 _ HSH.out).mono ?_
          rintro e w1 ⟨rfl, hb1⟩
          have X1 := X0.step hb1
          have hcc : ∀ i, w1.cell? ⟨w.heap.size, i, none⟩ = _ := X1.cell
          go_wp2
          go_ret
          exact ⟨rfl, bst (bal (Below.refl _ _) _) hb1⟩
    · have he := HE.out
      rw [show achk k r l0 l1 xs = shp r l0 l1 by unfold achk; rw [if_neg hk, if_pos hsh]] at he
      have hne : ec ≠ 0 := by rw [← he]; exact hsh
      have hne' : (ec != 0) = true := by simpa using hne
      have HEC := Lib.hid he
      have HNE := Lib.hid hne
      clear hk hsh he hne
      rcases hk2 with rfl | rfl
      all_goals
        go_enter Try.func50, Try.ntmps50
        go_wp2_with fail
        refine (cells_err r l0 l1 ec _ HEC.out HNE.out).mono ?_
        rintro e w1 ⟨rfl, hb1⟩
        go_wp2
        go_ret
        exact ⟨rfl, bst (bal (Below.refl _ _) _) hb1⟩
end Go.Proofs.Ytfbloddffhafdaa

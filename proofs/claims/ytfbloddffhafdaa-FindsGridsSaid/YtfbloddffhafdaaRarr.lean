/-
  The reference's rune64, Check, Like and Same of arrays.
-/
import Derived.Test.YtfbloddffhafdaaArr
namespace Go.Proofs.Ytfbloddffhafdaa
open Go.RowKit

set_option maxHeartbeats 400000 in
theorem rune64_any (x : Int) (w : World) :
    Calls Try.prog 48 #[.int .i64 x] w fun e w' => e = .returned (.bool (isRune x)) ∧ Below w.heap.size w w' := by
  by_cases a : x < 0
  · go_enter Try.func48, Try.ntmps48
    go_wp2
    go_ret
    refine ⟨?_, Below.refl _ _⟩
    have : isRune x = false := by simp [isRune]; omega
    rw [this]; rfl
  · by_cases b : 1114111 < x
    · go_enter Try.func48, Try.ntmps48
      go_wp2
      go_ret
      refine ⟨?_, Below.refl _ _⟩
      have : isRune x = false := by simp [isRune]; omega
      rw [this]; rfl
    · by_cases c : x < 55296
      · go_enter Try.func48, Try.ntmps48
        go_wp2
        go_ret
        refine ⟨?_, Below.refl _ _⟩
        have : isRune x = true := by simp [isRune]; omega
        rw [this]; rfl
      · by_cases d : 57343 < x
        · go_enter Try.func48, Try.ntmps48
          go_wp2
          go_ret
          refine ⟨?_, Below.refl _ _⟩
          have : isRune x = true := by simp [isRune]; omega
          rw [this]; rfl
        · go_enter Try.func48, Try.ntmps48
          go_wp2
          go_ret
          refine ⟨?_, Below.refl _ _⟩
          have : isRune x = false := by simp [isRune]; omega
          rw [this]; rfl

theorem any_right {k : Int} {xs : List Int} {j : Nat} (hj : j < xs.length) (h : rightB k (xs.getD j 0) = false) : xs.any (fun c => !rightB k c) = true := by
  rw [List.any_eq_true]
  exact ⟨_, getD_mem hj, by rw [h]; rfl⟩
theorem all_right {k : Int} {xs : List Int} (h : ∀ j, j < xs.length → rightB k (xs.getD j 0) = true) : xs.any (fun c => !rightB k c) = false := by
  rw [List.any_eq_false]
  intro x hx
  obtain ⟨j, hj, rfl⟩ := List.mem_iff_getElem.1 hx
  have := h j hj
  rw [getD_get hj] at this
  simp [this]

set_option maxHeartbeats 1000000 in
/-- The reference's Check returns the error number of the array. -/
theorem racheck_any (k r l0 l1 : Int) (A : Option Addr) (n c : Nat) (xs : List Int) (ec : Int) (w : World) (hs : Sl w A n c xs) (hec : achk k r l0 l1 xs = ec) :
    Calls Try.prog 31 #[.agg #[.int .i64 k, .int .i64 r, .int .i64 l0, .int .i64 l1, .slice A n c]] w fun e w' => e = .returned (.int .i64 ec) ∧ Below w.heap.size w w' := by
  have HE := Lib.hid hec
  clear hec
  have HS := Lib.hid hs
  have hn := hs.len
  have hm := hs.most
  have hcap := hs.cap
  have HN := Lib.hid hn
  clear hs hn
  by_cases hk : k ≠ 1 ∧ k ≠ 2
  · have h1 : (k != 1) = true := by simpa using hk.1
    have h2 : (k != 2) = true := by simpa using hk.2
    have he := HE.out
    rw [show achk k r l0 l1 xs = 2 by unfold achk; rw [if_pos hk]] at he
    subst he
    clear hk HE
    go_enter Try.func31, Try.ntmps31
    go_wp2
    go_ret
    exact ⟨rfl, bal (Below.refl _ _) _⟩
  · have hk2 : k = 1 ∨ k = 2 := by omega
    have X0 : Bx (w.alloc (.cells #[.int .i64 k, .int .i64 r, .int .i64 l0, .int .i64 l1, .slice A n c] 25)) w.heap.size #[.int .i64 k, .int .i64 r, .int .i64 l0, .int .i64 l1, .slice A n c] 25 := Bx.new _ _ _
    by_cases hsh : shp r l0 l1 = 0
    · have HSH := Lib.hid hsh
      have hpb := prodI_bounds hsh
      obtain ⟨hp0, hp1⟩ := hpb
      clear hsh
      by_cases hl : (xs.length : Int) = prodI r l0 l1
      · have hl1 : ((n : Int) != prodI r l0 l1) = false := by rw [← HN.out]; simpa using hl
        have HL := Lib.hid hl
        have HK := Lib.hid hk
        clear hl hk
        rcases hk2 with rfl | rfl
        · have he := HE.out
          have hany : xs.any (fun c => !rightB 1 c) = false := all_right fun j _ => rfl
          rw [show achk 1 r l0 l1 xs = 0 by unfold achk; rw [if_neg HK.out, if_neg (fun h => h HSH.out), if_neg (fun h => h HL.out), if_neg (by rw [hany]; simp)]] at he
          subst he
          clear hany
          go_enter Try.func31, Try.ntmps31
          go_wp2_with fail
          refine (rcells_ok r l0 l1 _ HSH.out).mono ?_
          rintro e w1 ⟨rfl, hb1⟩
          have X1 := X0.step hb1
          have hcc : ∀ i, w1.cell? ⟨w.heap.size, i, none⟩ = _ := X1.cell
          go_wp2
          go_loopw [4, 5] (fun e i wr => ∃ j : Nat, j ≤ n ∧ i = .int .i64 j ∧ e = .int .i64 0 ∧ Below w1.heap.size w1 wr) (fun _ i _ => n - (intOf i).toNat)
          case atStart => exact ⟨0, Nat.zero_le _, rfl, rfl, Below.refl _ _⟩
          case round =>
            obtain ⟨j, hj, rfl, rfl, hb⟩ := hrel
            have hcr : ∀ i, wr.cell? ⟨w.heap.size, i, none⟩ = _ := (X1.step hb).cell
            by_cases hlt : j < n
            · go_wp2
              go_roundw
              case rel => exact ⟨j + 1, by omega, by go_num, rfl, hb⟩
              case measure => simp [intOf]; omega
            · go_wp2
              go_ret
              exact ⟨rfl, bst (bst (bal (Below.refl _ _) _) hb1) hb⟩
        · go_enter Try.func31, Try.ntmps31
          go_wp2_with fail
          refine (rcells_ok r l0 l1 _ HSH.out).mono ?_
          rintro e w1 ⟨rfl, hb1⟩
          have X1 := X0.step hb1
          have hcc : ∀ i, w1.cell? ⟨w.heap.size, i, none⟩ = _ := X1.cell
          go_wp2
          go_loopw [4, 5] (fun e i wr => ∃ (j : Nat) (E : Int), j ≤ n ∧ i = .int .i64 j ∧ e = .int .i64 E ∧ Below w1.heap.size w1 wr ∧ Hid ((E = 0 ∧ ∀ q, q < j → rightB 2 (xs.getD q 0) = true) ∨ (E = 7 ∧ xs.any (fun c => !rightB 2 c) = true))) (fun _ i _ => n - (intOf i).toNat)
          case atStart => exact ⟨0, 0, Nat.zero_le _, rfl, rfl, Below.refl _ _, Lib.hid (.inl ⟨rfl, fun q hq => absurd hq (Nat.not_lt_zero _)⟩)⟩
          case round =>
            obtain ⟨j, E, hj, rfl, rfl, hb, hE⟩ := hrel
            have hcr : ∀ i, wr.cell? ⟨w.heap.size, i, none⟩ = _ := (X1.step hb).cell
            rcases hE.out with ⟨rfl, hno⟩ | ⟨rfl, hany⟩
            · have HNO := Lib.hid hno
              clear hno hE
              by_cases hlt : j < n
              · obtain ⟨b, o, rfl, hbl, hck0⟩ := HS.out.at_ hlt
                have hb0 : Below w.heap.size w wr := bst (bst (bal (Below.refl _ _) _) hb1) hb
                have hck : wr.cell? ⟨b, o + j, none⟩ = some (.int .i64 (xs.getD j 0)) := (hb0.cell (p := ⟨b, o + j, none⟩) hbl).trans hck0
                clear hck0
                generalize hy : xs.getD j 0 = y at hck
                have HY := Lib.hid hy
                clear hy
                go_wp2_with fail
                refine (rune64_any y _).mono ?_
                rintro e w2 ⟨rfl, hb2⟩
                cases hq : isRune y with
                | true =>
                  have HQ := Lib.hid hq
                  clear hq
                  go_wp2
                  go_roundw
                  case rel =>
                    refine ⟨j + 1, 0, by omega, by go_num, rfl, bst hb hb2, Lib.hid (.inl ⟨rfl, fun q hq => ?_⟩)⟩
                    by_cases e : q = j
                    · subst e; rw [HY.out]; simp [rightB, HQ.out]
                    · exact HNO.out q (by omega)
                  case measure => simp [intOf]; omega
                | false =>
                  have HQ := Lib.hid hq
                  clear hq
                  go_wp2
                  go_roundw
                  case rel =>
                    refine ⟨j + 1, 7, by omega, by go_num, rfl, bst hb hb2, Lib.hid (.inr ⟨rfl, any_right (j := j) (by rw [HN.out]; exact hlt) (by rw [HY.out]; simp [rightB, HQ.out])⟩)⟩
                  case measure => simp [intOf]; omega
              · go_wp2
                go_ret
                refine ⟨?_, bst (bst (bal (Below.refl _ _) _) hb1) hb⟩
                have hj' : j = n := by omega
                have hany : xs.any (fun c => !rightB 2 c) = false := all_right fun q hq => HNO.out q (by rw [HN.out] at hq; omega)
                rw [← HE.out, show achk 2 r l0 l1 xs = 0 by unfold achk; rw [if_neg HK.out, if_neg (fun h => h HSH.out), if_neg (fun h => h HL.out), if_neg (by rw [hany]; simp)]]
                rfl
            · have HANY := Lib.hid hany
              clear hany hE
              by_cases hlt : j < n
              all_goals
                go_wp2
                go_ret
                refine ⟨?_, bst (bst (bal (Below.refl _ _) _) hb1) hb⟩
                rw [← HE.out, show achk 2 r l0 l1 xs = 7 by unfold achk; rw [if_neg HK.out, if_neg (fun h => h HSH.out), if_neg (fun h => h HL.out), if_pos HANY.out]]
                rfl
      · have hl1 : ((n : Int) != prodI r l0 l1) = true := by rw [← HN.out]; simpa using hl
        have he := HE.out
        rw [show achk k r l0 l1 xs = 6 by unfold achk; rw [if_neg hk, if_neg (fun h => h HSH.out), if_pos hl]] at he
        subst he
        clear hl hk
        have hn0 : n = 0 ∨ 0 < n := by omega
        rcases hk2 with rfl | rfl
        all_goals
          go_enter Try.func31, Try.ntmps31
          go_wp2_with fail
          refine (rcells_ok r l0 l1 _ HSH.out).mono ?_
          rintro e w1 ⟨rfl, hb1⟩
          have X1 := X0.step hb1
          have hcc : ∀ i, w1.cell? ⟨w.heap.size, i, none⟩ = _ := X1.cell
          go_wp2
          refine wp_loop_rounds 1 ?_
          rw [rounds_succ]
          rcases hn0 with rfl | hn0
          all_goals
            go_wp2
            go_ret
            exact ⟨rfl, bst (bal (Below.refl _ _) _) hb1⟩
    · have he := HE.out
      rw [show achk k r l0 l1 xs = shp r l0 l1 by unfold achk; rw [if_neg hk, if_pos hsh]] at he
      have hne : ec ≠ 0 := by rw [← he]; exact hsh
      have hne' : (ec == 0) = false := by simpa using hne
      have HEC := Lib.hid he
      have HNE := Lib.hid hne
      clear hk hsh he hne
      have hn0 : n = 0 ∨ 0 < n := by omega
      rcases hk2 with rfl | rfl
      all_goals
        go_enter Try.func31, Try.ntmps31
        go_wp2_with fail
        refine (rcells_err r l0 l1 ec _ HEC.out HNE.out).mono ?_
        rintro e w1 ⟨rfl, hb1⟩
        have X1 := X0.step hb1
        have hcc : ∀ i, w1.cell? ⟨w.heap.size, i, none⟩ = _ := X1.cell
        go_wp2
        refine wp_loop_rounds 1 ?_
        rw [rounds_succ]
        rcases hn0 with rfl | hn0
        all_goals
          go_wp2
          go_ret
          exact ⟨rfl, bst (bal (Below.refl _ _) _) hb1⟩
end Go.Proofs.Ytfbloddffhafdaa

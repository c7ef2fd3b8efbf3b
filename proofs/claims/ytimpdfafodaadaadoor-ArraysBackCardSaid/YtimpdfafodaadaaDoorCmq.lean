/-
  arrays.Compare and the reference's.
-/
import Derived.Test.YtimpdfafodaadaaDoorCmp
import Derived.Test.YtimpdfafodaadaaDoorRarr
import Derived.Test.YtimpdfafodaadaaDoorApr
import Derived.Deep.RegionHeld3
namespace Go.Proofs.YtimpdfafodaadaaDoor
open Go.RowKit
attribute [local go_sem] Oper.semAt_some

set_option maxHeartbeats 2000000 in
theorem aCompare_any (k r l0 l1 : Int) (A : Option Addr) (n c : Nat) (xs : List Int) (k' r' l0' l1' : Int) (A' : Option Addr) (n' c' : Nat) (ys : List Int) (y ec : Int) (w : World) (hs : Sl w A n c xs) (hs' : Sl w A' n' c' ys)
    (h : sCompare ⟨k, r, l0, l1, xs⟩ ⟨k', r', l0', l1', ys⟩ = (y, ec)) :
    Calls Tryd.prog 34 #[.agg #[.int .i64 k, .int .i64 r, .int .i64 l0, .int .i64 l1, .slice A n c], .agg #[.int .i64 k', .int .i64 r', .int .i64 l0', .int .i64 l1', .slice A' n' c']] w fun e w' => e = .returned (.tuple #[.int .i64 y, .int .i64 ec]) ∧ Below w.heap.size w w' := by
  by_cases ha : achk k r l0 l1 xs = 0
  · have HEA := Lib.hid ha
    have ha' : chkB ⟨k, r, l0, l1, xs⟩ = 0 := ha
    unfold sCompare at h
    rw [if_neg (by simp [ha'])] at h
    by_cases hb : achk k' r' l0' l1' ys = 0
    · have HEB := Lib.hid hb
      have hb' : chkB ⟨k', r', l0', l1', ys⟩ = 0 := hb
      rw [if_neg (by simp [hb'])] at h
      obtain ⟨hy, rfl⟩ := Prod.mk.inj h
      simp only at hy
      have HY := Lib.hid hy
      clear h hy ha hb ha' hb'
      have HS := Lib.hid hs
      have HS' := Lib.hid hs'
      clear hs hs'
      go_enter Tryd.func34, Tryd.ntmps34
      go_wp2_with fail
      refine wp_loop_rounds 3 ?_
      rw [rounds_succ]
      go_wp2_with fail
      refine (acheck_any k r l0 l1 A n c xs 0 _ (HS.out.step (below4 _ _ _ _ _)) HEA.out).mono ?_
      rintro e w1 ⟨rfl, hb1⟩
      obtain ⟨X0, X1, X2, X3, b1⟩ := after4 hb1
      clear hb1
      have q0 := Bx.lt X0
      have q1 := Bx.lt X1
      have q2 := Bx.lt X2
      have c2 : ∀ i, w1.cell? ⟨w.heap.size + 1 + 1, i, none⟩ = _ := Bx.cell X2
      go_wp2_with fail
      rw [rounds_succ]
      go_wp2_with fail
      refine (acheck_any k' r' l0' l1' A' n' c' ys 0 _ (HS'.out.step (bal b1 _)) HEB.out).mono ?_
      rintro e w2 ⟨rfl, hb2⟩
      have Y0 := (Bx.alloc X0 (.cells #[.int .i64 k', .int .i64 r', .int .i64 l0', .int .i64 l1', .slice A' n' c'] 25)).step hb2
      have Y1 := (Bx.alloc X1 (.cells #[.int .i64 k', .int .i64 r', .int .i64 l0', .int .i64 l1', .slice A' n' c'] 25)).step hb2
      have b2 := bst (bal b1 _) hb2
      have q0 := Bx.lt Y0
      have q1 := Bx.lt Y1
      clear c2 hb2 X0 X1 X2 X3
      go_wp2_with fail
      rw [rounds_succ]
      go_wp2_with fail
      have hk : ∀ u, Below w2.heap.size w2 u → (∀ i, u.cell? ⟨w.heap.size, i, none⟩ = #[.int .i64 k, .int .i64 r, .int .i64 l0, .int .i64 l1, .slice A n c][i]?) ∧ (∀ i, u.cell? ⟨w.heap.size + 1, i, none⟩ = #[.int .i64 k', .int .i64 r', .int .i64 l0', .int .i64 l1', .slice A' n' c'][i]?) := fun u hb => ⟨(Bx.step Y0 hb).cell, (Bx.step Y1 hb).cell⟩
      have P0 : Below w2.heap.size w2 w2.drew := bdr (Below.refl _ _)
      have b3 := bst b2 P0
      have S0 : Sl w2.drew (some ⟨w.heap.size, 2, none⟩) 2 2 [l0, l1] := Sl.of_box (w := w2.drew) (Bx.step Y0 P0) rfl (by omega) (by decide) (fun j hj => by
        have : j = 0 ∨ j = 1 := by omega
        rcases this with rfl | rfl <;> rfl)
      have S1 : Sl w2.drew (some ⟨w.heap.size + 1, 2, none⟩) 2 2 [l0', l1'] := Sl.of_box (w := w2.drew) (Bx.step Y1 P0) rfl (by omega) (by decide) (fun j hj => by
        have : j = 0 ∨ j = 1 := by omega
        rcases this with rfl | rfl <;> rfl)
      have HS0 := Lib.hid S0
      have HS1 := Lib.hid S1
      obtain ⟨t1, ht1⟩ : ∃ t, cmpI k k' = t := ⟨_, rfl⟩
      obtain ⟨t2, ht2⟩ : ∃ t, cmpI r r' = t := ⟨_, rfl⟩
      obtain ⟨t3, ht3⟩ : ∃ t, cmpL [l0, l1] [l0', l1'] = t := ⟨_, rfl⟩
      obtain ⟨t4, ht4⟩ : ∃ t, cmpL xs ys = t := ⟨_, rfl⟩
      have hy2 := HY.out
      rw [ht1, ht2, ht3, ht4] at hy2
      have C1 : Calls Tryd.prog 63 #[.int .i64 k, .int .i64 k'] w2.drew fun e w' => e = .returned (.int .i64 t1) ∧ w' = w2.drew := ht1 ▸ cmp_int k k' w2.drew
      have C2 : Calls Tryd.prog 63 #[.int .i64 r, .int .i64 r'] w2.drew fun e w' => e = .returned (.int .i64 t2) ∧ w' = w2.drew := ht2 ▸ cmp_int r r' w2.drew
      have C3 : Calls Tryd.prog 64 #[.slice (some ⟨w.heap.size, 2, none⟩) 2 2, .slice (some ⟨w.heap.size + 1, 2, none⟩) 2 2] w2.drew fun e w' => e = .returned (.int .i64 t3) ∧ w' = w2.drew := ht3 ▸ cmps_int _ 2 2 [l0, l1] _ 2 2 [l0', l1'] w2.drew S0 S1
      have C4 : Calls Tryd.prog 65 #[.slice A n c, .slice A' n' c'] w2.drew fun e w' => e = .returned (.int .i64 t4) ∧ w' = w2.drew := ht4 ▸ cmps_i64 A n c xs A' n' c' ys w2.drew (HS.out.step b3) (HS'.out.step b3)
      have SO : Sl (w2.alloc (.cells #[.int .i64 t1, .int .i64 t2, .int .i64 t3, .int .i64 t4] 3)).drew (some ⟨w2.heap.size, 0, none⟩) 4 4 [t1, t2, t3, t4] := Sl.of_box (w := (w2.alloc (.cells #[.int .i64 t1, .int .i64 t2, .int .i64 t3, .int .i64 t4] 3)).drew) (Bx.new w2 #[.int .i64 t1, .int .i64 t2, .int .i64 t3, .int .i64 t4] 3) rfl (by omega) (by decide) (fun j hj => by
        have : j = 0 ∨ j = 1 ∨ j = 2 ∨ j = 3 := by omega
        rcases this with rfl | rfl | rfl | rfl <;> rfl)
      have P5 : Below w2.heap.size w2 (w2.alloc (.cells #[.int .i64 t1, .int .i64 t2, .int .i64 t3, .int .i64 t4] 3)).drew := bdr (bal (Below.refl _ _) _)
      have C5 := (or_any _ 4 4 [t1, t2, t3, t4] _ SO)
      rw [hy2] at C5
      have D1 := Lib.hid C1
      have D2 := Lib.hid C2
      have D3 := Lib.hid C3
      have D4 := Lib.hid C4
      have D5 := Lib.hid C5
      clear C1 C2 C3 C4 C5 SO S0 S1 ht1 ht2 ht3 ht4 hy2
      go_region_held3 (fun u => (∀ i, u.cell? ⟨w.heap.size, i, none⟩ = #[.int .i64 k, .int .i64 r, .int .i64 l0, .int .i64 l1, .slice A n c][i]?) ∧ (∀ i, u.cell? ⟨w.heap.size + 1, i, none⟩ = #[.int .i64 k', .int .i64 r', .int .i64 l0', .int .i64 l1', .slice A' n' c'][i]?))
        (with_reducible first | exact hk _ P0 | exact hk _ P5)
        (first
          | (go_at_call 63; (with_reducible first | refine D1.out.mono ?_ | refine D2.out.mono ?_); rintro e u ⟨rfl, rfl⟩)
          | (go_at_call 64; (with_reducible refine D3.out.mono ?_); rintro e u ⟨rfl, rfl⟩)
          | (go_at_call 65; (with_reducible refine D4.out.mono ?_); rintro e u ⟨rfl, rfl⟩)
          | (go_at_call 62; (with_reducible refine D5.out.mono ?_); rintro e u ⟨rfl, rfl⟩))
      all_goals
        go_wp2
        go_ret2
        exact ⟨rfl, bst b2 P5⟩
    · rw [if_pos (show chkB ⟨k', r', l0', l1', ys⟩ ≠ 0 from hb)] at h
      obtain ⟨rfl, he⟩ := Prod.mk.inj h
      have HEB := Lib.hid (show achk k' r' l0' l1' ys = ec from he)
      have hne : (ec != 0) = true := by
        have h2 : ec ≠ 0 := fun e => hb (by rw [e] at he; exact he)
        simpa using h2
      clear h ha hb he ha'
      have HS := Lib.hid hs
      have HS' := Lib.hid hs'
      clear hs hs'
      go_enter Tryd.func34, Tryd.ntmps34
      go_wp2_with fail
      refine wp_loop_rounds 3 ?_
      rw [rounds_succ]
      go_wp2_with fail
      refine (acheck_any k r l0 l1 A n c xs 0 _ (HS.out.step (below4 _ _ _ _ _)) HEA.out).mono ?_
      rintro e w1 ⟨rfl, hb1⟩
      obtain ⟨X0, X1, X2, X3, b1⟩ := after4 hb1
      clear hb1
      have q0 := Bx.lt X0
      have q1 := Bx.lt X1
      have q2 := Bx.lt X2
      have c2 : ∀ i, w1.cell? ⟨w.heap.size + 1 + 1, i, none⟩ = _ := Bx.cell X2
      go_wp2_with fail
      rw [rounds_succ]
      go_wp2_with fail
      refine (acheck_any k' r' l0' l1' A' n' c' ys ec _ (HS'.out.step (bal b1 _)) HEB.out).mono ?_
      rintro e w2 ⟨rfl, hb2⟩
      have Y0 := (Bx.alloc X0 (.cells #[.int .i64 k', .int .i64 r', .int .i64 l0', .int .i64 l1', .slice A' n' c'] 25)).step hb2
      have Y1 := (Bx.alloc X1 (.cells #[.int .i64 k', .int .i64 r', .int .i64 l0', .int .i64 l1', .slice A' n' c'] 25)).step hb2
      have b2 := bst (bal b1 _) hb2
      have q0 := Bx.lt Y0
      have q1 := Bx.lt Y1
      clear c2 hb2 X0 X1 X2 X3
      go_wp2
      go_ret2
      exact ⟨rfl, b2⟩
  · unfold sCompare at h
    rw [if_pos (show chkB ⟨k, r, l0, l1, xs⟩ ≠ 0 from ha)] at h
    obtain ⟨rfl, he⟩ := Prod.mk.inj h
    have HEA := Lib.hid (show achk k r l0 l1 xs = ec from he)
    have hne : (ec != 0) = true := by
      have h2 : ec ≠ 0 := fun e => ha (by rw [e] at he; exact he)
      simpa using h2
    clear h he ha
    have HS := Lib.hid hs
    have HS' := Lib.hid hs'
    clear hs hs'
    go_enter Tryd.func34, Tryd.ntmps34
    go_wp2_with fail
    refine wp_loop_rounds 3 ?_
    rw [rounds_succ]
    go_wp2_with fail
    refine (acheck_any k r l0 l1 A n c xs ec _ (HS.out.step (below4 _ _ _ _ _)) HEA.out).mono ?_
    rintro e w1 ⟨rfl, hb1⟩
    obtain ⟨X0, X1, X2, X3, b1⟩ := after4 hb1
    clear hb1
    have q0 := Bx.lt X0
    have q1 := Bx.lt X1
    have q2 := Bx.lt X2
    have c2 : ∀ i, w1.cell? ⟨w.heap.size + 1 + 1, i, none⟩ = _ := Bx.cell X2
    go_wp2
    go_ret2
    exact ⟨rfl, b1⟩

theorem slFour (w : World) (a b c d : Int) : (w.alloc (.cells #[.int .i64 a, .int .i64 b, .int .i64 c, .int .i64 d] 2)).ownsRow w.heap.size 2 1 (.slice (some ⟨w.heap.size, 0, none⟩) 4 4) 4 (([a, b, c, d] : List Int).map (Value.int .i64)) :=
  ⟨by simp, .inr ⟨w.heap.size, 4, _, rfl, Nat.le_refl _, heap_alloc_new w _, by simp, by decide, by simp, by simp⟩⟩
set_option maxHeartbeats 4000000 in
theorem rCompare_any (k r l0 l1 : Int) (A : Option Addr) (n c : Nat) (xs : List Int) (k' r' l0' l1' : Int) (A' : Option Addr) (n' c' : Nat) (ys : List Int) (y ec : Int) (w : World) (hs : Sl w A n c xs) (hs' : Sl w A' n' c' ys)
    (h : sCompare ⟨k, r, l0, l1, xs⟩ ⟨k', r', l0', l1', ys⟩ = (y, ec)) :
    Calls Tryd.prog 36 #[.agg #[.int .i64 k, .int .i64 r, .int .i64 l0, .int .i64 l1, .slice A n c], .agg #[.int .i64 k', .int .i64 r', .int .i64 l0', .int .i64 l1', .slice A' n' c']] w fun e w' => e = .returned (.tuple #[.int .i64 y, .int .i64 ec]) ∧ Below w.heap.size w w' := by
  by_cases ha : achk k r l0 l1 xs = 0
  · have HEA := Lib.hid ha
    have ha' : chkB ⟨k, r, l0, l1, xs⟩ = 0 := ha
    unfold sCompare at h
    rw [if_neg (by simp [ha'])] at h
    by_cases hb : achk k' r' l0' l1' ys = 0
    · have HEB := Lib.hid hb
      have hb' : chkB ⟨k', r', l0', l1', ys⟩ = 0 := hb
      rw [if_neg (by simp [hb']), ← refCompare ha' hb'] at h
      obtain ⟨hy, rfl⟩ := Prod.mk.inj h
      simp only at hy
      have hn4 : n ≤ 400 := by have := achk_len ha; have := hs.len; omega
      have hn4' : n' ≤ 400 := by have := achk_len hb; have := hs'.len; omega
      have HY := Lib.hid hy
      have HXL := Lib.hid (show ([k, r, l0, l1] ++ xs).length = 4 + n by have := hs.len; simp; omega)
      have HYL := Lib.hid (show ([k', r', l0', l1'] ++ ys).length = 4 + n' by have := hs'.len; simp; omega)
      clear h hy ha hb ha' hb'
      have HS := Lib.hid hs
      have HS' := Lib.hid hs'
      have hcap := hs.cap
      have hcap' := hs'.cap
      have hmost := hs.most
      have hmost' := hs'.most
      clear hs hs'
      go_enter Tryd.func36, Tryd.ntmps36
      go_wp2_with fail
      refine (racheck_any k r l0 l1 A n c xs 0 _ (HS.out.step (below2 _ _ _)) HEA.out).mono ?_
      rintro e w1 ⟨rfl, hb1⟩
      obtain ⟨X0, X1, b1⟩ := after2 hb1
      clear hb1
      have q0 := Bx.lt X0
      have q1 := Bx.lt X1
      have c0 : ∀ i, w1.cell? ⟨w.heap.size, i, none⟩ = _ := Bx.cell X0
      have c1 : ∀ i, w1.cell? ⟨w.heap.size + 1, i, none⟩ = _ := Bx.cell X1
      go_wp2_with fail
      refine (racheck_any k' r' l0' l1' A' n' c' ys 0 _ (HS'.out.step b1) HEB.out).mono ?_
      rintro e w2 ⟨rfl, hb2⟩
      have Y0 := Bx.step X0 hb2
      have Y1 := Bx.step X1 hb2
      have b2 := bst b1 hb2
      have q0 := Y0.lt
      have q1 := Y1.lt
      clear c0 c1 hb2 X0 X1
      have c0 : ∀ i, w2.cell? ⟨w.heap.size, i, none⟩ = _ := Bx.cell Y0
      have c1 : ∀ i, w2.cell? ⟨w.heap.size + 1, i, none⟩ = _ := Bx.cell Y1
      have O1 := Lib.hid (slFour w2 k r l0 l1)
      have S1 := Lib.hid (HS.out.step (bal b2 (.cells #[.int .i64 k, .int .i64 r, .int .i64 l0, .int .i64 l1] 2)))
      go_wp2_with (at_builtin; refine wpList_append_sl rfl _ _ rfl rfl w2.heap.size _ 4 [k, r, l0, l1] rfl O1.out A n c xs rfl S1.out (by omega) (by simp) ?_)
      intro A3 c3 w3 hg
      have b3 : Below w2.heap.size w2 w3 := hg.below (bal (Below.refl _ _) _) (fun k hk => (O1.out.lt k hk).1)
      have S3 := Lib.hid (show Sl w3 A3 (4 + n) c3 ([k, r, l0, l1] ++ xs) from hg.2.1)
      have Z1 := Y1.step b3
      have p1 := Z1.lt
      have b4 := bst b2 b3
      have O2 := Lib.hid (slFour w3 k' r' l0' l1')
      have S2 := Lib.hid (HS'.out.step (bal b4 (.cells #[.int .i64 k', .int .i64 r', .int .i64 l0', .int .i64 l1'] 2)))
      clear c0 c1 hg
      have c1 : ∀ i, w3.cell? ⟨w.heap.size + 1, i, none⟩ = _ := Bx.cell Z1
      go_wp2_with (at_builtin; refine wpList_append_sl rfl _ _ rfl rfl w3.heap.size _ 4 [k', r', l0', l1'] rfl O2.out A' n' c' ys rfl S2.out (by omega) (by simp) ?_)
      intro A5 c5 w5 hg
      have b5 : Below w3.heap.size w3 w5 := hg.below (bal (Below.refl _ _) _) (fun k hk => (O2.out.lt k hk).1)
      have S5 := Lib.hid (show Sl w5 A5 (4 + n') c5 ([k', r', l0', l1'] ++ ys) from hg.2.1)
      have S4 := Lib.hid (S3.out.step b5)
      have b6 := bst b4 b5
      clear c1 hg O1 O2 S1 S2 S3
      generalize hX : [k, r, l0, l1] ++ xs = X at S4 HXL HY
      generalize hYY : [k', r', l0', l1'] ++ ys = Y at S5 HYL HY
      clear hX hYY
      have g3 := S4.out.cap
      have g5 := S5.out.cap
      have m3 := S4.out.most
      have m5 := S5.out.most
      obtain ⟨N, hN⟩ : ∃ N, N = 4 + n := ⟨_, rfl⟩
      obtain ⟨N', hN'⟩ : ∃ N, N = 4 + n' := ⟨_, rfl⟩
      rw [← hN] at S4 HXL g3
      rw [← hN'] at S5 HYL g5
      rw [← hN, ← hN']
      have HXN := Lib.hid hN
      have HYN := Lib.hid hN'
      have hNb : N ≤ 404 := by omega
      have hNb' : N' ≤ 404 := by omega
      clear hN hN'
      go_wp2
      go_loopw [9] (fun i wr => ∃ j : Nat, j ≤ N ∧ j ≤ N' ∧ i = .int .i64 j ∧ Below w5.heap.size w5 wr ∧ Hid (cmpM (X.drop j) (Y.drop j) = y)) (fun i _ => N - (intOf i).toNat)
      case atStart => exact ⟨0, Nat.zero_le _, Nat.zero_le _, rfl, Below.refl _ _, Lib.hid (by simpa using HY.out)⟩
      case round =>
        obtain ⟨j, hj, hj', rfl, hb, HI⟩ := hrel
        have hst := HI.out
        by_cases hlt : j < N ∧ j < N'
        · obtain ⟨hlt, hlt'⟩ := hlt
          obtain ⟨bb, o, rfl, hbl, hx⟩ := (S4.out.step hb).at_ hlt
          obtain ⟨bb', o', rfl, hbl', hy⟩ := (S5.out.step hb).at_ hlt'
          rw [cmpM_step (by rw [HXL.out]; exact hlt) (by rw [HYL.out]; exact hlt')] at hst
          generalize X.getD j 0 = u at hx hst
          generalize Y.getD j 0 = v at hy hst
          have h1 : (j : Int) < (N : Int) := by omega
          have h2 : (j : Int) < (N' : Int) := by omega
          have h3 : (0 : Int) ≤ (j : Int) := by omega
          by_cases huv : u = v
          · subst huv
            rw [if_neg (by simp [cmpI_zero])] at hst
            replace HI := Lib.hid hst
            have huu : (u != u) = false := by simp
            clear hst
            go_wp2
            go_quiet (fail)
            go_wp2
            go_roundw
            case rel => exact ⟨j + 1, by omega, by omega, by go_num, bdn hb _, HI⟩
            case measure => simp [intOf]; omega
          · have hz : cmpI u v ≠ 0 := fun e => huv (cmpI_zero.1 e)
            rw [if_pos hz] at hst
            have hne : (u != v) = true := by simpa using huv
            have HZ := Lib.hid hst
            clear hst HI huv hz
            go_wp2
            go_quiet (fail)
            obtain ⟨w7, hw7⟩ : ∃ w7, wr.drewN nq = w7 := ⟨_, rfl⟩
            have hx7 : w7.cell? ⟨bb, o + j, none⟩ = some (.int .i64 u) := by rw [← hw7]; exact hx
            have hy7 : w7.cell? ⟨bb', o' + j, none⟩ = some (.int .i64 v) := by rw [← hw7]; exact hy
            have b7 : Below w5.heap.size w5 w7 := by rw [← hw7]; exact bdn hb _
            rw [hw7]
            clear hw7 hx hy
            go_wp2
            go_quiet ((go_at_call 66; exact Calls.quiet_of_same (order_any u v _)))
            go_wp2
            go_ret2
            refine ⟨by rw [HZ.out]; rfl, bst b6 (bdn b7 _)⟩
        · rw [cmpM_end (by rw [HXL.out, HYL.out]; omega)] at hst
          subst hst
          clear HI
          have hlt2 : N ≤ j ∨ (j < N ∧ N' ≤ j) := by omega
          clear hlt
          rcases hlt2 with hlt | ⟨hlt, hlt'⟩
          · go_wp2
            go_ret2
            exact ⟨rfl, bst b6 hb⟩
          · go_wp2
            go_ret2
            exact ⟨rfl, bst b6 hb⟩
    · rw [if_pos (show chkB ⟨k', r', l0', l1', ys⟩ ≠ 0 from hb)] at h
      obtain ⟨rfl, he⟩ := Prod.mk.inj h
      have HEB := Lib.hid (show achk k' r' l0' l1' ys = ec from he)
      have h2 : ec ≠ 0 := fun e => hb (by rw [e] at he; exact he)
      have hne : (ec != 0) = true := by simpa using h2
      have hne' : (ec == 0) = false := by simpa using h2
      clear h ha hb he ha' h2
      have HS := Lib.hid hs
      have HS' := Lib.hid hs'
      have hcap := hs.cap
      have hcap' := hs'.cap
      have hmost := hs.most
      have hmost' := hs'.most
      clear hs hs'
      go_enter Tryd.func36, Tryd.ntmps36
      go_wp2_with fail
      refine (racheck_any k r l0 l1 A n c xs 0 _ (HS.out.step (below2 _ _ _)) HEA.out).mono ?_
      rintro e w1 ⟨rfl, hb1⟩
      obtain ⟨X0, X1, b1⟩ := after2 hb1
      clear hb1
      have q0 := Bx.lt X0
      have q1 := Bx.lt X1
      have c0 : ∀ i, w1.cell? ⟨w.heap.size, i, none⟩ = _ := Bx.cell X0
      have c1 : ∀ i, w1.cell? ⟨w.heap.size + 1, i, none⟩ = _ := Bx.cell X1
      go_wp2_with fail
      refine (racheck_any k' r' l0' l1' A' n' c' ys ec _ (HS'.out.step b1) HEB.out).mono ?_
      rintro e w2 ⟨rfl, hb2⟩
      have Y0 := Bx.step X0 hb2
      have Y1 := Bx.step X1 hb2
      have b2 := bst b1 hb2
      have q0 := Y0.lt
      have q1 := Y1.lt
      clear c0 c1 hb2 X0 X1
      go_wp2
      go_ret2
      exact ⟨rfl, b2⟩
  · unfold sCompare at h
    rw [if_pos (show chkB ⟨k, r, l0, l1, xs⟩ ≠ 0 from ha)] at h
    obtain ⟨rfl, he⟩ := Prod.mk.inj h
    have HEA := Lib.hid (show achk k r l0 l1 xs = ec from he)
    have h2 : ec ≠ 0 := fun e => ha (by rw [e] at he; exact he)
    have hne : (ec != 0) = true := by simpa using h2
    have hne' : (ec == 0) = false := by simpa using h2
    clear h he ha h2
    have HS := Lib.hid hs
    have HS' := Lib.hid hs'
    have hcap := hs.cap
    have hcap' := hs'.cap
    have hmost := hs.most
    have hmost' := hs'.most
    clear hs hs'
    go_enter Tryd.func36, Tryd.ntmps36
    go_wp2_with fail
    refine (racheck_any k r l0 l1 A n c xs ec _ (HS.out.step (below2 _ _ _)) HEA.out).mono ?_
    rintro e w1 ⟨rfl, hb1⟩
    obtain ⟨X0, X1, b1⟩ := after2 hb1
    clear hb1
    have q0 := Bx.lt X0
    have q1 := Bx.lt X1
    have c0 : ∀ i, w1.cell? ⟨w.heap.size, i, none⟩ = _ := Bx.cell X0
    have c1 : ∀ i, w1.cell? ⟨w.heap.size + 1, i, none⟩ = _ := Bx.cell X1
    go_wp2
    go_ret2
    exact ⟨rfl, b1⟩
end Go.Proofs.YtimpdfafodaadaaDoor

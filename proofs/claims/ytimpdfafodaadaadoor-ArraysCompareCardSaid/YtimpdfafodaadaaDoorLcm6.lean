/-
  The law ArraysCompare: it returns true.
-/
import Derived.Test.YtimpdfafodaadaaDoorAw6
import Derived.Test.YtimpdfafodaadaaDoorCml
import Derived.Deep.CutRange
import Derived.Deep.Cut
namespace Go.Proofs.YtimpdfafodaadaaDoor
open Go.RowKit
attribute [local go_sem] Oper.semAt_some

theorem cmpL_first {x y : Int} {xs ys : List Int} (h : x ≠ y) : cmpL (x :: xs) (y :: ys) = if x - y < 0 then -1 else 1 := by
  rw [cmpL_cons]
  rcases cmpI_cases x y with ⟨h1, g⟩ | ⟨h1, g⟩ | ⟨h1, g⟩
  · rw [g, if_pos (by simp), if_pos (by omega)]
  · exact absurd h1 h
  · rw [g, if_pos (by simp), if_neg (by omega)]
theorem cmpL_next {x : Int} {xs ys : List Int} : cmpL (x :: xs) (x :: ys) = cmpL xs ys := by
  rw [cmpL_cons]
  rcases cmpI_cases x x with ⟨h1, g⟩ | ⟨h1, g⟩ | ⟨h1, g⟩
  · omega
  · rw [g]; simp
  · omega
set_option maxRecDepth 100000 in
set_option maxHeartbeats 8000000 in
theorem lawCompare6 (k r l0 l1 : Int) (A : Option Addr) (n c : Nat) (xs : List Int) (k' r' l0' l1' : Int) (A' : Option Addr) (n' c' : Nat) (ys : List Int) (k'' r'' l0'' l1'' : Int) (A'' : Option Addr) (n'' c'' : Nat) (zs : List Int) (w : World)
    (hs : Sl w A n c xs) (hs' : Sl w A' n' c' ys) (hs'' : Sl w A'' n'' c'' zs) (hT : Tab8 w) :
    Calls Tryd.prog 9 #[.agg #[.int .i64 k, .int .i64 r, .int .i64 l0, .int .i64 l1, .slice A n c], .agg #[.int .i64 k', .int .i64 r', .int .i64 l0', .int .i64 l1', .slice A' n' c'], .agg #[.int .i64 k'', .int .i64 r'', .int .i64 l0'', .int .i64 l1'', .slice A'' n'' c'']] w fun e w' => e = .returned (.bool true) ∧ Below w.heap.size w w' := by
  have HS := Lib.hid hs
  have HS' := Lib.hid hs'
  have HS'' := Lib.hid hs''
  have HT := Lib.hid hT
  clear hs hs' hs'' hT
  by_cases hf : 500 < n
  · have HF := Lib.hid (decide_eq_true hf)
    clear hf
    go_enter Tryd.func9, Tryd.ntmps9
    go_wp2_with fail
    refine (far6_any _ _ _ _ _ _ _ xs _ (HS.out.step (below3 _ _ _ _))).mono ?_
    rintro e w1 ⟨rfl, hb1⟩
    obtain ⟨X0, X1, X2, b1⟩ := after3 hb1
    clear hb1
    rw [HF.out]
    go_wp2_with fail
    refine (awake_any _ (Tab8.step HT.out b1)).mono ?_
    rintro e wz ⟨rfl, hbz⟩
    go_wp2
    go_ret
    exact ⟨rfl, bst b1 hbz⟩
  have HF := Lib.hid (decide_eq_false hf)
  clear hf
  by_cases hf : 500 < n'
  · have HF' := Lib.hid (decide_eq_true hf)
    clear hf
    go_enter Tryd.func9, Tryd.ntmps9
    go_wp2_with fail
    refine (far6_any _ _ _ _ _ _ _ xs _ (HS.out.step (below3 _ _ _ _))).mono ?_
    rintro e w1 ⟨rfl, hb1⟩
    obtain ⟨X0, X1, X2, b1⟩ := after3 hb1
    clear hb1
    rw [HF.out]
    have c1 : ∀ i, w1.cell? ⟨w.heap.size + 1, i, none⟩ = _ := Bx.cell X1
    go_wp2_with fail
    refine (far6_any _ _ _ _ _ _ _ ys _ (HS'.out.step b1)).mono ?_
    rintro e w2 ⟨rfl, hb2⟩
    have b2 := bst b1 hb2
    replace X0 := Bx.step X0 hb2
    replace X1 := Bx.step X1 hb2
    replace X2 := Bx.step X2 hb2
    rw [HF'.out]
    clear c1 hb2
    go_wp2_with fail
    refine (awake_any _ (Tab8.step HT.out b2)).mono ?_
    rintro e wz ⟨rfl, hbz⟩
    go_wp2
    go_ret
    exact ⟨rfl, bst b2 hbz⟩
  have HF' := Lib.hid (decide_eq_false hf)
  clear hf
  by_cases hf : 500 < n''
  · have HF'' := Lib.hid (decide_eq_true hf)
    clear hf
    go_enter Tryd.func9, Tryd.ntmps9
    go_wp2_with fail
    refine (far6_any _ _ _ _ _ _ _ xs _ (HS.out.step (below3 _ _ _ _))).mono ?_
    rintro e w1 ⟨rfl, hb1⟩
    obtain ⟨X0, X1, X2, b1⟩ := after3 hb1
    clear hb1
    rw [HF.out]
    have c1 : ∀ i, w1.cell? ⟨w.heap.size + 1, i, none⟩ = _ := Bx.cell X1
    go_wp2_with fail
    refine (far6_any _ _ _ _ _ _ _ ys _ (HS'.out.step b1)).mono ?_
    rintro e w2 ⟨rfl, hb2⟩
    have b2 := bst b1 hb2
    replace X0 := Bx.step X0 hb2
    replace X1 := Bx.step X1 hb2
    replace X2 := Bx.step X2 hb2
    rw [HF'.out]
    clear c1 hb2
    have c2 : ∀ i, w2.cell? ⟨w.heap.size + 1 + 1, i, none⟩ = _ := Bx.cell X2
    go_wp2_with fail
    refine (far6_any _ _ _ _ _ _ _ zs _ (HS''.out.step b2)).mono ?_
    rintro e w3 ⟨rfl, hb3⟩
    have b3 := bst b2 hb3
    replace X0 := Bx.step X0 hb3
    replace X1 := Bx.step X1 hb3
    replace X2 := Bx.step X2 hb3
    rw [HF''.out]
    clear c2 hb3
    go_wp2_with fail
    refine (awake_any _ (Tab8.step HT.out b3)).mono ?_
    rintro e wz ⟨rfl, hbz⟩
    go_wp2
    go_ret
    exact ⟨rfl, bst b3 hbz⟩
  have HF'' := Lib.hid (decide_eq_false hf)
  clear hf
  by_cases hv : chkB ⟨k, r, l0, l1, xs⟩ = 0 ∧ chkB ⟨k', r', l0', l1', ys⟩ = 0
  · obtain ⟨ha, hb⟩ := hv
    by_cases hc : chkB ⟨k'', r'', l0'', l1'', zs⟩ = 0
    · have h1 := sCompare_ok ha hb
      have h2 := sCompare_ok hb hc
      have h3 := sCompare_ok ha hc
      have h4 := sCompare_ok hb ha
      rw [cmpL_anti] at h4
      obtain ⟨p, hp⟩ : ∃ p, cmpL (asL ⟨k, r, l0, l1, xs⟩) (asL ⟨k', r', l0', l1', ys⟩) = p := ⟨_, rfl⟩
      obtain ⟨q, hq⟩ : ∃ p, cmpL (asL ⟨k', r', l0', l1', ys⟩) (asL ⟨k'', r'', l0'', l1'', zs⟩) = p := ⟨_, rfl⟩
      obtain ⟨s, hs⟩ : ∃ p, cmpL (asL ⟨k, r, l0, l1, xs⟩) (asL ⟨k'', r'', l0'', l1'', zs⟩) = p := ⟨_, rfl⟩
      have rp := cmpL_range (asL ⟨k, r, l0, l1, xs⟩) (asL ⟨k', r', l0', l1', ys⟩)
      have rq := cmpL_range (asL ⟨k', r', l0', l1', ys⟩) (asL ⟨k'', r'', l0'', l1'', zs⟩)
      have rs := cmpL_range (asL ⟨k, r, l0, l1, xs⟩) (asL ⟨k'', r'', l0'', l1'', zs⟩)
      have tr := cmpL_trans (asL ⟨k, r, l0, l1, xs⟩) (asL ⟨k', r', l0', l1', ys⟩) (asL ⟨k'', r'', l0'', l1'', zs⟩)
      have hz := (cmpL_zero (asL ⟨k, r, l0, l1, xs⟩) (asL ⟨k', r', l0', l1', ys⟩)).trans asL_inj
      rw [hp] at h1 h4 rp tr hz
      rw [hq] at h2 rq tr
      rw [hs] at h3 rs tr
      simp only at hz
      have H1 := Lib.hid h1
      have H2 := Lib.hid h2
      have H3 := Lib.hid h3
      have H4 := Lib.hid h4
      have HZ := Lib.hid hz
      have HP := Lib.hid hp
      have RR := Lib.hid (show (p = -1 ∨ p = 0 ∨ p = 1) ∧ (q = -1 ∨ q = 0 ∨ q = 1) ∧ (s = -1 ∨ s = 0 ∨ s = 1) ∧ (p ≤ 0 → q ≤ 0 → s ≤ 0 ∧ (p < 0 → s < 0)) from ⟨rp, rq, rs, tr⟩)
      have HVA := Lib.hid (achk_ok (show achk k r l0 l1 xs = 0 from ha))
      have HVB := Lib.hid (achk_ok (show achk k' r' l0' l1' ys = 0 from hb))
      clear h1 h2 h3 h4 hz hp hq hs rp rq rs tr ha hb hc
      go_enter Tryd.func9, Tryd.ntmps9
      go_wp2_with fail
      refine (far6_any _ _ _ _ _ _ _ xs _ (HS.out.step (below3 _ _ _ _))).mono ?_
      rintro e w1 ⟨rfl, hb1⟩
      obtain ⟨X0, X1, X2, b1⟩ := after3 hb1
      clear hb1
      rw [HF.out]
      have c1 : ∀ i, w1.cell? ⟨w.heap.size + 1, i, none⟩ = _ := Bx.cell X1
      go_wp2_with fail
      refine (far6_any _ _ _ _ _ _ _ ys _ (HS'.out.step b1)).mono ?_
      rintro e w2 ⟨rfl, hb2⟩
      have b2 := bst b1 hb2
      replace X0 := Bx.step X0 hb2
      replace X1 := Bx.step X1 hb2
      replace X2 := Bx.step X2 hb2
      rw [HF'.out]
      clear c1 hb2
      have c2 : ∀ i, w2.cell? ⟨w.heap.size + 1 + 1, i, none⟩ = _ := Bx.cell X2
      go_wp2_with fail
      refine (far6_any _ _ _ _ _ _ _ zs _ (HS''.out.step b2)).mono ?_
      rintro e w3 ⟨rfl, hb3⟩
      have b3 := bst b2 hb3
      replace X0 := Bx.step X0 hb3
      replace X1 := Bx.step X1 hb3
      replace X2 := Bx.step X2 hb3
      rw [HF''.out]
      clear c2 hb3
      have d0 : ∀ i, w3.cell? ⟨w.heap.size, i, none⟩ = _ := Bx.cell X0
      have d1 : ∀ i, w3.cell? ⟨w.heap.size + 1, i, none⟩ = _ := Bx.cell X1
      have d2 : ∀ i, w3.cell? ⟨w.heap.size + 1 + 1, i, none⟩ = _ := Bx.cell X2
      go_wp2_with fail
      refine (aCompare_any k r l0 l1 A n c xs k' r' l0' l1' A' n' c' ys p 0 _ (HS.out.step b3) (HS'.out.step b3) H1.out).mono ?_
      rintro e w4 ⟨rfl, hst⟩
      have b4 := bst b3 hst
      replace X0 := Bx.step X0 hst
      replace X1 := Bx.step X1 hst
      replace X2 := Bx.step X2 hst
      clear d0 d1 d2 hst
      have d0 : ∀ i, w4.cell? ⟨w.heap.size, i, none⟩ = _ := Bx.cell X0
      have d1 : ∀ i, w4.cell? ⟨w.heap.size + 1, i, none⟩ = _ := Bx.cell X1
      have d2 : ∀ i, w4.cell? ⟨w.heap.size + 1 + 1, i, none⟩ = _ := Bx.cell X2
      go_wp2_with fail
      refine (aCompare_any k' r' l0' l1' A' n' c' ys k'' r'' l0'' l1'' A'' n'' c'' zs q 0 _ (HS'.out.step b4) (HS''.out.step b4) H2.out).mono ?_
      rintro e w5 ⟨rfl, hst⟩
      have b5 := bst b4 hst
      replace X0 := Bx.step X0 hst
      replace X1 := Bx.step X1 hst
      replace X2 := Bx.step X2 hst
      clear d0 d1 d2 hst
      have d0 : ∀ i, w5.cell? ⟨w.heap.size, i, none⟩ = _ := Bx.cell X0
      have d1 : ∀ i, w5.cell? ⟨w.heap.size + 1, i, none⟩ = _ := Bx.cell X1
      have d2 : ∀ i, w5.cell? ⟨w.heap.size + 1 + 1, i, none⟩ = _ := Bx.cell X2
      go_wp2_with fail
      refine (aCompare_any k r l0 l1 A n c xs k'' r'' l0'' l1'' A'' n'' c'' zs s 0 _ (HS.out.step b5) (HS''.out.step b5) H3.out).mono ?_
      rintro e w6 ⟨rfl, hst⟩
      have b6 := bst b5 hst
      replace X0 := Bx.step X0 hst
      replace X1 := Bx.step X1 hst
      replace X2 := Bx.step X2 hst
      clear d0 d1 d2 hst
      have d0 : ∀ i, w6.cell? ⟨w.heap.size, i, none⟩ = _ := Bx.cell X0
      have d1 : ∀ i, w6.cell? ⟨w.heap.size + 1, i, none⟩ = _ := Bx.cell X1
      have d2 : ∀ i, w6.cell? ⟨w.heap.size + 1 + 1, i, none⟩ = _ := Bx.cell X2
      go_wp2_with fail
      refine (aCompare_any k' r' l0' l1' A' n' c' ys k r l0 l1 A n c xs (-p) 0 _ (HS'.out.step b6) (HS.out.step b6) H4.out).mono ?_
      rintro e w7 ⟨rfl, hst⟩
      have b7 := bst b6 hst
      replace X0 := Bx.step X0 hst
      replace X1 := Bx.step X1 hst
      replace X2 := Bx.step X2 hst
      clear d0 d1 d2 hst
      go_upto_region 9 with fail
      go_cut [118] from 75 to 118 (fun t wx => t = .bool false ∧ Below w7.heap.size w7 wx)
      case first =>
        have d0 : ∀ i, w7.cell? ⟨w.heap.size, i, none⟩ = _ := Bx.cell X0
        have d1 : ∀ i, w7.cell? ⟨w.heap.size + 1, i, none⟩ = _ := Bx.cell X1
        obtain ⟨rp, rq, rs, rt⟩ := RR.out
        have hsame : ∀ u, decide (k = k' ∧ r = r' ∧ l0 = l0' ∧ l1 = l1' ∧ xs = ys) = u → u = decide (p = 0) := fun u h => by
          rw [← h]
          exact decide_eq_decide.2 HZ.out.symm
        obtain ⟨u, hu⟩ : ∃ u, decide (k = k' ∧ r = r' ∧ l0 = l0' ∧ l1 = l1' ∧ xs = ys) = u := ⟨_, rfl⟩
        have hu2 := hsame u hu
        have HU := Lib.hid hu
        have G := Lib.hid (asame_any k r l0 l1 A n c xs k' r' l0' l1' A' n' c' ys w7 (HS.out.step b7) (HS'.out.step b7))
        clear hsame hu H1 H2 H3 H4 HZ HP RR
        rcases rp with rfl | rfl | rfl
        all_goals
          rcases rq with rfl | rfl | rfl
          all_goals
            rcases rs with rfl | rfl | rfl
            all_goals
              first
                | (exfalso; revert rt; decide)
                | (simp at hu2
                   subst hu2
                   clear rt
                   go_wp2_with fail
                   refine G.out.mono ?_
                   rintro e w8 ⟨rfl, hb8⟩
                   rw [HU.out]
                   go_wp2_with fail
                   go_meet
                   exact ⟨rfl, hb8⟩)
      case rest =>
        obtain ⟨rfl, hst⟩ := hcut
        obtain ⟨w8, hw8⟩ : ∃ w8, wc = w8 := ⟨_, rfl⟩
        rw [hw8] at hst
        rw [hw8]
        clear hw8
        have b8 := bst b7 hst
        replace X0 := Bx.step X0 hst
        replace X1 := Bx.step X1 hst
        have d0 : ∀ i, w8.cell? ⟨w.heap.size, i, none⟩ = _ := Bx.cell X0
        have d1 : ∀ i, w8.cell? ⟨w.heap.size + 1, i, none⟩ = _ := Bx.cell X1
        clear H1 H2 H3 H4 HZ RR
        go_wp2_with fail
        refine (alike_any k r l0 l1 A n c k' r' l0' l1' A' n' c' w8).mono ?_
        rintro e w9 ⟨rfl, hb9⟩
        have b9 := bst b8 hb9
        replace X0 := Bx.step X0 hb9
        replace X1 := Bx.step X1 hb9
        clear d0 d1 hst
        have e0 : ∀ i, w9.cell? ⟨w.heap.size, i, none⟩ = _ := Bx.cell X0
        have e1 : ∀ i, w9.cell? ⟨w.heap.size + 1, i, none⟩ = _ := Bx.cell X1
        by_cases hl : k = k' ∧ r = r' ∧ l0 = l0' ∧ l1 = l1'
        · rw [decide_eq_true hl]
          go_wp2_with fail
          refine (awake_any _ (Tab8.step HT.out b9)).mono ?_
          rintro e wz ⟨rfl, hbz⟩
          go_wp2
          go_ret
          exact ⟨rfl, bst b9 hbz⟩
        · rw [decide_eq_false hl]
          have HLK := Lib.hid hl
          obtain ⟨ka, sa, _, _⟩ := HVA.out
          obtain ⟨kb, sb, _, _⟩ := HVB.out
          have ba : (0 ≤ r ∧ r ≤ 2) ∧ (0 ≤ l0 ∧ l0 ≤ 400) ∧ (0 ≤ l1 ∧ l1 ≤ 400) := by rcases shp_ok sa with h | h | h <;> omega
          have bb : (0 ≤ r' ∧ r' ≤ 2) ∧ (0 ≤ l0' ∧ l0' ≤ 400) ∧ (0 ≤ l1' ∧ l1' ≤ 400) := by rcases shp_ok sb with h | h | h <;> omega
          obtain ⟨⟨a1, a2⟩, ⟨a3, a4⟩, ⟨a5, a6⟩⟩ := ba
          obtain ⟨⟨a1', a2'⟩, ⟨a3', a4'⟩, ⟨a5', a6'⟩⟩ := bb
          have kk1 : 1 ≤ k ∧ k ≤ 2 := by omega
          have kk2 : 1 ≤ k' ∧ k' ≤ 2 := by omega
          obtain ⟨kk1, kk3⟩ := kk1
          obtain ⟨kk2, kk4⟩ := kk2
          have hpp := HP.out
          unfold asL at hpp
          simp only at hpp
          clear sa sb ka kb hl hb9 HVA HVB
          by_cases g1 : k = k'
          · subst g1
            rw [cmpL_next] at hpp
            by_cases g2 : r = r'
            · subst g2
              rw [cmpL_next] at hpp
              by_cases g3 : l0 = l0'
              · subst g3
                rw [cmpL_next] at hpp
                have g4 : l1 ≠ l1' := fun e => HLK.out ⟨rfl, rfl, rfl, e⟩
                rw [cmpL_first g4] at hpp
                have hkk : ((k - k) == 0) = true := by simp
                have hrr : ((r - r) == 0) = true := by simp
                have hll : ((l0 - l0) == 0) = true := by simp
                have hx : ((l1 - l1') == 0) = false := by simp; omega
                by_cases hlt : l1 - l1' < 0
                · rw [if_pos hlt] at hpp
                  subst hpp
                  clear g4 HP
                  go_wp2
                  refine wp_loop_rounds 3 ?_
                  rw [rounds_succ]
                  go_wp2
                  go_quiet (fail)
                  have b10 := bdn b9 nq
                  replace X0 := Bx.drewN X0 nq
                  replace X1 := Bx.drewN X1 nq
                  obtain ⟨w10, hwv⟩ : ∃ v, w9.drewN nq = v := ⟨_, rfl⟩
                  rw [hwv] at X0 X1 b10
                  rw [hwv]
                  clear hwv e0 e1
                  have e0 : ∀ i, w10.cell? ⟨w.heap.size, i, none⟩ = _ := Bx.cell X0
                  have e1 : ∀ i, w10.cell? ⟨w.heap.size + 1, i, none⟩ = _ := Bx.cell X1
                  go_wp2
                  rw [rounds_succ]
                  go_wp2
                  go_quiet (fail)
                  have b11 := bdn b10 nq
                  replace X0 := Bx.drewN X0 nq
                  replace X1 := Bx.drewN X1 nq
                  obtain ⟨w11, hwv⟩ : ∃ v, w10.drewN nq = v := ⟨_, rfl⟩
                  rw [hwv] at X0 X1 b11
                  rw [hwv]
                  clear hwv e0 e1
                  have e0 : ∀ i, w11.cell? ⟨w.heap.size, i, none⟩ = _ := Bx.cell X0
                  have e1 : ∀ i, w11.cell? ⟨w.heap.size + 1, i, none⟩ = _ := Bx.cell X1
                  go_wp2
                  rw [rounds_succ]
                  go_wp2_with fail
                  refine (awake_any _ (Tab8.step HT.out b11)).mono ?_
                  rintro e wz ⟨rfl, hbz⟩
                  go_wp2
                  go_ret
                  exact ⟨rfl, bst b11 hbz⟩
                · rw [if_neg hlt] at hpp
                  subst hpp
                  clear g4 HP
                  go_wp2
                  refine wp_loop_rounds 3 ?_
                  rw [rounds_succ]
                  go_wp2
                  go_quiet (fail)
                  have b10 := bdn b9 nq
                  replace X0 := Bx.drewN X0 nq
                  replace X1 := Bx.drewN X1 nq
                  obtain ⟨w10, hwv⟩ : ∃ v, w9.drewN nq = v := ⟨_, rfl⟩
                  rw [hwv] at X0 X1 b10
                  rw [hwv]
                  clear hwv e0 e1
                  have e0 : ∀ i, w10.cell? ⟨w.heap.size, i, none⟩ = _ := Bx.cell X0
                  have e1 : ∀ i, w10.cell? ⟨w.heap.size + 1, i, none⟩ = _ := Bx.cell X1
                  go_wp2
                  rw [rounds_succ]
                  go_wp2
                  go_quiet (fail)
                  have b11 := bdn b10 nq
                  replace X0 := Bx.drewN X0 nq
                  replace X1 := Bx.drewN X1 nq
                  obtain ⟨w11, hwv⟩ : ∃ v, w10.drewN nq = v := ⟨_, rfl⟩
                  rw [hwv] at X0 X1 b11
                  rw [hwv]
                  clear hwv e0 e1
                  have e0 : ∀ i, w11.cell? ⟨w.heap.size, i, none⟩ = _ := Bx.cell X0
                  have e1 : ∀ i, w11.cell? ⟨w.heap.size + 1, i, none⟩ = _ := Bx.cell X1
                  go_wp2
                  rw [rounds_succ]
                  go_wp2_with fail
                  refine (awake_any _ (Tab8.step HT.out b11)).mono ?_
                  rintro e wz ⟨rfl, hbz⟩
                  go_wp2
                  go_ret
                  exact ⟨rfl, bst b11 hbz⟩
              · rw [cmpL_first g3] at hpp
                have hkk : ((k - k) == 0) = true := by simp
                have hrr : ((r - r) == 0) = true := by simp
                have hx : ((l0 - l0') == 0) = false := by simp; omega
                by_cases hlt : l0 - l0' < 0
                · rw [if_pos hlt] at hpp
                  subst hpp
                  clear g3 HP
                  go_wp2
                  refine wp_loop_rounds 3 ?_
                  rw [rounds_succ]
                  go_wp2
                  go_quiet (fail)
                  have b10 := bdn b9 nq
                  replace X0 := Bx.drewN X0 nq
                  replace X1 := Bx.drewN X1 nq
                  obtain ⟨w10, hwv⟩ : ∃ v, w9.drewN nq = v := ⟨_, rfl⟩
                  rw [hwv] at X0 X1 b10
                  rw [hwv]
                  clear hwv e0 e1
                  have e0 : ∀ i, w10.cell? ⟨w.heap.size, i, none⟩ = _ := Bx.cell X0
                  have e1 : ∀ i, w10.cell? ⟨w.heap.size + 1, i, none⟩ = _ := Bx.cell X1
                  go_wp2
                  rw [rounds_succ]
                  go_wp2_with fail
                  refine (awake_any _ (Tab8.step HT.out b10)).mono ?_
                  rintro e wz ⟨rfl, hbz⟩
                  go_wp2
                  go_ret
                  exact ⟨rfl, bst b10 hbz⟩
                · rw [if_neg hlt] at hpp
                  subst hpp
                  clear g3 HP
                  go_wp2
                  refine wp_loop_rounds 3 ?_
                  rw [rounds_succ]
                  go_wp2
                  go_quiet (fail)
                  have b10 := bdn b9 nq
                  replace X0 := Bx.drewN X0 nq
                  replace X1 := Bx.drewN X1 nq
                  obtain ⟨w10, hwv⟩ : ∃ v, w9.drewN nq = v := ⟨_, rfl⟩
                  rw [hwv] at X0 X1 b10
                  rw [hwv]
                  clear hwv e0 e1
                  have e0 : ∀ i, w10.cell? ⟨w.heap.size, i, none⟩ = _ := Bx.cell X0
                  have e1 : ∀ i, w10.cell? ⟨w.heap.size + 1, i, none⟩ = _ := Bx.cell X1
                  go_wp2
                  rw [rounds_succ]
                  go_wp2_with fail
                  refine (awake_any _ (Tab8.step HT.out b10)).mono ?_
                  rintro e wz ⟨rfl, hbz⟩
                  go_wp2
                  go_ret
                  exact ⟨rfl, bst b10 hbz⟩
            · rw [cmpL_first g2] at hpp
              have hkk : ((k - k) == 0) = true := by simp
              have hx : ((r - r') == 0) = false := by simp; omega
              by_cases hlt : r - r' < 0
              · rw [if_pos hlt] at hpp
                subst hpp
                clear g2 HP
                go_wp2
                refine wp_loop_rounds 3 ?_
                rw [rounds_succ]
                go_wp2_with fail
                refine (awake_any _ (Tab8.step HT.out b9)).mono ?_
                rintro e wz ⟨rfl, hbz⟩
                go_wp2
                go_ret
                exact ⟨rfl, bst b9 hbz⟩
              · rw [if_neg hlt] at hpp
                subst hpp
                clear g2 HP
                go_wp2
                refine wp_loop_rounds 3 ?_
                rw [rounds_succ]
                go_wp2_with fail
                refine (awake_any _ (Tab8.step HT.out b9)).mono ?_
                rintro e wz ⟨rfl, hbz⟩
                go_wp2
                go_ret
                exact ⟨rfl, bst b9 hbz⟩
          · rw [cmpL_first g1] at hpp
            have hx : ((k - k') == 0) = false := by simp; omega
            by_cases hlt : k - k' < 0
            · rw [if_pos hlt] at hpp
              subst hpp
              clear g1 HP
              go_wp2
              refine wp_loop_rounds 3 ?_
              rw [rounds_succ]
              go_wp2_with fail
              refine (awake_any _ (Tab8.step HT.out b9)).mono ?_
              rintro e wz ⟨rfl, hbz⟩
              go_wp2
              go_ret
              exact ⟨rfl, bst b9 hbz⟩
            · rw [if_neg hlt] at hpp
              subst hpp
              clear g1 HP
              go_wp2
              refine wp_loop_rounds 3 ?_
              rw [rounds_succ]
              go_wp2_with fail
              refine (awake_any _ (Tab8.step HT.out b9)).mono ?_
              rintro e wz ⟨rfl, hbz⟩
              go_wp2
              go_ret
              exact ⟨rfl, bst b9 hbz⟩
    · have h1 := sCompare_ok ha hb
      have h4 := sCompare_ok hb ha
      have h2 : (sCompare ⟨k', r', l0', l1', ys⟩ ⟨k'', r'', l0'', l1'', zs⟩).2 ≠ 0 := fun h => hc (sCompare_bad.1 h).2
      obtain ⟨p, hp⟩ : ∃ p, cmpL (asL ⟨k, r, l0, l1, xs⟩) (asL ⟨k', r', l0', l1', ys⟩) = p := ⟨_, rfl⟩
      obtain ⟨t, ht⟩ : ∃ p, cmpL (asL ⟨k', r', l0', l1', ys⟩) (asL ⟨k, r, l0, l1, xs⟩) = p := ⟨_, rfl⟩
      obtain ⟨⟨q, eq⟩, hq⟩ : ∃ R, sCompare ⟨k', r', l0', l1', ys⟩ ⟨k'', r'', l0'', l1'', zs⟩ = R := ⟨_, rfl⟩
      obtain ⟨⟨s, es⟩, hs⟩ : ∃ R, sCompare ⟨k, r, l0, l1, xs⟩ ⟨k'', r'', l0'', l1'', zs⟩ = R := ⟨_, rfl⟩
      rw [hp] at h1
      rw [ht] at h4
      rw [hq] at h2
      have hne : (eq != 0) = true := by simpa using h2
      have H1 := Lib.hid h1
      have H2 := Lib.hid hq
      have H3 := Lib.hid hs
      have H4 := Lib.hid h4
      clear h1 h4 h2 hp ht hq hs ha hb hc
      go_enter Tryd.func9, Tryd.ntmps9
      go_wp2_with fail
      refine (far6_any _ _ _ _ _ _ _ xs _ (HS.out.step (below3 _ _ _ _))).mono ?_
      rintro e w1 ⟨rfl, hb1⟩
      obtain ⟨X0, X1, X2, b1⟩ := after3 hb1
      clear hb1
      rw [HF.out]
      have c1 : ∀ i, w1.cell? ⟨w.heap.size + 1, i, none⟩ = _ := Bx.cell X1
      go_wp2_with fail
      refine (far6_any _ _ _ _ _ _ _ ys _ (HS'.out.step b1)).mono ?_
      rintro e w2 ⟨rfl, hb2⟩
      have b2 := bst b1 hb2
      replace X0 := Bx.step X0 hb2
      replace X1 := Bx.step X1 hb2
      replace X2 := Bx.step X2 hb2
      rw [HF'.out]
      clear c1 hb2
      have c2 : ∀ i, w2.cell? ⟨w.heap.size + 1 + 1, i, none⟩ = _ := Bx.cell X2
      go_wp2_with fail
      refine (far6_any _ _ _ _ _ _ _ zs _ (HS''.out.step b2)).mono ?_
      rintro e w3 ⟨rfl, hb3⟩
      have b3 := bst b2 hb3
      replace X0 := Bx.step X0 hb3
      replace X1 := Bx.step X1 hb3
      replace X2 := Bx.step X2 hb3
      rw [HF''.out]
      clear c2 hb3
      have d0 : ∀ i, w3.cell? ⟨w.heap.size, i, none⟩ = _ := Bx.cell X0
      have d1 : ∀ i, w3.cell? ⟨w.heap.size + 1, i, none⟩ = _ := Bx.cell X1
      have d2 : ∀ i, w3.cell? ⟨w.heap.size + 1 + 1, i, none⟩ = _ := Bx.cell X2
      go_wp2_with fail
      refine (aCompare_any k r l0 l1 A n c xs k' r' l0' l1' A' n' c' ys p 0 _ (HS.out.step b3) (HS'.out.step b3) H1.out).mono ?_
      rintro e w4 ⟨rfl, hst⟩
      have b4 := bst b3 hst
      replace X0 := Bx.step X0 hst
      replace X1 := Bx.step X1 hst
      replace X2 := Bx.step X2 hst
      clear d0 d1 d2 hst
      have d0 : ∀ i, w4.cell? ⟨w.heap.size, i, none⟩ = _ := Bx.cell X0
      have d1 : ∀ i, w4.cell? ⟨w.heap.size + 1, i, none⟩ = _ := Bx.cell X1
      have d2 : ∀ i, w4.cell? ⟨w.heap.size + 1 + 1, i, none⟩ = _ := Bx.cell X2
      go_wp2_with fail
      refine (aCompare_any k' r' l0' l1' A' n' c' ys k'' r'' l0'' l1'' A'' n'' c'' zs q eq _ (HS'.out.step b4) (HS''.out.step b4) H2.out).mono ?_
      rintro e w5 ⟨rfl, hst⟩
      have b5 := bst b4 hst
      replace X0 := Bx.step X0 hst
      replace X1 := Bx.step X1 hst
      replace X2 := Bx.step X2 hst
      clear d0 d1 d2 hst
      have d0 : ∀ i, w5.cell? ⟨w.heap.size, i, none⟩ = _ := Bx.cell X0
      have d1 : ∀ i, w5.cell? ⟨w.heap.size + 1, i, none⟩ = _ := Bx.cell X1
      have d2 : ∀ i, w5.cell? ⟨w.heap.size + 1 + 1, i, none⟩ = _ := Bx.cell X2
      go_wp2_with fail
      refine (aCompare_any k r l0 l1 A n c xs k'' r'' l0'' l1'' A'' n'' c'' zs s es _ (HS.out.step b5) (HS''.out.step b5) H3.out).mono ?_
      rintro e w6 ⟨rfl, hst⟩
      have b6 := bst b5 hst
      replace X0 := Bx.step X0 hst
      replace X1 := Bx.step X1 hst
      replace X2 := Bx.step X2 hst
      clear d0 d1 d2 hst
      have d0 : ∀ i, w6.cell? ⟨w.heap.size, i, none⟩ = _ := Bx.cell X0
      have d1 : ∀ i, w6.cell? ⟨w.heap.size + 1, i, none⟩ = _ := Bx.cell X1
      have d2 : ∀ i, w6.cell? ⟨w.heap.size + 1 + 1, i, none⟩ = _ := Bx.cell X2
      go_wp2_with fail
      refine (aCompare_any k' r' l0' l1' A' n' c' ys k r l0 l1 A n c xs t 0 _ (HS'.out.step b6) (HS.out.step b6) H4.out).mono ?_
      rintro e w7 ⟨rfl, hst⟩
      have b7 := bst b6 hst
      replace X0 := Bx.step X0 hst
      replace X1 := Bx.step X1 hst
      replace X2 := Bx.step X2 hst
      clear d0 d1 d2 hst
      go_wp2_with fail
      refine (awake_any _ (Tab8.step HT.out b7)).mono ?_
      rintro e wz ⟨rfl, hbz⟩
      go_wp2
      go_ret
      exact ⟨rfl, bst b7 hbz⟩
  · have h1 : (sCompare ⟨k, r, l0, l1, xs⟩ ⟨k', r', l0', l1', ys⟩).2 ≠ 0 := fun h => hv (sCompare_bad.1 h)
    have h4 : (sCompare ⟨k', r', l0', l1', ys⟩ ⟨k, r, l0, l1, xs⟩).2 ≠ 0 := fun h => hv (sCompare_bad.1 h).symm
    obtain ⟨⟨p, ep⟩, hp⟩ : ∃ R, sCompare ⟨k, r, l0, l1, xs⟩ ⟨k', r', l0', l1', ys⟩ = R := ⟨_, rfl⟩
    obtain ⟨⟨t, et⟩, ht⟩ : ∃ R, sCompare ⟨k', r', l0', l1', ys⟩ ⟨k, r, l0, l1, xs⟩ = R := ⟨_, rfl⟩
    obtain ⟨⟨q, eq⟩, hq⟩ : ∃ R, sCompare ⟨k', r', l0', l1', ys⟩ ⟨k'', r'', l0'', l1'', zs⟩ = R := ⟨_, rfl⟩
    obtain ⟨⟨s, es⟩, hs⟩ : ∃ R, sCompare ⟨k, r, l0, l1, xs⟩ ⟨k'', r'', l0'', l1'', zs⟩ = R := ⟨_, rfl⟩
    rw [hp] at h1
    rw [ht] at h4
    have hne : (ep != 0) = true := by simpa using h1
    have hne' : (et != 0) = true := by simpa using h4
    have H1 := Lib.hid hp
    have H2 := Lib.hid hq
    have H3 := Lib.hid hs
    have H4 := Lib.hid ht
    clear h1 h4 hp ht hq hs hv
    go_enter Tryd.func9, Tryd.ntmps9
    go_wp2_with fail
    refine (far6_any _ _ _ _ _ _ _ xs _ (HS.out.step (below3 _ _ _ _))).mono ?_
    rintro e w1 ⟨rfl, hb1⟩
    obtain ⟨X0, X1, X2, b1⟩ := after3 hb1
    clear hb1
    rw [HF.out]
    have c1 : ∀ i, w1.cell? ⟨w.heap.size + 1, i, none⟩ = _ := Bx.cell X1
    go_wp2_with fail
    refine (far6_any _ _ _ _ _ _ _ ys _ (HS'.out.step b1)).mono ?_
    rintro e w2 ⟨rfl, hb2⟩
    have b2 := bst b1 hb2
    replace X0 := Bx.step X0 hb2
    replace X1 := Bx.step X1 hb2
    replace X2 := Bx.step X2 hb2
    rw [HF'.out]
    clear c1 hb2
    have c2 : ∀ i, w2.cell? ⟨w.heap.size + 1 + 1, i, none⟩ = _ := Bx.cell X2
    go_wp2_with fail
    refine (far6_any _ _ _ _ _ _ _ zs _ (HS''.out.step b2)).mono ?_
    rintro e w3 ⟨rfl, hb3⟩
    have b3 := bst b2 hb3
    replace X0 := Bx.step X0 hb3
    replace X1 := Bx.step X1 hb3
    replace X2 := Bx.step X2 hb3
    rw [HF''.out]
    clear c2 hb3
    have d0 : ∀ i, w3.cell? ⟨w.heap.size, i, none⟩ = _ := Bx.cell X0
    have d1 : ∀ i, w3.cell? ⟨w.heap.size + 1, i, none⟩ = _ := Bx.cell X1
    have d2 : ∀ i, w3.cell? ⟨w.heap.size + 1 + 1, i, none⟩ = _ := Bx.cell X2
    go_wp2_with fail
    refine (aCompare_any k r l0 l1 A n c xs k' r' l0' l1' A' n' c' ys p ep _ (HS.out.step b3) (HS'.out.step b3) H1.out).mono ?_
    rintro e w4 ⟨rfl, hst⟩
    have b4 := bst b3 hst
    replace X0 := Bx.step X0 hst
    replace X1 := Bx.step X1 hst
    replace X2 := Bx.step X2 hst
    clear d0 d1 d2 hst
    have d0 : ∀ i, w4.cell? ⟨w.heap.size, i, none⟩ = _ := Bx.cell X0
    have d1 : ∀ i, w4.cell? ⟨w.heap.size + 1, i, none⟩ = _ := Bx.cell X1
    have d2 : ∀ i, w4.cell? ⟨w.heap.size + 1 + 1, i, none⟩ = _ := Bx.cell X2
    go_wp2_with fail
    refine (aCompare_any k' r' l0' l1' A' n' c' ys k'' r'' l0'' l1'' A'' n'' c'' zs q eq _ (HS'.out.step b4) (HS''.out.step b4) H2.out).mono ?_
    rintro e w5 ⟨rfl, hst⟩
    have b5 := bst b4 hst
    replace X0 := Bx.step X0 hst
    replace X1 := Bx.step X1 hst
    replace X2 := Bx.step X2 hst
    clear d0 d1 d2 hst
    have d0 : ∀ i, w5.cell? ⟨w.heap.size, i, none⟩ = _ := Bx.cell X0
    have d1 : ∀ i, w5.cell? ⟨w.heap.size + 1, i, none⟩ = _ := Bx.cell X1
    have d2 : ∀ i, w5.cell? ⟨w.heap.size + 1 + 1, i, none⟩ = _ := Bx.cell X2
    go_wp2_with fail
    refine (aCompare_any k r l0 l1 A n c xs k'' r'' l0'' l1'' A'' n'' c'' zs s es _ (HS.out.step b5) (HS''.out.step b5) H3.out).mono ?_
    rintro e w6 ⟨rfl, hst⟩
    have b6 := bst b5 hst
    replace X0 := Bx.step X0 hst
    replace X1 := Bx.step X1 hst
    replace X2 := Bx.step X2 hst
    clear d0 d1 d2 hst
    have d0 : ∀ i, w6.cell? ⟨w.heap.size, i, none⟩ = _ := Bx.cell X0
    have d1 : ∀ i, w6.cell? ⟨w.heap.size + 1, i, none⟩ = _ := Bx.cell X1
    have d2 : ∀ i, w6.cell? ⟨w.heap.size + 1 + 1, i, none⟩ = _ := Bx.cell X2
    go_wp2_with fail
    refine (aCompare_any k' r' l0' l1' A' n' c' ys k r l0 l1 A n c xs t et _ (HS'.out.step b6) (HS.out.step b6) H4.out).mono ?_
    rintro e w7 ⟨rfl, hst⟩
    have b7 := bst b6 hst
    replace X0 := Bx.step X0 hst
    replace X1 := Bx.step X1 hst
    replace X2 := Bx.step X2 hst
    clear d0 d1 d2 hst
    go_wp2_with fail
    refine (awake_any _ (Tab8.step HT.out b7)).mono ?_
    rintro e wz ⟨rfl, hbz⟩
    go_wp2
    go_ret
    exact ⟨rfl, bst b7 hbz⟩
end Go.Proofs.YtimpdfafodaadaaDoor

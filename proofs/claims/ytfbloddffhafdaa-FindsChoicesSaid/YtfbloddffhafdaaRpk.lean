/-
  The reference's Pick.
-/
import Derived.Test.YtfbloddffhafdaaRtw8
import Derived.Test.YtfbloddffhafdaaFpk
namespace Go.Proofs.Ytfbloddffhafdaa
open Go.RowKit

set_option maxHeartbeats 1000000 in
theorem rpick_any (k r l0 l1 : Int) (A : Option Addr) (n c : Nat) (xs : List Int) (k' r' l0' l1' : Int) (A' : Option Addr) (n' c' : Nat) (ys : List Int) (R : Arr × Int) (w : World)
    (hs : Sl w A n c xs) (hs' : Sl w A' n' c' ys) (h : sPick ⟨k, r, l0, l1, xs⟩ ⟨k', r', l0', l1', ys⟩ = R) :
    Calls Try.prog 23 #[.agg #[.int .i64 k, .int .i64 r, .int .i64 l0, .int .i64 l1, .slice A n c], .agg #[.int .i64 k', .int .i64 r', .int .i64 l0', .int .i64 l1', .slice A' n' c']] w (RetA w R) := by
  unfold sPick pickE at h
  rw [← twoE_fE] at h
  obtain ⟨er, her⟩ : ∃ er, twoE ⟨k, r, l0, l1, xs⟩ ⟨k', r', l0', l1', ys⟩ 1 1 = er := ⟨_, rfl⟩
  simp only [her] at h
  have HTW := Lib.hid her
  have HS := Lib.hid hs
  have HS' := Lib.hid hs'
  have hln := hs.len
  have hln' := hs'.len
  clear hs hs'
  by_cases h0 : er = 0
  · subst h0
    rw [if_neg (fun g => g rfl)] at h
    rw [twoE_fE] at her
    obtain ⟨he, hk, hr⟩ := fE_zero her
    obtain ⟨he1, he2⟩ := orE_zero he
    have hn4 : n ≤ 400 := by rw [← hln]; exact achk_len he1
    have hn4' : n' ≤ 400 := by rw [← hln']; exact achk_len he2
    have hk1 : k = 1 := by simpa using hk
    have hrr : r = 1 ∧ r' = 1 := by simpa using hr
    obtain ⟨hr1, hr2⟩ := hrr
    subst hk1 hr1 hr2
    clear hk hr
    clear her he he1 he2
    by_cases hne : n = n'
    · subst hne
      rw [if_neg (by omega)] at h
      have HR := Lib.hid h
      have HL := Lib.hid hln
      have HL' := Lib.hid hln'
      have hnn : ((n : Int) != (n : Int)) = false := by simp
      clear h hln hln'
      go_enter Try.func23, Try.ntmps23
      go_wp2_with fail
      refine (rtwo_any _ _ _ _ _ _ _ xs _ _ _ _ _ _ _ ys 1 1 _ _ (HS.out.step (below3 _ _ _ _)) (HS'.out.step (below3 _ _ _ _)) HTW.out).mono ?_
      rintro e w1 ⟨rfl, hb1⟩
      obtain ⟨X0, X1, X2, b1⟩ := after3 hb1
      clear hb1
      have c0 : ∀ i, w1.cell? ⟨w.heap.size, i, none⟩ = _ := Bx.cell X0
      have c1 : ∀ i, w1.cell? ⟨w.heap.size + 1, i, none⟩ = _ := Bx.cell X1
      have hB0 := b1.size
      obtain ⟨B, hB⟩ : ∃ B, w1.heap.size = B := ⟨_, rfl⟩
      rw [hB] at hB0
      have hz1 : B ≤ w1.heap.size := by omega
      have HX0 := Lib.hid X0
      have HX1 := Lib.hid X1
      have HX2 := Lib.hid X2
      have b1' := b1
      clear hB X0 X1 X2
      go_wp2
      clear c0 c1 hnn
      go_loopw [7, 8] (fun v i wr => ∃ (j q : Nat) (V : Option Addr) (vc : Nat), i = .int .i64 j ∧ v = .slice V q vc ∧ j ≤ n ∧ q ≤ j ∧ Hid (wr.ownsRow B 2 1 (.slice V q vc) q ((pickL (xs.take j) (ys.take j)).map (Value.int .i64))) ∧ Below w.heap.size w wr ∧ Hid (Bx wr w.heap.size #[.int .i64 1, .int .i64 1, .int .i64 l0, .int .i64 l1, .slice A n c] 25) ∧ Hid (Bx wr (w.heap.size + 1) #[.int .i64 k', .int .i64 1, .int .i64 l0', .int .i64 l1', .slice A' n c'] 25) ∧ Hid (Bx wr (w.heap.size + 1 + 1) #[.int .i64 0, .int .i64 0, .int .i64 0, .int .i64 0, .slice none 0 0] 25) ∧ B ≤ wr.heap.size) (fun _ i _ => n - (intOf i).toNat)
      case atStart => exact ⟨0, 0, none, 0, rfl, rfl, Nat.zero_le _, Nat.le_refl _, Lib.hid (by simpa [pickL] using World.ownsRow_nil _ _ _ _), b1', HX0, HX1, HX2, hz1⟩
      case round =>
        clear HX0 HX1 HX2 b1' b1 hz1
        obtain ⟨j, q, V, vc, rfl, rfl, hj, hqj, HO, hb, Y0, Y1, Y2, hz⟩ := hrel
        have d0 : ∀ i, wr.cell? ⟨w.heap.size, i, none⟩ = _ := Bx.cell Y0.out
        by_cases hlt : j < n
        · have k0 : (0 : Int) ≤ (j : Int) := by omega
          have k1 : (j : Int) < (n : Int) := by omega
          obtain ⟨b, o, rfl, hbl, hc0⟩ := HS.out.at_ hlt
          obtain ⟨b', o', rfl, hbl', hv0⟩ := HS'.out.at_ hlt
          have hx1 := (hb.cell (p := ⟨b, o + j, none⟩) hbl).trans hc0
          have hy1 := (hb.cell (p := ⟨b', o' + j, none⟩) hbl').trans hv0
          have hsn := pickL_snoc (xs.take j) (ys.take j) (xs.getD j 0) (ys.getD j 0) (by rw [List.length_take, List.length_take, HL.out, HL'.out])
          have e1 : xs.take j ++ [xs.getD j 0] = xs.take (j + 1) := by
            have hj2 : j < xs.length := by rw [HL.out]; exact hlt
            rw [getD_get hj2]
            exact (List.take_succ_eq_append_getElem hj2).symm
          have e2 : ys.take j ++ [ys.getD j 0] = ys.take (j + 1) := by
            have hj2 : j < ys.length := by rw [HL'.out]; exact hlt
            rw [getD_get hj2]
            exact (List.take_succ_eq_append_getElem hj2).symm
          rw [e1, e2] at hsn
          clear e1 e2 hc0 hv0
          generalize xs.getD j 0 = x at hx1 hsn
          generalize ys.getD j 0 = y at hy1 hsn
          by_cases hx0 : x = 0
          · rw [if_pos hx0, List.append_nil] at hsn
            have hxn : (x != 0) = false := by simpa using hx0
            have HSN := Lib.hid hsn
            clear hsn hx0
            go_wp2
            refine ⟨⟨j + 1, q, V, vc, rfl, rfl, by omega, by omega, Lib.hid (by rw [HSN.out]; exact HO.out), hb, Y0, Y1, Y2, hz⟩, ?_⟩
            simp only [intOf]; omega
          · rw [if_neg hx0] at hsn
            have hxn : (x != 0) = true := by simpa using hx0
            have d1 : ∀ i, wr.cell? ⟨w.heap.size + 1, i, none⟩ = _ := Bx.cell Y1.out
            have HSN := Lib.hid hsn
            have HO1 := Lib.hid (HO.out.alloc (.cells #[.int .i64 y] 2))
            have HS1 := Lib.hid (slOne wr y)
            have HZ := Lib.hid (show B ≤ (wr.alloc (.cells #[.int .i64 y] 2)).heap.size by simp; omega)
            clear hsn hx0
            go_wp2_with (at_builtin; refine wpList_append_sl rfl _ _ rfl rfl B _ q (pickL (xs.take j) (ys.take j)) rfl HO1.out (some ⟨wr.heap.size, 0, none⟩) 1 1 [y] rfl HS1.out (by omega) HZ.out ?_)
            intro A2 c2 w2 hg
            have U0 := Lib.hid (Bx.grown (Bx.alloc Y0.out _) hg.2.2 (own_row_ne HO1.out (Bx.alloc Y0.out _) (by decide)))
            have U1 := Lib.hid (Bx.grown (Bx.alloc Y1.out _) hg.2.2 (own_row_ne HO1.out (Bx.alloc Y1.out _) (by decide)))
            have U2 := Lib.hid (Bx.grown (Bx.alloc Y2.out _) hg.2.2 (own_row_ne HO1.out (Bx.alloc Y2.out _) (by decide)))
            have b2 : Below w.heap.size w w2 := hg.below (bal hb _) (fun k hk => by have := (HO1.out.lt k hk).1; omega)
            have HG := Lib.hid (show w2.ownsRow B 2 1 (.slice A2 (q + 1) c2) (q + 1) ((pickL (xs.take j) (ys.take j) ++ [y]).map (Value.int .i64)) from hg.1)
            have hz2 := Nat.le_trans HZ.out hg.2.2.size
            clear hg d0 d1
            go_wp2
            refine ⟨⟨j + 1, q + 1, A2, c2, rfl, rfl, by omega, by omega, Lib.hid (by rw [HSN.out]; exact HG.out), b2, U0, U1, U2, hz2⟩, ?_⟩
            simp only [intOf]; omega
        · obtain rfl : j = n := by omega
          have d1 : ∀ i, wr.cell? ⟨w.heap.size + 1, i, none⟩ = _ := Bx.cell Y1.out
          have hO := HO.out
          rw [List.take_of_length_le (by rw [HL.out]; exact Nat.le_refl _), List.take_of_length_le (by rw [HL'.out]; exact Nat.le_refl _)] at hO
          obtain ⟨A3, c3, hv, hS, _⟩ := Sl.of_own hO
          obtain ⟨rfl, rfl⟩ : V = A3 ∧ vc = c3 := by simpa using hv
          have hlen := hS.len
          have hr := HR.out
          simp only [hlen] at hr
          have HR2 := Lib.hid hr
          have HSS := Lib.hid hS
          clear hO hv hS hlen hr
          go_wp2_with fail
          refine (rVector_any k' V q vc (pickL xs ys) _ HSS.out (by omega)).mono ?_
          rintro e w3 ⟨⟨A4, n4, c4, rfl, hS4, hN4⟩, hb3⟩
          have b3 := bst hb hb3
          have X2 := Bx.step Y2.out hb3
          have HS4 := Lib.hid hS4
          have hne := Lib.hid (fun (b : Nat) (o : Nat) (e : A4 = some ⟨b, o, none⟩) => (show b ≠ w.heap.size + 1 + 1 by have := hN4 b o none e; have := Bx.lt Y2.out; omega))
          have HN4 := Lib.hid (hN4.mono hb.size)
          have g2 : ∀ i, w3.cell? ⟨w.heap.size + 1 + 1, i, none⟩ = _ := Bx.cell X2
          have f2 : ∀ i, w3.frozen? ⟨w.heap.size + 1 + 1, i, none⟩ = false := Bx.frozen X2
          have q2 := Bx.lt X2
          clear hS4 hN4 d0 d1
          go_wp2
          refine retAE (B := w.heap.size + 1 + 1) rfl rfl rfl rfl (Bx.set5 X2 _ _ _ _ _) ?_
          exact RetA.mk HR2.out.symm (HS4.out.past5 _ _ _ _ _ fun b o e => hne.out b o e) HN4.out (below_set5 b3 (by omega) _ _ _ _ _)
    · rw [if_pos (by omega)] at h
      have HR := Lib.hid h
      have hnn : ((n : Int) != (n' : Int)) = true := by simp; omega
      clear h hln hln' hne
      go_enter Try.func23, Try.ntmps23
      go_wp2_with fail
      refine (rtwo_any _ _ _ _ _ _ _ xs _ _ _ _ _ _ _ ys 1 1 _ _ (HS.out.step (below3 _ _ _ _)) (HS'.out.step (below3 _ _ _ _)) HTW.out).mono ?_
      rintro e w1 ⟨rfl, hb1⟩
      obtain ⟨X0, X1, X2, b1⟩ := after3 hb1
      clear hb1
      have c0 : ∀ i, w1.cell? ⟨w.heap.size, i, none⟩ = _ := Bx.cell X0
      have c1 : ∀ i, w1.cell? ⟨w.heap.size + 1, i, none⟩ = _ := Bx.cell X1
      have g2 : ∀ i, w1.cell? ⟨w.heap.size + 1 + 1, i, none⟩ = _ := Bx.cell X2
      have f2 : ∀ i, w1.frozen? ⟨w.heap.size + 1 + 1, i, none⟩ = false := Bx.frozen X2
      have q2 := Bx.lt X2
      go_wp2
      refine retAE (B := w.heap.size + 1 + 1) rfl rfl rfl rfl (Bx.set5 X2 _ _ _ _ _) ?_
      exact RetA.mk HR.out.symm (Sl.nil _) (fun _ _ _ h => by cases h) (below_set5 b1 (by omega) _ _ _ _ _)
  · rw [if_pos h0] at h
    have HR := Lib.hid h
    have hne : (er != 0) = true := by simpa using h0
    have hee : (er == 0) = false := by simpa using h0
    clear h h0 her hln hln'
    go_enter Try.func23, Try.ntmps23
    go_wp2_with fail
    refine (rtwo_any _ _ _ _ _ _ _ xs _ _ _ _ _ _ _ ys 1 1 _ _ (HS.out.step (below3 _ _ _ _)) (HS'.out.step (below3 _ _ _ _)) HTW.out).mono ?_
    rintro e w1 ⟨rfl, hb1⟩
    obtain ⟨X0, X1, X2, b1⟩ := after3 hb1
    clear hb1
    have c0 : ∀ i, w1.cell? ⟨w.heap.size, i, none⟩ = _ := Bx.cell X0
    have c1 : ∀ i, w1.cell? ⟨w.heap.size + 1, i, none⟩ = _ := Bx.cell X1
    have g2 : ∀ i, w1.cell? ⟨w.heap.size + 1 + 1, i, none⟩ = _ := Bx.cell X2
    have f2 : ∀ i, w1.frozen? ⟨w.heap.size + 1 + 1, i, none⟩ = false := Bx.frozen X2
    have q2 := Bx.lt X2
    go_wp2
    refine retAE (B := w.heap.size + 1 + 1) rfl rfl rfl rfl (Bx.set5 X2 _ _ _ _ _) ?_
    exact RetA.mk HR.out.symm (Sl.nil _) (fun _ _ _ h => by cases h) (below_set5 b1 (by omega) _ _ _ _ _)
end Go.Proofs.Ytfbloddffhafdaa

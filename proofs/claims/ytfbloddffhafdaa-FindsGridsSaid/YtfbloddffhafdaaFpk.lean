/-
  finds.Pick.
-/
import Derived.Test.YtfbloddffhafdaaFat
namespace Go.Proofs.Ytfbloddffhafdaa
open Go.RowKit

set_option maxHeartbeats 1000000 in
theorem fpick_any (k r l0 l1 : Int) (A : Option Addr) (n c : Nat) (xs : List Int) (k' r' l0' l1' : Int) (A' : Option Addr) (n' c' : Nat) (ys : List Int) (R : Arr × Int) (w : World)
    (hs : Sl w A n c xs) (hs' : Sl w A' n' c' ys) (h : sPick ⟨k, r, l0, l1, xs⟩ ⟨k', r', l0', l1', ys⟩ = R) :
    Calls Try.prog 22 #[.agg #[.int .i64 k, .int .i64 r, .int .i64 l0, .int .i64 l1, .slice A n c], .agg #[.int .i64 k', .int .i64 r', .int .i64 l0', .int .i64 l1', .slice A' n' c']] w (RetA w R) := by
  obtain ⟨e1, he1⟩ : ∃ ec, achk k r l0 l1 xs = ec := ⟨_, rfl⟩
  obtain ⟨e2, he2⟩ : ∃ ec, achk k' r' l0' l1' ys = ec := ⟨_, rfl⟩
  unfold sPick pickE chkA at h
  simp only [he1, he2] at h
  have HE1 := Lib.hid he1
  have HE2 := Lib.hid he2
  have HS := Lib.hid hs
  have HS' := Lib.hid hs'
  have Z0 : Bx ((((w.alloc (.cells #[.int .i64 k, .int .i64 r, .int .i64 l0, .int .i64 l1, .slice A n c] 25)).alloc (.cells #[.int .i64 k', .int .i64 r', .int .i64 l0', .int .i64 l1', .slice A' n' c'] 25)).alloc (.cells #[.int .i64 0, .int .i64 0, .int .i64 0, .int .i64 0, .slice none 0 0] 25)).alloc (.cells #[.int .i64 k, .int .i64 r, .int .i64 l0, .int .i64 l1, .slice A n c, .int .i64 k', .int .i64 r', .int .i64 l0', .int .i64 l1', .slice A' n' c'] 25)) (w.heap.size + 1 + 1 + 1) #[.int .i64 k, .int .i64 r, .int .i64 l0, .int .i64 l1, .slice A n c, .int .i64 k', .int .i64 r', .int .i64 l0', .int .i64 l1', .slice A' n' c'] 25 := by
    have := Bx.new (((w.alloc (.cells #[.int .i64 k, .int .i64 r, .int .i64 l0, .int .i64 l1, .slice A n c] 25)).alloc (.cells #[.int .i64 k', .int .i64 r', .int .i64 l0', .int .i64 l1', .slice A' n' c'] 25)).alloc (.cells #[.int .i64 0, .int .i64 0, .int .i64 0, .int .i64 0, .slice none 0 0] 25)) #[.int .i64 k, .int .i64 r, .int .i64 l0, .int .i64 l1, .slice A n c, .int .i64 k', .int .i64 r', .int .i64 l0', .int .i64 l1', .slice A' n' c'] 25
    simpa [World.size_alloc] using this
  have hln := hs.len
  have hln' := hs'.len
  clear hs hs'
  obtain ⟨er, her⟩ : ∃ er, fE (k == 1) (r == 1 && r' == 1) (orE e1 e2) = er := ⟨_, rfl⟩
  rw [her] at h
  by_cases h0 : er = 0
  · subst h0
    obtain ⟨he, hk, hr⟩ := fE_zero her
    obtain ⟨rfl, rfl⟩ := orE_zero he
    obtain rfl : k = 1 := by simpa using hk
    simp only [Bool.and_eq_true, beq_iff_eq] at hr
    obtain ⟨rfl, rfl⟩ := hr
    rw [if_neg (fun g => g rfl)] at h
    have hfo : fE true true (orE 0 0) = 0 := rfl
    have hn4 : n ≤ 400 := by rw [← hln]; exact achk_len he1
    have hn4' : n' ≤ 400 := by rw [← hln']; exact achk_len he2
    by_cases hne : n = n'
    · subst hne
      rw [if_neg (by omega)] at h
      have HR := Lib.hid h
      have HL := Lib.hid hln
      have HL' := Lib.hid hln'
      clear her hk he he1 he2 h hln hln'
      obtain ⟨i0, hi, hz0, hz1, hz2⟩ := info_parts infoI64
      go_enter Try.func22, Try.ntmps22
      go_wp2_with fail
      refine (fcheck2 true true _ _ _ _ _ _ _ xs _ _ _ _ _ _ _ ys _ _ _ _ (HS.out.step (below4 _ _ _ _ _)) (HS'.out.step (below4 _ _ _ _ _)) HE1.out HE2.out Z0).mono ?_
      rintro e w1 ⟨rfl, hb1⟩
      obtain ⟨X0, X1, X2, X3, b1⟩ := after4 hb1
      clear hb1
      rw [hfo]
      have g2 : ∀ i, w1.cell? ⟨w.heap.size + 1 + 1, i, none⟩ = _ := Bx.cell X2
      have f2 : ∀ i, w1.frozen? ⟨w.heap.size + 1 + 1, i, none⟩ = false := Bx.frozen X2
      have q2 := Bx.lt X2
      clear g2 f2 Z0 hfo
      have g0 : ∀ i, w1.cell? ⟨w.heap.size, i, none⟩ = _ := Bx.cell X0
      have g1 : ∀ i, w1.cell? ⟨w.heap.size + 1, i, none⟩ = _ := Bx.cell X1
      have hnn : ((n : Int) != (n : Int)) = false := by simp
      have b1s := b1.size
      go_wp2_with ((with_reducible refine wpList_make_own _ rfl _ _ 23 rfl w1.heap.size 2 i0 (.int .i64 0) 1 Try.underlying23 hi hz0 hz1 .i64 .i64 (n : Int) n rfl rfl rfl (by rw [hz2]; omega) (by unfold maxLen; omega) (Nat.le_refl _) ?_); intro w4 hown hgrow; have V1 := Bx.grown X1 hgrow (by simp); have D1 : ∀ i, w4.cell? ⟨w.heap.size + 1, i, none⟩ = _ := Bx.cell V1)
      have V0 := Lib.hid (Bx.grown X0 hgrow (by simp))
      have V2 := Lib.hid (Bx.grown X2 hgrow (by simp))
      have V1' := Lib.hid V1
      have b4 : Below w.heap.size w w4 := b1.grown hgrow b1.size (by simp)
      have s4 := hgrow.size
      have HOW := Lib.hid hown
      obtain ⟨B, hB⟩ : ∃ B, w1.heap.size = B := ⟨_, rfl⟩
      rw [hB] at HOW s4 b1s
      rw [hB]
      clear g0 g1 D1 V1 hown hgrow hnn hB X0 X1 X2 X3 b1
      go_loopw [7, 8, 9, 44] (fun v _ _ i wr => ∃ (j q : Nat) (V : Option Addr) (vc : Nat), i = .int .i64 j ∧ v = .slice V q vc ∧ j ≤ n ∧ q ≤ j ∧ Hid (wr.ownsRow B 2 1 (.slice V q vc) q ((pickL (xs.take j) (ys.take j)).map (Value.int .i64))) ∧ Below w.heap.size w wr ∧ Hid (Bx wr w.heap.size #[.int .i64 1, .int .i64 1, .int .i64 l0, .int .i64 l1, .slice A n c] 25) ∧ Hid (Bx wr (w.heap.size + 1) #[.int .i64 k', .int .i64 1, .int .i64 l0', .int .i64 l1', .slice A' n c'] 25) ∧ Hid (Bx wr (w.heap.size + 1 + 1) #[.int .i64 0, .int .i64 0, .int .i64 0, .int .i64 0, .slice none 0 0] 25) ∧ B ≤ wr.heap.size) (fun _ _ _ i _ => n - (intOf i).toNat)
      case atStart => exact ⟨0, 0, _, _, rfl, rfl, Nat.zero_le _, Nat.le_refl _, Lib.hid (by simpa [pickL] using HOW.out), b4, V0, V1', V2, s4⟩
      case round =>
        clear HOW V0 V1' V2 b4 s4
        obtain ⟨j, q, V, vc, rfl, rfl, hj, hqj, HO, hb, Y0, Y1, Y2, hz⟩ := hrel
        by_cases hlt : j < n
        · have k0 : (0 : Int) ≤ (j : Int) := by omega
          have k1 : (j : Int) < (n : Int) := by omega
          obtain ⟨b, o, rfl, hbl, hc0⟩ := HS.out.at_ hlt
          obtain ⟨b', o', rfl, hbl', hv0⟩ := HS'.out.at_ hlt
          have hx1 := (hb.cell (p := ⟨b, o + j, none⟩) hbl).trans hc0
          have hy1 := (hb.cell (p := ⟨b', o' + j, none⟩) hbl').trans hv0
          have hsn := pickL_snoc (xs.take j) (ys.take j) (xs.getD j 0) (ys.getD j 0) (by rw [List.length_take, List.length_take, HL.out, HL'.out])
          have e1 : xs.take j ++ [xs.getD j 0] = xs.take (j + 1) := by
            have hj2 : j < xs.length := by rw [HL.out]; exact hlt
            rw [getD_get hj2]
            exact (List.take_succ_eq_append_getElem hj2).symm
          have e2 : ys.take j ++ [ys.getD j 0] = ys.take (j + 1) := by
            have hj2 : j < ys.length := by rw [HL'.out]; exact hlt
            rw [getD_get hj2]
            exact (List.take_succ_eq_append_getElem hj2).symm
          rw [e1, e2] at hsn
          clear e1 e2 hc0 hv0
          generalize xs.getD j 0 = x at hx1 hsn
          generalize ys.getD j 0 = y at hy1 hsn
          have d0 : ∀ i, wr.cell? ⟨w.heap.size, i, none⟩ = _ := Bx.cell Y0.out
          by_cases hx0 : x = 0
          · rw [if_pos hx0, List.append_nil] at hsn
            have hxn : (x != 0) = false := by simpa using hx0
            have HSN := Lib.hid hsn
            clear hsn hx0
            go_wp2
            refine ⟨⟨j + 1, q, V, vc, rfl, rfl, by omega, by omega, Lib.hid (by rw [HSN.out]; exact HO.out), hb, Y0, Y1, Y2, hz⟩, ?_⟩
            simp only [intOf]; omega
          · rw [if_neg hx0] at hsn
            have hxn : (x != 0) = true := by simpa using hx0
            have HSN := Lib.hid hsn
            have HO1 := Lib.hid (HO.out.alloc (.cells #[.int .i64 y] 2))
            have HS1 := Lib.hid (slOne wr y)
            have HZ := Lib.hid (show B ≤ (wr.alloc (.cells #[.int .i64 y] 2)).heap.size by simp; omega)
            clear hsn hx0
            go_wp2_with (at_builtin; refine wpList_append_sl rfl _ _ rfl rfl B _ q (pickL (xs.take j) (ys.take j)) rfl HO1.out (some ⟨wr.heap.size, 0, none⟩) 1 1 [y] rfl HS1.out (by omega) HZ.out ?_)
            intro A2 c2 w2 hg
            have U0 := Lib.hid (Bx.grown (Bx.alloc Y0.out _) hg.2.2 (own_row_ne HO1.out (Bx.alloc Y0.out _) (by decide)))
            have U1 := Lib.hid (Bx.grown (Bx.alloc Y1.out _) hg.2.2 (own_row_ne HO1.out (Bx.alloc Y1.out _) (by decide)))
            have U2 := Lib.hid (Bx.grown (Bx.alloc Y2.out _) hg.2.2 (own_row_ne HO1.out (Bx.alloc Y2.out _) (by decide)))
            have b2 : Below w.heap.size w w2 := hg.below (bal hb _) (fun k hk => by have := (HO1.out.lt k hk).1; omega)
            have HG := Lib.hid (show w2.ownsRow B 2 1 (.slice A2 (q + 1) c2) (q + 1) ((pickL (xs.take j) (ys.take j) ++ [y]).map (Value.int .i64)) from hg.1)
            have hz2 := Nat.le_trans HZ.out hg.2.2.size
            clear hg d0
            go_wp2
            refine ⟨⟨j + 1, q + 1, A2, c2, rfl, rfl, by omega, by omega, Lib.hid (by rw [HSN.out]; exact HG.out), b2, U0, U1, U2, hz2⟩, ?_⟩
            simp only [intOf]; omega
        · obtain rfl : j = n := by omega
          have d1 : ∀ i, wr.cell? ⟨w.heap.size + 1, i, none⟩ = _ := Bx.cell Y1.out
          go_wp2_with fail
          refine (fvec_any k' V q vc _).mono ?_
          rintro e w3 ⟨rfl, hb3⟩
          have b3 := bst hb hb3
          have hO := HO.out
          rw [List.take_of_length_le (by rw [HL.out]; exact Nat.le_refl _), List.take_of_length_le (by rw [HL'.out]; exact Nat.le_refl _)] at hO
          obtain ⟨A3, c3, hv, hS, _⟩ := Sl.of_own hO
          obtain ⟨rfl, rfl⟩ : V = A3 ∧ vc = c3 := by simpa using hv
          have hne2 : ∀ b o, V = some ⟨b, o, none⟩ → b ≠ w.heap.size + 1 + 1 := fun b o e => own_ne' hO Y2.out (by decide) e
          have hnew : ∀ b o s, V = some ⟨b, o, s⟩ → w.heap.size ≤ b := fun b o s e => by have := New.of_own' hO b o s e; omega
          have hlen := hS.len
          have hr := HR.out
          rw [hlen] at hr
          have HR2 := Lib.hid hr
          have X2 := Bx.step Y2.out hb3
          have S3 := Lib.hid (hS.step hb3)
          have HN2 := Lib.hid hne2
          have HNW := Lib.hid hnew
          have g2 : ∀ i, w3.cell? ⟨w.heap.size + 1 + 1, i, none⟩ = _ := Bx.cell X2
          have f2 : ∀ i, w3.frozen? ⟨w.heap.size + 1 + 1, i, none⟩ = false := Bx.frozen X2
          have q2 := Bx.lt X2
          clear hO hv hS hne2 hnew hlen hr d1
          go_wp2
          refine retAE (B := w.heap.size + 1 + 1) rfl rfl rfl rfl (Bx.set5 X2 _ _ _ _ _) ?_
          exact RetA.mk HR2.out.symm (S3.out.past5 _ _ _ _ _ fun b o e => HN2.out b o e) (fun b o s e => HNW.out b o s e) (below_set5 b3 (by omega) _ _ _ _ _)
    · rw [if_pos (by omega)] at h
      have HR := Lib.hid h
      have hnn : ((n : Int) != (n' : Int)) = true := by simp; omega
      clear her hk he he1 he2 h hln hln' hne
      go_enter Try.func22, Try.ntmps22
      go_wp2_with fail
      refine (fcheck2 true true _ _ _ _ _ _ _ xs _ _ _ _ _ _ _ ys _ _ _ _ (HS.out.step (below4 _ _ _ _ _)) (HS'.out.step (below4 _ _ _ _ _)) HE1.out HE2.out Z0).mono ?_
      rintro e w1 ⟨rfl, hb1⟩
      obtain ⟨X0, X1, X2, X3, b1⟩ := after4 hb1
      clear hb1
      rw [hfo]
      have g2 : ∀ i, w1.cell? ⟨w.heap.size + 1 + 1, i, none⟩ = _ := Bx.cell X2
      have f2 : ∀ i, w1.frozen? ⟨w.heap.size + 1 + 1, i, none⟩ = false := Bx.frozen X2
      have q2 := Bx.lt X2
      have g0 : ∀ i, w1.cell? ⟨w.heap.size, i, none⟩ = _ := Bx.cell X0
      have g1 : ∀ i, w1.cell? ⟨w.heap.size + 1, i, none⟩ = _ := Bx.cell X1
      clear hfo
      go_wp2
      refine retAE (B := w.heap.size + 1 + 1) rfl rfl rfl rfl (Bx.set5 X2 _ _ _ _ _) ?_
      exact RetA.mk HR.out.symm (Sl.nil _) (fun _ _ _ h => by cases h) (below_set5 b1 (by omega) _ _ _ _ _)
  · rw [if_pos h0] at h
    have HR := Lib.hid h
    have hne : (er != 0) = true := by simpa using h0
    clear he1 he2 h h0 hln hln'
    by_cases hr : r = 1
    · subst hr
      have HEC : Hid (fE (k == 1) (r' == 1) (orE e1 e2) = er) := Lib.hid (by rw [← her]; simp)
      clear her
      go_enter Try.func22, Try.ntmps22
      go_wp2_with fail
      refine (fcheck2 (k == 1) (r' == 1) _ _ _ _ _ _ _ xs _ _ _ _ _ _ _ ys _ _ _ _ (HS.out.step (below4 _ _ _ _ _)) (HS'.out.step (below4 _ _ _ _ _)) HE1.out HE2.out Z0).mono ?_
      rintro e w1 ⟨rfl, hb1⟩
      obtain ⟨X0, X1, X2, X3, b1⟩ := after4 hb1
      clear hb1
      rw [HEC.out]
      have g2 : ∀ i, w1.cell? ⟨w.heap.size + 1 + 1, i, none⟩ = _ := Bx.cell X2
      have f2 : ∀ i, w1.frozen? ⟨w.heap.size + 1 + 1, i, none⟩ = false := Bx.frozen X2
      have q2 := Bx.lt X2
      go_wp2
      refine retAE (B := w.heap.size + 1 + 1) rfl rfl rfl rfl (Bx.set5 X2 _ _ _ _ _) ?_
      exact RetA.mk HR.out.symm (Sl.nil _) (fun _ _ _ h => by cases h) (below_set5 b1 (by omega) _ _ _ _ _)
    · have hr1 : (r == 1) = false := by simpa using hr
      have HEC : Hid (fE (k == 1) false (orE e1 e2) = er) := Lib.hid (by rw [← her, hr1]; rfl)
      clear her hr
      go_enter Try.func22, Try.ntmps22
      go_wp2_with fail
      refine (fcheck2 (k == 1) false _ _ _ _ _ _ _ xs _ _ _ _ _ _ _ ys _ _ _ _ (HS.out.step (below4 _ _ _ _ _)) (HS'.out.step (below4 _ _ _ _ _)) HE1.out HE2.out Z0).mono ?_
      rintro e w1 ⟨rfl, hb1⟩
      obtain ⟨X0, X1, X2, X3, b1⟩ := after4 hb1
      clear hb1
      rw [HEC.out]
      have g2 : ∀ i, w1.cell? ⟨w.heap.size + 1 + 1, i, none⟩ = _ := Bx.cell X2
      have f2 : ∀ i, w1.frozen? ⟨w.heap.size + 1 + 1, i, none⟩ = false := Bx.frozen X2
      have q2 := Bx.lt X2
      go_wp2
      refine retAE (B := w.heap.size + 1 + 1) rfl rfl rfl rfl (Bx.set5 X2 _ _ _ _ _) ?_
      exact RetA.mk HR.out.symm (Sl.nil _) (fun _ _ _ h => by cases h) (below_set5 b1 (by omega) _ _ _ _ _)
end Go.Proofs.Ytfbloddffhafdaa

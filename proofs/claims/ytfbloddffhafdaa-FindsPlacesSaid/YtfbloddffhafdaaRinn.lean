/-
  The reference's In.
-/
import Derived.Test.YtfbloddffhafdaaRsi
import Derived.Test.YtfbloddffhafdaaFat
namespace Go.Proofs.Ytfbloddffhafdaa
open Go.RowKit

set_option maxHeartbeats 1000000 in
theorem rin_any (k r l0 l1 : Int) (A : Option Addr) (n c : Nat) (xs : List Int) (k' r' l0' l1' : Int) (A' : Option Addr) (n' c' : Nat) (ys : List Int) (R : Arr × Int) (w : World)
    (hs : Sl w A n c xs) (hs' : Sl w A' n' c' ys) (h : sFIn ⟨k, r, l0, l1, xs⟩ ⟨k', r', l0', l1', ys⟩ = R) :
    Calls Try.prog 21 #[.agg #[.int .i64 k, .int .i64 r, .int .i64 l0, .int .i64 l1, .slice A n c], .agg #[.int .i64 k', .int .i64 r', .int .i64 l0', .int .i64 l1', .slice A' n' c']] w (RetA w R) := by
  obtain ⟨e1, he1⟩ : ∃ ec, achk k r l0 l1 xs = ec := ⟨_, rfl⟩
  obtain ⟨e2, he2⟩ : ∃ ec, achk k' r' l0' l1' ys = ec := ⟨_, rfl⟩
  unfold sFIn inE chkA at h
  simp only [he1, he2] at h
  have HE1 := Lib.hid he1
  have HE2 := Lib.hid he2
  have HS := Lib.hid hs
  have HS' := Lib.hid hs'
  clear hs hs'
  by_cases z1 : e1 = 0
  · subst z1
    by_cases z2 : e2 = 0
    · subst z2
      have h00 : orE 0 0 = 0 := rfl
      rw [h00] at h
      by_cases hk : k = k'
      · subst hk
        by_cases hr : r' = 1
        · subst hr
          have e : fE (k == k) ((1 : Int) == 1) 0 = 0 := by simp [fE]
          rw [e, if_neg (fun g => g rfl)] at h
          have hn4' : n' ≤ 400 := by rw [← HS'.out.len]; exact achk_len he2
          have hn4 : n ≤ 400 := by rw [← HS.out.len]; exact achk_len he1
          have HR := Lib.hid h
          have hkk : (k != k) = false := by simp
          clear h e he1 he2 h00
          go_enter Try.func21, Try.ntmps21
          go_wp2_with fail
          refine (racheck_any _ _ _ _ _ _ _ xs _ _ (HS.out.step (below3 _ _ _ _)) HE1.out).mono ?_
          rintro e w1 ⟨rfl, hb1⟩
          obtain ⟨X0, X1, X2, b1⟩ := after3 hb1
          have c0 : ∀ i, w1.cell? ⟨w.heap.size, i, none⟩ = _ := Bx.cell X0
          have c1 : ∀ i, w1.cell? ⟨w.heap.size + 1, i, none⟩ = _ := Bx.cell X1
          clear hb1
          go_wp2_with fail
          refine (racheck_any _ _ _ _ _ _ _ ys _ _ (HS'.out.step b1) HE2.out).mono ?_
          rintro e w2 ⟨rfl, hb2⟩
          have b2 := bst b1 hb2
          replace X0 := Bx.step X0 hb2
          replace X1 := Bx.step X1 hb2
          replace X2 := Bx.step X2 hb2
          clear c0 c1 hb2
          have c0 : ∀ i, w2.cell? ⟨w.heap.size, i, none⟩ = _ := Bx.cell X0
          have c1 : ∀ i, w2.cell? ⟨w.heap.size + 1, i, none⟩ = _ := Bx.cell X1
          go_wp2
          have XD := Bx.new w2 #[.int .i64 1, .int .i64 r, .int .i64 l0, .int .i64 l1, .slice none 0 0] 25
          have hst := below1 w2 (.cells #[.int .i64 1, .int .i64 r, .int .i64 l0, .int .i64 l1, .slice none 0 0] 25)
          have hD0 := b2.size
          have q2 := Bx.lt X2
          obtain ⟨D, hD⟩ : ∃ D, w2.heap.size = D := ⟨_, rfl⟩
          obtain ⟨w3, hw3⟩ : ∃ w3, w2.alloc (.cells #[.int .i64 1, .int .i64 r, .int .i64 l0, .int .i64 l1, .slice none 0 0] 25) = w3 := ⟨_, rfl⟩
          have hz3 : D + 1 ≤ w3.heap.size := by rw [← hw3, ← hD]; simp
          rw [hw3] at XD hst
          have HX0 := Lib.hid (Bx.step X0 hst)
          have HX1 := Lib.hid (Bx.step X1 hst)
          have HX2 := Lib.hid (Bx.step X2 hst)
          have b3 := bst b2 hst
          rw [hD] at XD hD0 q2
          have HXD := Lib.hid XD
          rw [hD, hw3]
          clear hst hw3 hD XD X0 X1 X2 b1 b2 c0 c1 hkk
          go_loopw [8, 9] (fun i _ wr => ∃ (j : Nat) (V : Option Addr) (vc : Nat), i = .int .i64 j ∧ j ≤ n ∧ Hid (wr.ownsRow (D + 1) 2 1 (.slice V j vc) j (((xs.take j).map (isIn ys)).map (Value.int .i64))) ∧ Below w.heap.size w wr ∧ Hid (Bx wr w.heap.size #[.int .i64 k, .int .i64 r, .int .i64 l0, .int .i64 l1, .slice A n c] 25) ∧ Hid (Bx wr (w.heap.size + 1) #[.int .i64 k, .int .i64 1, .int .i64 l0', .int .i64 l1', .slice A' n' c'] 25) ∧ Hid (Bx wr (w.heap.size + 1 + 1) #[.int .i64 0, .int .i64 0, .int .i64 0, .int .i64 0, .slice none 0 0] 25) ∧ Hid (Bx wr D #[.int .i64 1, .int .i64 r, .int .i64 l0, .int .i64 l1, .slice V j vc] 25) ∧ D + 1 ≤ wr.heap.size) (fun i _ _ => n - (intOf i).toNat)
          case atStart => exact ⟨0, none, 0, rfl, Nat.zero_le _, Lib.hid (by simpa using World.ownsRow_nil _ _ _ _), b3, HX0, HX1, HX2, HXD, hz3⟩
          case round =>
            clear b3 HX0 HX1 HX2 HXD hz3
            obtain ⟨j, V, vc, rfl, hj, HO, hb, Y0, Y1, Y2, YD, hz⟩ := hrel
            have d0 : ∀ i, wr.cell? ⟨w.heap.size, i, none⟩ = _ := Bx.cell Y0.out
            by_cases hlt : j < n
            · have k0 : (0 : Int) ≤ (j : Int) := by omega
              have k1 : (j : Int) < (n : Int) := by omega
              have d1 : ∀ i, wr.cell? ⟨w.heap.size + 1, i, none⟩ = _ := Bx.cell Y1.out
              obtain ⟨b, o, rfl, hbl, hc0⟩ := HS.out.at_ hlt
              obtain ⟨x, hx⟩ : ∃ x, xs.getD j 0 = x := ⟨_, rfl⟩
              rw [hx] at hc0
              have hc1 := (hb.cell (p := ⟨b, o + j, none⟩) hbl).trans hc0
              have hsn : (xs.take j).map (isIn ys) ++ [isIn ys x] = (xs.take (j + 1)).map (isIn ys) := by
                have hj2 : j < xs.length := by rw [HS.out.len]; exact hlt
                rw [List.take_succ_eq_append_getElem hj2, List.map_append, ← getD_get hj2, hx]
                rfl
              obtain ⟨B, hB⟩ : ∃ B, ys.elem x = B := ⟨_, rfl⟩
              have hy : isIn ys x = if B = true then 1 else 0 := by unfold isIn; rw [hB]
              have hhas := fun z => has_any A' n' c' ys x (wr.drewN z) (HS'.out.step (bdn hb z))
              rw [hB] at hhas
              have HHAS := Lib.hid hhas
              clear hc0 hx hB hhas
              cases B with
              | true =>
                rw [hy, if_pos rfl] at hsn
                have HSN := Lib.hid hsn
                clear hsn hy
                go_wp2_with fail
                go_quiet ((go_at_call 39; exact Calls.quiet_of_same (HHAS.out _)))
                obtain ⟨w5, hw5⟩ : ∃ w5, wr.drewN nq = w5 := ⟨_, rfl⟩
                have hst : Below wr.heap.size wr w5 := by rw [← hw5]; exact bdn (Below.refl _ _) nq
                have Z0 := Bx.step Y0.out hst
                have Z1 := Bx.step Y1.out hst
                have Z2 := Bx.step Y2.out hst
                have ZD := Bx.step YD.out hst
                have hb5 := bst hb hst
                have HO5 : Hid (w5.ownsRow (D + 1) 2 1 (.slice V j vc) j (((xs.take j).map (isIn ys)).map (Value.int .i64))) := by rw [← hw5]; exact Lib.hid (show (wr.drewN nq).ownsRow _ _ _ _ _ _ from HO.out)
                rw [hw5]
                have hs5 := hst.size
                have dD : ∀ i, w5.cell? ⟨D, i, none⟩ = _ := Bx.cell ZD
                have pD := Bx.lt ZD
                clear hw5 hst d0 d1 hc1
                have HO1 := Lib.hid (HO5.out.alloc (.cells #[.int .i64 1] 2))
                have HS1 := Lib.hid (slOne w5 1)
                have ED := Lib.hid (Bx.alloc ZD (.cells #[.int .i64 1] 2))
                have E0 := Lib.hid (Bx.alloc Z0 (.cells #[.int .i64 1] 2))
                have E1 := Lib.hid (Bx.alloc Z1 (.cells #[.int .i64 1] 2))
                have E2 := Lib.hid (Bx.alloc Z2 (.cells #[.int .i64 1] 2))
                have HZ := Lib.hid (show D + 1 ≤ (w5.alloc (.cells #[.int .i64 1] 2)).heap.size by simp; omega)
                have HBD := Lib.hid (bal hb5 (.cells #[.int .i64 1] 2))
                clear hb5 hb
                go_wp2_with (at_builtin; refine wpList_append_sl rfl _ _ rfl rfl (D + 1) _ j ((xs.take j).map (isIn ys)) rfl HO1.out (some ⟨w5.heap.size, 0, none⟩) 1 1 [1] rfl HS1.out (by omega) HZ.out ?_)
                intro A2 c2 w6 hg
                have HG := Lib.hid hg.1
                have b6 : Below w.heap.size w w6 := hg.below HBD.out (fun k hk => by have := (HO1.out.lt k hk).1; omega)
                have YD2 : Bx w6 D #[.int .i64 1, .int .i64 r, .int .i64 l0, .int .i64 l1, .slice V j vc] 25 := Bx.grown ED.out hg.2.2 (own_row_ne HO1.out ED.out (by decide))
                have G0 := Lib.hid (Bx.grown E0.out hg.2.2 (own_row_ne HO1.out E0.out (by decide)))
                have G1 := Lib.hid (Bx.grown E1.out hg.2.2 (own_row_ne HO1.out E1.out (by decide)))
                have G2 := Lib.hid (Bx.grown E2.out hg.2.2 (own_row_ne HO1.out E2.out (by decide)))
                have hz6 := Nat.le_trans HZ.out hg.2.2.size
                have d6 : ∀ i, w6.cell? ⟨D, i, none⟩ = _ := Bx.cell YD2
                have f6 : ∀ i, w6.frozen? ⟨D, i, none⟩ = false := Bx.frozen YD2
                have p6 := YD2.lt
                clear hg dD
                go_wp2
                refine ⟨⟨j + 1, A2, c2, rfl, by omega, ?_, bsc b6 (by show _ ≤ D; omega) _, Lib.hid (Bx.far G0.out (by show _ ≠ D; omega) _), Lib.hid (Bx.far G1.out (by show _ ≠ D; omega) _), Lib.hid (Bx.far G2.out (by show _ ≠ D; omega) _), Lib.hid (by simpa using YD2.set_ 4 (.slice A2 (j + 1) c2)), by simp [World.setCell]; omega⟩, ?_⟩
                · have hg := HG.out
                  rw [← List.map_take] at hg
                  rw [← HSN.out]; exact Lib.hid (own_drop hg YD2 (by decide) _)
                · simp only [intOf]; omega
              | false =>
                rw [hy, if_neg (by decide)] at hsn
                have HSN := Lib.hid hsn
                clear hsn hy
                go_wp2_with fail
                go_quiet ((go_at_call 39; exact Calls.quiet_of_same (HHAS.out _)))
                obtain ⟨w5, hw5⟩ : ∃ w5, wr.drewN nq = w5 := ⟨_, rfl⟩
                have hst : Below wr.heap.size wr w5 := by rw [← hw5]; exact bdn (Below.refl _ _) nq
                have Z0 := Bx.step Y0.out hst
                have Z1 := Bx.step Y1.out hst
                have Z2 := Bx.step Y2.out hst
                have ZD := Bx.step YD.out hst
                have hb5 := bst hb hst
                have HO5 : Hid (w5.ownsRow (D + 1) 2 1 (.slice V j vc) j (((xs.take j).map (isIn ys)).map (Value.int .i64))) := by rw [← hw5]; exact Lib.hid (show (wr.drewN nq).ownsRow _ _ _ _ _ _ from HO.out)
                rw [hw5]
                have hs5 := hst.size
                have dD : ∀ i, w5.cell? ⟨D, i, none⟩ = _ := Bx.cell ZD
                have pD := Bx.lt ZD
                clear hw5 hst d0 d1 hc1
                have HO1 := Lib.hid (HO5.out.alloc (.cells #[.int .i64 0] 2))
                have HS1 := Lib.hid (slOne w5 0)
                have ED := Lib.hid (Bx.alloc ZD (.cells #[.int .i64 0] 2))
                have E0 := Lib.hid (Bx.alloc Z0 (.cells #[.int .i64 0] 2))
                have E1 := Lib.hid (Bx.alloc Z1 (.cells #[.int .i64 0] 2))
                have E2 := Lib.hid (Bx.alloc Z2 (.cells #[.int .i64 0] 2))
                have HZ := Lib.hid (show D + 1 ≤ (w5.alloc (.cells #[.int .i64 0] 2)).heap.size by simp; omega)
                have HBD := Lib.hid (bal hb5 (.cells #[.int .i64 0] 2))
                clear hb5 hb
                go_wp2_with (at_builtin; refine wpList_append_sl rfl _ _ rfl rfl (D + 1) _ j ((xs.take j).map (isIn ys)) rfl HO1.out (some ⟨w5.heap.size, 0, none⟩) 1 1 [0] rfl HS1.out (by omega) HZ.out ?_)
                intro A2 c2 w6 hg
                have HG := Lib.hid hg.1
                have b6 : Below w.heap.size w w6 := hg.below HBD.out (fun k hk => by have := (HO1.out.lt k hk).1; omega)
                have YD2 : Bx w6 D #[.int .i64 1, .int .i64 r, .int .i64 l0, .int .i64 l1, .slice V j vc] 25 := Bx.grown ED.out hg.2.2 (own_row_ne HO1.out ED.out (by decide))
                have G0 := Lib.hid (Bx.grown E0.out hg.2.2 (own_row_ne HO1.out E0.out (by decide)))
                have G1 := Lib.hid (Bx.grown E1.out hg.2.2 (own_row_ne HO1.out E1.out (by decide)))
                have G2 := Lib.hid (Bx.grown E2.out hg.2.2 (own_row_ne HO1.out E2.out (by decide)))
                have hz6 := Nat.le_trans HZ.out hg.2.2.size
                have d6 : ∀ i, w6.cell? ⟨D, i, none⟩ = _ := Bx.cell YD2
                have f6 : ∀ i, w6.frozen? ⟨D, i, none⟩ = false := Bx.frozen YD2
                have p6 := YD2.lt
                clear hg dD
                go_wp2
                refine ⟨⟨j + 1, A2, c2, rfl, by omega, ?_, bsc b6 (by show _ ≤ D; omega) _, Lib.hid (Bx.far G0.out (by show _ ≠ D; omega) _), Lib.hid (Bx.far G1.out (by show _ ≠ D; omega) _), Lib.hid (Bx.far G2.out (by show _ ≠ D; omega) _), Lib.hid (by simpa using YD2.set_ 4 (.slice A2 (j + 1) c2)), by simp [World.setCell]; omega⟩, ?_⟩
                · have hg := HG.out
                  rw [← List.map_take] at hg
                  rw [← HSN.out]; exact Lib.hid (own_drop hg YD2 (by decide) _)
                · simp only [intOf]; omega
            · obtain rfl : j = n := by omega
              have f2 : ∀ i, wr.frozen? ⟨w.heap.size + 1 + 1, i, none⟩ = false := Bx.frozen Y2.out
              have d2 : ∀ i, wr.cell? ⟨w.heap.size + 1 + 1, i, none⟩ = _ := Bx.cell Y2.out
              have dD : ∀ i, wr.cell? ⟨D, i, none⟩ = _ := Bx.cell YD.out
              have p2 := Bx.lt Y2.out
              go_wp2
              refine retAE (B := w.heap.size + 1 + 1) rfl rfl rfl rfl (Bx.set5 Y2.out _ _ _ _ _) ?_
              have hO := HO.out
              rw [List.take_of_length_le (by rw [HS.out.len]; exact Nat.le_refl _)] at hO
              obtain ⟨_, _, hv, hS, _⟩ := Sl.of_own hO
              cases hv
              exact RetA.mk HR.out.symm (hS.past5 _ _ _ _ _ fun b o e => own_ne' hO Y2.out (by decide) e) (fun b o s e => by have := New.of_own' hO b o s e; omega) (below_set5 hb (by omega) _ _ _ _ _)
        · have e : fE (k == k) (r' == 1) 0 = 22 := by
            have : (r' == 1) = false := by simpa using hr
            rw [this]; simp [fE]
          rw [e, if_pos (by decide)] at h
          have HR := Lib.hid h
          have hr3 : (r' != 1) = true := by simpa using hr
          have hkk : (k != k) = false := by simp
          clear h e hr he1 he2 h00
          go_enter Try.func21, Try.ntmps21
          go_wp2_with fail
          refine (racheck_any _ _ _ _ _ _ _ xs _ _ (HS.out.step (below3 _ _ _ _)) HE1.out).mono ?_
          rintro e w1 ⟨rfl, hb1⟩
          obtain ⟨X0, X1, X2, b1⟩ := after3 hb1
          have c0 : ∀ i, w1.cell? ⟨w.heap.size, i, none⟩ = _ := Bx.cell X0
          have c1 : ∀ i, w1.cell? ⟨w.heap.size + 1, i, none⟩ = _ := Bx.cell X1
          clear hb1
          go_wp2_with fail
          refine (racheck_any _ _ _ _ _ _ _ ys _ _ (HS'.out.step b1) HE2.out).mono ?_
          rintro e w2 ⟨rfl, hb2⟩
          have b2 := bst b1 hb2
          replace X0 := Bx.step X0 hb2
          replace X1 := Bx.step X1 hb2
          replace X2 := Bx.step X2 hb2
          clear c0 c1 hb2
          have c0 : ∀ i, w2.cell? ⟨w.heap.size, i, none⟩ = _ := Bx.cell X0
          have c1 : ∀ i, w2.cell? ⟨w.heap.size + 1, i, none⟩ = _ := Bx.cell X1
          have g2 : ∀ i, w2.cell? ⟨w.heap.size + 1 + 1, i, none⟩ = _ := Bx.cell X2
          have f2 : ∀ i, w2.frozen? ⟨w.heap.size + 1 + 1, i, none⟩ = false := Bx.frozen X2
          have q2 := Bx.lt X2
          go_wp2
          refine retAE (B := w.heap.size + 1 + 1) rfl rfl rfl rfl (Bx.set5 X2 _ _ _ _ _) ?_
          exact RetA.mk HR.out.symm (Sl.nil _) (fun _ _ _ h => by cases h) (below_set5 b2 (by omega) _ _ _ _ _)
      · have e : fE (k == k') (r' == 1) 0 = 21 := by
          have : (k == k') = false := by simpa using hk
          rw [this]; rfl
        rw [e, if_pos (by decide)] at h
        have HR := Lib.hid h
        have hk3 : (k != k') = true := by simpa using hk
        clear h e hk he1 he2 h00
        go_enter Try.func21, Try.ntmps21
        go_wp2_with fail
        refine (racheck_any _ _ _ _ _ _ _ xs _ _ (HS.out.step (below3 _ _ _ _)) HE1.out).mono ?_
        rintro e w1 ⟨rfl, hb1⟩
        obtain ⟨X0, X1, X2, b1⟩ := after3 hb1
        have c0 : ∀ i, w1.cell? ⟨w.heap.size, i, none⟩ = _ := Bx.cell X0
        have c1 : ∀ i, w1.cell? ⟨w.heap.size + 1, i, none⟩ = _ := Bx.cell X1
        clear hb1
        go_wp2_with fail
        refine (racheck_any _ _ _ _ _ _ _ ys _ _ (HS'.out.step b1) HE2.out).mono ?_
        rintro e w2 ⟨rfl, hb2⟩
        have b2 := bst b1 hb2
        replace X0 := Bx.step X0 hb2
        replace X1 := Bx.step X1 hb2
        replace X2 := Bx.step X2 hb2
        clear c0 c1 hb2
        have c0 : ∀ i, w2.cell? ⟨w.heap.size, i, none⟩ = _ := Bx.cell X0
        have c1 : ∀ i, w2.cell? ⟨w.heap.size + 1, i, none⟩ = _ := Bx.cell X1
        have g2 : ∀ i, w2.cell? ⟨w.heap.size + 1 + 1, i, none⟩ = _ := Bx.cell X2
        have f2 : ∀ i, w2.frozen? ⟨w.heap.size + 1 + 1, i, none⟩ = false := Bx.frozen X2
        have q2 := Bx.lt X2
        go_wp2
        refine retAE (B := w.heap.size + 1 + 1) rfl rfl rfl rfl (Bx.set5 X2 _ _ _ _ _) ?_
        exact RetA.mk HR.out.symm (Sl.nil _) (fun _ _ _ h => by cases h) (below_set5 b2 (by omega) _ _ _ _ _)
    · have e0 : orE 0 e2 = e2 := rfl
      have e : fE (k == k') (r' == 1) (orE 0 e2) = e2 := by rw [e0]; exact fE_err z2
      rw [e, if_pos z2] at h
      have HR := Lib.hid h
      have z3 : (e2 == 0) = false := by simpa using z2
      have z4 : (e2 != 0) = true := by simpa using z2
      clear h e e0 z2 he1 he2
      go_enter Try.func21, Try.ntmps21
      go_wp2_with fail
      refine (racheck_any _ _ _ _ _ _ _ xs _ _ (HS.out.step (below3 _ _ _ _)) HE1.out).mono ?_
      rintro e w1 ⟨rfl, hb1⟩
      obtain ⟨X0, X1, X2, b1⟩ := after3 hb1
      have c0 : ∀ i, w1.cell? ⟨w.heap.size, i, none⟩ = _ := Bx.cell X0
      have c1 : ∀ i, w1.cell? ⟨w.heap.size + 1, i, none⟩ = _ := Bx.cell X1
      clear hb1
      go_wp2_with fail
      refine (racheck_any _ _ _ _ _ _ _ ys _ _ (HS'.out.step b1) HE2.out).mono ?_
      rintro e w2 ⟨rfl, hb2⟩
      have b2 := bst b1 hb2
      replace X0 := Bx.step X0 hb2
      replace X1 := Bx.step X1 hb2
      replace X2 := Bx.step X2 hb2
      clear c0 c1 hb2
      have c0 : ∀ i, w2.cell? ⟨w.heap.size, i, none⟩ = _ := Bx.cell X0
      have c1 : ∀ i, w2.cell? ⟨w.heap.size + 1, i, none⟩ = _ := Bx.cell X1
      have g2 : ∀ i, w2.cell? ⟨w.heap.size + 1 + 1, i, none⟩ = _ := Bx.cell X2
      have f2 : ∀ i, w2.frozen? ⟨w.heap.size + 1 + 1, i, none⟩ = false := Bx.frozen X2
      have q2 := Bx.lt X2
      go_wp2
      refine retAE (B := w.heap.size + 1 + 1) rfl rfl rfl rfl (Bx.set5 X2 _ _ _ _ _) ?_
      exact RetA.mk HR.out.symm (Sl.nil _) (fun _ _ _ h => by cases h) (below_set5 b2 (by omega) _ _ _ _ _)
  · have e0 : orE e1 e2 = e1 := if_neg z1
    have e : fE (k == k') (r' == 1) (orE e1 e2) = e1 := by rw [e0]; exact fE_err z1
    rw [e, if_pos z1] at h
    have HR := Lib.hid h
    have z3 : (e1 == 0) = false := by simpa using z1
    have z4 : (e1 != 0) = true := by simpa using z1
    clear h e e0 z1 he1 he2
    go_enter Try.func21, Try.ntmps21
    go_wp2_with fail
    refine (racheck_any _ _ _ _ _ _ _ xs _ _ (HS.out.step (below3 _ _ _ _)) HE1.out).mono ?_
    rintro e w1 ⟨rfl, hb1⟩
    obtain ⟨X0, X1, X2, b1⟩ := after3 hb1
    have c0 : ∀ i, w1.cell? ⟨w.heap.size, i, none⟩ = _ := Bx.cell X0
    have c1 : ∀ i, w1.cell? ⟨w.heap.size + 1, i, none⟩ = _ := Bx.cell X1
    clear hb1
    have g2 : ∀ i, w1.cell? ⟨w.heap.size + 1 + 1, i, none⟩ = _ := Bx.cell X2
    have f2 : ∀ i, w1.frozen? ⟨w.heap.size + 1 + 1, i, none⟩ = false := Bx.frozen X2
    have q2 := Bx.lt X2
    go_wp2
    refine retAE (B := w.heap.size + 1 + 1) rfl rfl rfl rfl (Bx.set5 X2 _ _ _ _ _) ?_
    exact RetA.mk HR.out.symm (Sl.nil _) (fun _ _ _ h => by cases h) (below_set5 b1 (by omega) _ _ _ _ _)
end Go.Proofs.Ytfbloddffhafdaa

/-
  The reference's Fill.
-/
import Derived.Test.YtoapgknkenlcgaaRtake
import Derived.Test.YtoapgknkenlcgaaMfil
namespace Go.Proofs.Ytoapgknkenlcgaa
open Go.RowKit

theorem again_succ (ys : List Int) (j : Nat) : again ys j ++ [ys.getD (j % ys.length) 0] = again ys (j + 1) := by
  simp [again, List.range_succ]
theorem ownNil (w : World) (base : Nat) : w.ownsRow base 2 1 (.slice none 0 0) 0 ((again [] 0).map (Value.int .i64)) := World.ownsRow_nil _ _ _ _
theorem slOne (w : World) (y : Int) : Sl (w.alloc (.cells #[.int .i64 y] 2)) (some ⟨w.heap.size, 0, none⟩) 1 1 [y] :=
  Sl.of_box (Bx.new w _ _) rfl (by omega) (by decide) (fun j hj => by
    obtain rfl : j = 0 := by omega
    rfl)

set_option maxHeartbeats 4000000 in
theorem rFill_any (k r l0 l1 : Int) (A : Option Addr) (n c : Nat) (xs : List Int) (k' r' l0' l1' : Int) (A' : Option Addr) (n' c' : Nat) (ys : List Int) (R : Arr × Int) (w : World)
    (hs : Sl w A n c xs) (hs' : Sl w A' n' c' ys) (hwf : ∀ x ∈ xs, -9223372036854775808 ≤ x ∧ x ≤ 9223372036854775807) (h : sFill ⟨k, r, l0, l1, xs⟩ ⟨k', r', l0', l1', ys⟩ = R) :
    Calls Try.prog 19 #[.agg #[.int .i64 k, .int .i64 r, .int .i64 l0, .int .i64 l1, .slice A n c], .agg #[.int .i64 k', .int .i64 r', .int .i64 l0', .int .i64 l1', .slice A' n' c']] w (RetA w R) := by
  by_cases h0 : twoE ⟨k, r, l0, l1, xs⟩ ⟨k', r', l0', l1', ys⟩ 0 0 = 0
  · obtain ⟨ha, hv, hk, hr, hr'⟩ := twoE_ok h0
    simp only [chkA] at ha hv
    obtain ⟨x, rfl⟩ := scalar_one ha hr
    obtain ⟨y, rfl⟩ := scalar_one hv hr'
    obtain rfl : n = 1 := hs.len.symm
    obtain rfl : n' = 1 := hs'.len.symm
    obtain ⟨b, o, rfl, hbl, hcx⟩ := hs.at_ (k := 0) (by omega)
    obtain ⟨hx0, hx1⟩ := hwf x (by simp)
    rw [sFill_ok h0 rfl] at h
    simp only [List.getD_cons_zero] at h
    have H0 := Lib.hid h0
    have HS := Lib.hid hs
    have HS' := Lib.hid hs'
    have HCX := Lib.hid hcx
    obtain ⟨ys, hys⟩ : ∃ ys, ys = [y] := ⟨_, rfl⟩
    rw [← hys] at H0 HS'
    have HYS := Lib.hid hys
    clear hs hs' hwf ha hv hk hr hr' hcx h0 hys
    by_cases hx : x < 0
    · rw [if_pos hx] at h
      have HR := Lib.hid h
      clear h
      go_enter Try.func19, Try.ntmps19
      go_wp2_with fail
      refine (rtwo_any _ _ _ _ _ _ _ [x] _ _ _ _ _ _ _ ys _ _ _ _ (HS.out.step (below3 _ _ _ _)) (HS'.out.step (below3 _ _ _ _)) H0.out).mono ?_
      rintro e w1 ⟨rfl, hb1⟩
      obtain ⟨X0, X1, X2, b1⟩ := after3 hb1
      clear hb1
      have q2 := Bx.lt X2
      have c0 : ∀ i, w1.cell? ⟨w.heap.size, i, none⟩ = _ := Bx.cell X0
      have c1 : ∀ i, w1.cell? ⟨w.heap.size + 1, i, none⟩ = _ := Bx.cell X1
      have c2 : ∀ i, w1.cell? ⟨w.heap.size + 1 + 1, i, none⟩ = _ := Bx.cell X2
      have f2 : ∀ i, w1.frozen? ⟨w.heap.size + 1 + 1, i, none⟩ = false := Bx.frozen X2
      have cx : w1.cell? ⟨b, o, none⟩ = some (.int .i64 x) := (b1.cell (p := ⟨b, o, none⟩) hbl).trans HCX.out
      go_wp2
      refine retAE (B := w.heap.size + 1 + 1) rfl rfl rfl rfl (Bx.set5 X2 _ _ _ _ _) ?_
      exact RetA.mk HR.out.symm (Sl.nil _) (fun _ _ _ h => by cases h) (below_set5 b1 (by omega) _ _ _ _ _)
    · rw [if_neg hx] at h
      by_cases hx4 : 400 < x
      · rw [if_pos hx4] at h
        have HR := Lib.hid h
        clear h
        go_enter Try.func19, Try.ntmps19
        go_wp2_with fail
        refine (rtwo_any _ _ _ _ _ _ _ [x] _ _ _ _ _ _ _ ys _ _ _ _ (HS.out.step (below3 _ _ _ _)) (HS'.out.step (below3 _ _ _ _)) H0.out).mono ?_
        rintro e w1 ⟨rfl, hb1⟩
        obtain ⟨X0, X1, X2, b1⟩ := after3 hb1
        clear hb1
        have q2 := Bx.lt X2
        have c0 : ∀ i, w1.cell? ⟨w.heap.size, i, none⟩ = _ := Bx.cell X0
        have c1 : ∀ i, w1.cell? ⟨w.heap.size + 1, i, none⟩ = _ := Bx.cell X1
        have c2 : ∀ i, w1.cell? ⟨w.heap.size + 1 + 1, i, none⟩ = _ := Bx.cell X2
        have f2 : ∀ i, w1.frozen? ⟨w.heap.size + 1 + 1, i, none⟩ = false := Bx.frozen X2
        have cx : w1.cell? ⟨b, o, none⟩ = some (.int .i64 x) := (b1.cell (p := ⟨b, o, none⟩) hbl).trans HCX.out
        go_wp2
        refine retAE (B := w.heap.size + 1 + 1) rfl rfl rfl rfl (Bx.set5 X2 _ _ _ _ _) ?_
        exact RetA.mk HR.out.symm (Sl.nil _) (fun _ _ _ h => by cases h) (below_set5 b1 (by omega) _ _ _ _ _)
      · rw [if_neg hx4] at h
        obtain ⟨m, rfl⟩ : ∃ m : Nat, x = (m : Int) := ⟨x.toNat, by omega⟩
        have hR : R = (⟨k', 1, m, 0, again ys m⟩, 0) := by
          rw [← h, HYS.out, again_one]
          simp [vecA]
        have HR := Lib.hid hR
        have hm : m ≤ 400 := by omega
        obtain ⟨b', o', rfl, hbl', hcy⟩ := HS'.out.at_ (k := 0) (by omega)
        have hy0 : ys.getD 0 0 = y := by rw [HYS.out]; rfl
        rw [hy0] at hcy
        have HCY := Lib.hid hcy
        have hst : ∀ j, again ys j ++ [y] = again ys (j + 1) := fun j => by
          rw [← again_succ, HYS.out]; simp [Nat.mod_one]
        have HST := Lib.hid hst
        clear h hR hcy hy0 hst
        go_enter Try.func19, Try.ntmps19
        go_wp2_with fail
        refine (rtwo_any _ _ _ _ _ _ _ [(m : Int)] _ _ _ _ _ _ _ ys _ _ _ _ (HS.out.step (below3 _ _ _ _)) (HS'.out.step (below3 _ _ _ _)) H0.out).mono ?_
        rintro e w1 ⟨rfl, hb1⟩
        obtain ⟨X0, X1, X2, b1⟩ := after3 hb1
        clear hb1
        have q2 := Bx.lt X2
        have c0 : ∀ i, w1.cell? ⟨w.heap.size, i, none⟩ = _ := Bx.cell X0
        have c1 : ∀ i, w1.cell? ⟨w.heap.size + 1, i, none⟩ = _ := Bx.cell X1
        have c2 : ∀ i, w1.cell? ⟨w.heap.size + 1 + 1, i, none⟩ = _ := Bx.cell X2
        have f2 : ∀ i, w1.frozen? ⟨w.heap.size + 1 + 1, i, none⟩ = false := Bx.frozen X2
        have cx : w1.cell? ⟨b, o, none⟩ = some (.int .i64 (m : Int)) := (b1.cell (p := ⟨b, o, none⟩) hbl).trans HCX.out
        go_wp2
        go_loopw [7, 8] (fun v i wr => ∃ (j : Nat) (V : Option Addr) (vc : Nat), j ≤ m ∧ v = .slice V j vc ∧ i = .int .i64 j ∧ Below w1.heap.size w1 wr ∧ Hid (wr.ownsRow w1.heap.size 2 1 (.slice V j vc) j ((again ys j).map (Value.int .i64)))) (fun _ i _ => m - (intOf i).toNat)
        case atStart => exact ⟨0, none, 0, Nat.zero_le _, rfl, rfl, Below.refl _ _, Lib.hid (World.ownsRow_nil _ _ _ _)⟩
        case round =>
          obtain ⟨j, V, vc, hj, rfl, rfl, hb, HO⟩ := hrel
          have d0 : ∀ i, wr.cell? ⟨w.heap.size, i, none⟩ = _ := (Bx.step X0 hb).cell
          have d1 : ∀ i, wr.cell? ⟨w.heap.size + 1, i, none⟩ = _ := (Bx.step X1 hb).cell
          have b0 : Below w.heap.size w wr := bst b1 hb
          have dx : wr.cell? ⟨b, o, none⟩ = some (.int .i64 (m : Int)) := (b0.cell (p := ⟨b, o, none⟩) hbl).trans HCX.out
          have dy : wr.cell? ⟨b', o', none⟩ = some (.int .i64 y) := (b0.cell (p := ⟨b', o', none⟩) hbl').trans HCY.out
          by_cases hlt : j < m
          · have hO1 := HO.out.alloc (.cells #[.int .i64 y] 2)
            have HO1 := Lib.hid hO1
            have HS1 := Lib.hid (slOne wr y)
            have hbz : w1.heap.size ≤ (wr.alloc (.cells #[.int .i64 y] 2)).heap.size := Nat.le_trans hb.size (Nat.le_of_lt (by simp))
            have HBZ := Lib.hid hbz
            clear hO1 hbz
            go_wp2_with (at_builtin; go_loud (refine wpList_append_sl rfl _ _ rfl rfl w1.heap.size _ j (again ys j) rfl HO1.out (some ⟨wr.heap.size, 0, none⟩) 1 1 [y] rfl HS1.out (by omega) HBZ.out ?_); intro A2 c2' w2 hg)
            refine ⟨⟨j + 1, A2, c2', by omega, rfl, rfl, hg.below (bal hb _) (fun k hk => (HO.out.lt k hk).1), ?_⟩, ?_⟩
            · rw [← HST.out]; exact Lib.hid hg.1
            · simp only [intOf]; omega
          · obtain rfl : j = m := by omega
            go_wp2_with fail
            obtain ⟨_, _, hv, hS, _⟩ := Sl.of_own HO.out
            cases hv
            refine (rVector_any k' V j vc (again ys j) _ hS (by omega)).mono ?_
            rintro e w3 ⟨⟨A3, n3, c3, rfl, hS3, hN3⟩, hb3⟩
            have B3 : Below w1.heap.size w1 w3 := bst hb hb3
            have g2 : ∀ i, w3.cell? ⟨w.heap.size + 1 + 1, i, none⟩ = _ := (Bx.step X2 B3).cell
            have k2 : ∀ i, w3.frozen? ⟨w.heap.size + 1 + 1, i, none⟩ = false := (Bx.step X2 B3).frozen
            have HS3 := Lib.hid hS3
            clear hS3 hS hb3
            go_wp2
            refine retAE (B := w.heap.size + 1 + 1) rfl rfl rfl rfl ((Bx.step X2 B3).set5 _ _ _ _ _) ?_
            have M3 : ∀ b o, A3 = some ⟨b, o, none⟩ → b ≠ w.heap.size + 1 + 1 := fun b o e => by have := hN3 b o none e; have := hb.size; omega
            have hm3 := hN3.mono (Nat.le_trans b1.size hb.size)
            exact RetA.mk HR.out (HS3.out.past5 _ _ _ _ _ M3) hm3 (below_set5 (bst b1 B3) (by omega) _ _ _ _ _)
  · have he : (zA, twoE ⟨k, r, l0, l1, xs⟩ ⟨k', r', l0', l1', ys⟩ 0 0) = R := by
      rw [← h]; exact (sFill_err h0).symm
    obtain ⟨ec, hec⟩ : ∃ ec, twoE ⟨k, r, l0, l1, xs⟩ ⟨k', r', l0', l1', ys⟩ 0 0 = ec := ⟨_, rfl⟩
    rw [hec] at h0 he
    have HEC := Lib.hid hec
    have HR := Lib.hid he
    have HS := Lib.hid hs
    have HS' := Lib.hid hs'
    have hne : (ec != 0) = true := by simpa using h0
    have hne' : (ec == 0) = false := by simpa using h0
    clear hec h0 he h hs hs'
    go_enter Try.func19, Try.ntmps19
    go_wp2_with fail
    refine (rtwo_any _ _ _ _ _ _ _ xs _ _ _ _ _ _ _ ys _ _ _ _ (HS.out.step (below3 _ _ _ _)) (HS'.out.step (below3 _ _ _ _)) HEC.out).mono ?_
    rintro e w1 ⟨rfl, hb1⟩
    obtain ⟨X0, X1, X2, b1⟩ := after3 hb1
    clear hb1
    have q2 := Bx.lt X2
    have c0 : ∀ i, w1.cell? ⟨w.heap.size, i, none⟩ = _ := Bx.cell X0
    have c1 : ∀ i, w1.cell? ⟨w.heap.size + 1, i, none⟩ = _ := Bx.cell X1
    have c2 : ∀ i, w1.cell? ⟨w.heap.size + 1 + 1, i, none⟩ = _ := Bx.cell X2
    have f2 : ∀ i, w1.frozen? ⟨w.heap.size + 1 + 1, i, none⟩ = false := Bx.frozen X2
    go_wp2
    refine retAE (B := w.heap.size + 1 + 1) rfl rfl rfl rfl (Bx.set5 X2 _ _ _ _ _) ?_
    exact RetA.mk HR.out.symm (Sl.nil _) (fun _ _ _ h => by cases h) (below_set5 b1 (by omega) _ _ _ _ _)
end Go.Proofs.Ytoapgknkenlcgaa

/-
  The law ArraysReads: it returns true.
-/
import Derived.Test.YtimpdfafodaadaaDoorAw6
import Derived.Test.YtimpdfafodaadaaDoorRowr
import Derived.Test.YtimpdfafodaadaaDoorRstr
namespace Go.Proofs.YtimpdfafodaadaaDoor
open Go.RowKit
attribute [local go_sem] Oper.semAt_some

theorem xsOf_row {rs1 rs2 : List RowS} (h : xsOf rs1 = xsOf rs2) (j : Nat) : (rs1.getD j rowS0).xs = (rs2.getD j rowS0).xs := by
  have h1 : (xsOf rs1).getD j [] = (xsOf rs2).getD j [] := by rw [h]
  have e : ∀ rs : List RowS, (xsOf rs).getD j [] = (rs.getD j rowS0).xs := fun rs => by
    simp only [xsOf, List.getD, List.getElem?_map]
    cases rs[j]? <;> rfl
  rwa [e, e] at h1
set_option maxHeartbeats 1500000 in
theorem lawReads6 (k r l0 l1 : Int) (A : Option Addr) (n c : Nat) (xs : List Int) (w : World) (hs : Sl w A n c xs) (hT : Tab8 w) :
    Calls Tryd.prog 3 #[.agg #[.int .i64 k, .int .i64 r, .int .i64 l0, .int .i64 l1, .slice A n c]] w fun e w' => e = .returned (.bool true) ∧ Below w.heap.size w w' := by
  have HS := Lib.hid hs
  have HT := Lib.hid hT
  have hcap := hs.cap
  have hmost := hs.most
  clear hs hT
  by_cases hf : 500 < n
  · have HF := Lib.hid (decide_eq_true hf)
    go_enter Tryd.func3, Tryd.ntmps3
    go_wp2_with fail
    refine (far6_any _ _ _ _ _ _ _ xs _ (HS.out.step (below1 _ _))).mono ?_
    rintro e w1 ⟨rfl, hb1⟩
    obtain ⟨X0, b1⟩ := after1 hb1
    rw [HF.out]
    go_wp2_with fail
    refine (awake_any _ (Tab8.step HT.out b1)).mono ?_
    rintro e wz ⟨rfl, hbz⟩
    go_wp2
    go_ret
    exact ⟨rfl, bst b1 hbz⟩
  · have HF := Lib.hid (decide_eq_false hf)
    obtain ⟨⟨S, se⟩, hy⟩ : ∃ R, sStr k r l0 l1 xs = R := ⟨_, rfl⟩
    obtain ⟨⟨L, le⟩, hm⟩ : ∃ R, sRowsA k r l0 l1 xs = R := ⟨_, rfl⟩
    have HY := Lib.hid hy
    have HM := Lib.hid hm
    clear hm hy hf
    go_enter Tryd.func3, Tryd.ntmps3
    go_wp2_with fail
    refine (far6_any _ _ _ _ _ _ _ xs _ (HS.out.step (below1 _ _))).mono ?_
    rintro e w1 ⟨rfl, hb1⟩
    obtain ⟨X0, b1⟩ := after1 hb1
    rw [HF.out]
    have c0 : ∀ i, w1.cell? ⟨w.heap.size, i, none⟩ = _ := Bx.cell X0
    clear hb1
    go_wp2_with fail
    refine (aString_any k r l0 l1 A n c xs S se _ (HS.out.step b1) HY.out).mono ?_
    rintro e w2 ⟨rfl, hb2⟩
    have b2 := bst b1 hb2
    replace X0 := Bx.step X0 hb2
    clear c0 hb2
    have c0 : ∀ i, w2.cell? ⟨w.heap.size, i, none⟩ = _ := Bx.cell X0
    go_wp2_with fail
    refine (rString_any k r l0 l1 A n c xs S se _ (HS.out.step b2) HY.out).mono ?_
    rintro e w3 ⟨rfl, hb3⟩
    have b3 := bst b2 hb3
    replace X0 := Bx.step X0 hb3
    clear c0 hb3
    have c0 : ∀ i, w3.cell? ⟨w.heap.size, i, none⟩ = _ := Bx.cell X0
    go_wp2_with fail
    refine (aRows_any k r l0 l1 A n c xs L le _ (HS.out.step b3) HM.out).mono ?_
    rintro e w4 ⟨V1, n1, c1, rs1, rfl, hP, hX1, hb4⟩
    have b4 := bst b3 hb4
    have HP := Lib.hid hP
    have HX1 := Lib.hid hX1
    replace X0 := Bx.step X0 hb4
    clear c0 hb4 hP hX1
    have c0 : ∀ i, w4.cell? ⟨w.heap.size, i, none⟩ = _ := Bx.cell X0
    go_wp2_with fail
    refine (rRows_any k r l0 l1 A n c xs L le _ (HS.out.step b4) HM.out).mono ?_
    rintro e w5 ⟨V2, n2, c2, rs2, rfl, hQ, hX2, hb5⟩
    have b5 := bst b4 hb5
    have HP5 := Lib.hid (HP.out.step hb5)
    have HQ := Lib.hid hQ
    have HXX : Hid (xsOf rs1 = xsOf rs2) := Lib.hid (by rw [HX1.out, hX2])
    have hn12 : n1 = n2 := by
      have h1 : rs1.length = n1 := HP5.out.1
      have h2 : rs2.length = n2 := hQ.1
      rw [← h1, ← h2, ← xsOf_len rs1, ← xsOf_len rs2, HXX.out]
    have k1 : n1 ≤ c1 := HP5.out.2.1
    have k63 : c1 ≤ 9223372036854775807 := by have := HP5.out.2.2.1; unfold maxLen at this; omega
    have k2 : n2 ≤ c2 := hQ.2.1
    subst hn12
    clear c0 hb5 hQ hX2 HP HX1
    have hse : (se != se) = false := by simp
    have hle : (le != le) = false := by simp
    have hnn : ((n1 : Int) != (n1 : Int)) = false := by simp
    go_wp2
    go_loopw [11, 12] (fun i kk wr => ∃ j : Nat, j ≤ n1 ∧ i = .int .i64 j ∧ Below w5.heap.size w5 wr) (fun i _ _ => n1 - (intOf i).toNat)
    case atStart => exact ⟨0, Nat.zero_le _, rfl, Below.refl _ _⟩
    case round =>
      obtain ⟨j, hj, rfl, hb⟩ := hrel
      by_cases hlt : j < n1
      · obtain ⟨bb1, o1, rfl, hl1, hx1, hsl1⟩ := (HP5.out.step hb).at_ hlt
        obtain ⟨bb2, o2, rfl, hl2, hx2, hsl2⟩ := (HQ.out.step hb).at_ hlt
        rw [← xsOf_row HXX.out j] at hx2 hsl2
        generalize (rs1.getD j rowS0).xs = ys at hx1 hx2 hsl1 hsl2
        generalize (rs1.getD j rowS0).a = Ra at hx1 hsl1
        generalize (rs1.getD j rowS0).c = Rc at hx1 hsl1
        generalize (rs2.getD j rowS0).a = Ta at hx2 hsl2
        generalize (rs2.getD j rowS0).c = Tc at hx2 hsl2
        obtain ⟨m, hm⟩ : ∃ m, ys.length = m := ⟨_, rfl⟩
        rw [hm] at hx1 hx2 hsl1 hsl2
        have H1 := Lib.hid hsl1
        have H2 := Lib.hid hsl2
        have hc1 := hsl1.cap
        have hc63 : Rc ≤ 9223372036854775807 := by have := hsl1.most; unfold maxLen at this; omega
        have hc2 := hsl2.cap
        clear hm hsl1 hsl2
        have hj0 : (0 : Int) ≤ (j : Int) := by omega
        have hjn : (j : Int) < (n1 : Int) := by omega
        have hmm : ((m : Int) != (m : Int)) = false := by simp
        go_wp2
        go_quiet (fail)
        obtain ⟨wq, hwq⟩ : ∃ wq, wr.drewN nq = wq := ⟨_, rfl⟩
        have bq : Below wr.heap.size wr wq := by rw [← hwq]; exact bdn (Below.refl _ _) nq
        rw [hwq]
        clear hwq
        go_wp2
        go_loopw [12] (fun kk wv => ∃ q : Nat, q ≤ m ∧ kk = .int .i64 q ∧ Below wr.heap.size wr wv) (fun kk _ => m - (intOf kk).toNat)
        case atStart => exact ⟨0, Nat.zero_le _, rfl, bq⟩
        case round =>
          obtain ⟨q, hq, rfl, hbv⟩ := hrel
          have y1 := (hbv.cell (p := ⟨bb1, o1 + j, none⟩) hl1).trans hx1
          have y2 := (hbv.cell (p := ⟨bb2, o2 + j, none⟩) hl2).trans hx2
          by_cases hqm : q < m
          · obtain ⟨d1, p1, rfl, _, v1⟩ := (H1.out.step hbv).at_ hqm
            obtain ⟨d2, p2, rfl, _, v2⟩ := (H2.out.step hbv).at_ hqm
            generalize ys.getD q 0 = u at v1 v2
            have hq0 : (0 : Int) ≤ (q : Int) := by omega
            have hqm' : (q : Int) < (m : Int) := by omega
            have huu : (u != u) = false := by simp
            clear hx1 hx2
            go_wp2
            go_quiet (fail)
            go_wp2
            go_roundw
            case rel => exact ⟨q + 1, by omega, by go_num, bdn hbv _⟩
            case measure => simp [intOf]; omega
          · obtain rfl : q = m := by omega
            clear hx1 hx2
            go_wp2
            go_roundw
            case rel => exact ⟨j + 1, by omega, by go_num, bst hb hbv⟩
            case measure => simp [intOf]; omega
      · obtain rfl : j = n1 := by omega
        go_wp2_with fail
        refine (awake_any _ (Tab8.step HT.out (bst b5 hb))).mono ?_
        rintro e wz ⟨rfl, hbz⟩
        go_wp2
        go_ret
        exact ⟨rfl, bst (bst b5 hb) hbz⟩
end Go.Proofs.YtimpdfafodaadaaDoor

/-
  The law ArraysBack: it returns true.
-/
import Derived.Test.YtimpdfafodaadaaDoorAw6
import Derived.Test.YtimpdfafodaadaaDoorBkq
import Derived.Test.YtimpdfafodaadaaDoorBkr
import Derived.Test.YtimpdfafodaadaaDoorBks
import Derived.Test.YtimpdfafodaadaaDoorWi
import Derived.Test.YtimpdfafodaadaaDoorRix
import Derived.Deep.RegionHeld3
import Derived.Deep.CutRange
namespace Go.Proofs.YtimpdfafodaadaaDoor
open Go.RowKit
attribute [local go_sem] Oper.semAt_some

theorem encF_len (xs : List Int) : (encF xs).length ≤ 4 * xs.length := by
  induction xs with
  | nil => simp [encF]
  | cons c l ih =>
    have := Lib.encodeRuneZ_length c
    show (Lib.encodeRuneZ c ++ encF l).length ≤ _
    rw [List.length_append, List.length_cons]
    omega
theorem sStr_len {k r l0 l1 : Int} {xs : List Int} {S : ByteArray} {e : Int} (h : sStr k r l0 l1 xs = (S, e)) : S.size ≤ 1600 := by
  unfold sStr at h
  by_cases hc : achk k r l0 l1 xs = 0
  · rw [if_neg (fun g => g hc)] at h
    have hl := achk_len hc
    split at h
    · obtain ⟨rfl, _⟩ := Prod.mk.inj h; exact Nat.zero_le _
    · split at h
      · obtain ⟨rfl, _⟩ := Prod.mk.inj h; exact Nat.zero_le _
      · obtain ⟨rfl, _⟩ := Prod.mk.inj h
        rw [strOfNums_size]
        have := encF_len xs
        omega
  · rw [if_pos hc] at h
    obtain ⟨rfl, _⟩ := Prod.mk.inj h; exact Nat.zero_le _
theorem getD_set_ne {xs : List Int} {v : Int} {t j : Nat} (h : ¬ t = j) : (xs.set j v).getD t 0 = xs.getD t 0 := by
  rw [List.getD_eq_getElem?_getD, List.getElem?_set_ne (fun e => h e.symm), ← List.getD_eq_getElem?_getD]
set_option maxRecDepth 100000 in
set_option maxHeartbeats 8000000 in
theorem lawBack6 (k r l0 l1 : Int) (A : Option Addr) (n c : Nat) (xs : List Int) (s : ByteArray) (v : Int) (w : World) (hs : Sl w A n c xs) (hss : s.size ≤ 9223372036854775807) (hT : Tab8 w) :
    Calls Tryd.prog 6 #[.agg #[.int .i64 k, .int .i64 r, .int .i64 l0, .int .i64 l1, .slice A n c], .string s, .int .i64 v] w fun e w' => e = .returned (.bool true) ∧ Below w.heap.size w w' := by
  have HS := Lib.hid hs
  have HT := Lib.hid hT
  have hcap := hs.cap
  have hmost := hs.most
  have HL := Lib.hid hs.len
  clear hs hT
  by_cases hf : 500 < n
  · have HF := Lib.hid (decide_eq_true hf)
    go_enter Tryd.func6, Tryd.ntmps6
    go_wp2_with fail
    refine (far6_any _ _ _ _ _ _ _ xs _ (HS.out.step (below1 _ _))).mono ?_
    rintro e w1 ⟨rfl, hb1⟩
    obtain ⟨X0, b1⟩ := after1 hb1
    rw [HF.out]
    go_wp2_with fail
    refine (awake_any _ (Tab8.step HT.out b1)).mono ?_
    rintro e wz ⟨rfl, hbz⟩
    go_wp2
    go_ret
    exact ⟨rfl, bst b1 hbz⟩
  have HF := Lib.hid (decide_eq_false hf)
  by_cases h2 : 2000 < s.size
  · have g2 : (2000 : Int) < (s.size : Int) := by omega
    go_enter Tryd.func6, Tryd.ntmps6
    go_wp2_with fail
    refine (far6_any _ _ _ _ _ _ _ xs _ (HS.out.step (below1 _ _))).mono ?_
    rintro e w1 ⟨rfl, hb1⟩
    obtain ⟨X0, b1⟩ := after1 hb1
    rw [HF.out]
    go_wp2_with fail
    refine (awake_any _ (Tab8.step HT.out b1)).mono ?_
    rintro e wz ⟨rfl, hbz⟩
    go_wp2
    go_ret
    exact ⟨rfl, bst b1 hbz⟩
  have g2 : ¬ (2000 : Int) < (s.size : Int) := by omega
  have hs1 : s.size ≤ 1000000 := by omega
  obtain ⟨⟨⟨tk, tr, t0, t1, ts⟩, te⟩, ht⟩ : ∃ R, sText s = R := ⟨_, rfl⟩
  have HTX := Lib.hid ht
  clear ht hf h2
  go_enter Tryd.func6, Tryd.ntmps6
  go_wp2_with fail
  refine (far6_any _ _ _ _ _ _ _ xs _ (HS.out.step (below1 _ _))).mono ?_
  rintro e w1 ⟨rfl, hb1⟩
  obtain ⟨X0, b1⟩ := after1 hb1
  rw [HF.out]
  clear hb1
  go_wp2_with fail
  refine (aText_any s _ _ hs1 (Tab8.step HT.out b1) HTX.out).mono ?_
  intro e w2 hR
  obtain ⟨A2, n2, c2, rfl, hS2, hN2, hst⟩ := RetA.flat hR
  have b2 := bst b1 hst
  replace X0 := Bx.step X0 hst
  have S2 := Lib.hid (hS2.step (below1 w2 (.cells #[.int .i64 tk, .int .i64 tr, .int .i64 t0, .int .i64 t1, .slice A2 n2 c2] 25)))
  clear hR hS2 hN2 hst
  go_upto_if 39 with fail
  obtain ⟨w3, hw3⟩ : ∃ w3, w2.alloc (.cells #[.int .i64 tk, .int .i64 tr, .int .i64 t0, .int .i64 t1, .slice A2 n2 c2] 25) = w3 := ⟨_, rfl⟩
  have hb3 : Below w2.heap.size w2 w3 := by rw [← hw3]; exact below1 _ _
  have X2 : Bx w3 w2.heap.size #[.int .i64 tk, .int .i64 tr, .int .i64 t0, .int .i64 t1, .slice A2 n2 c2] 25 := by rw [← hw3]; exact Bx.new _ _ _
  rw [hw3] at S2
  replace X0 := Bx.step X0 hb3
  have b3 := bst b2 hb3
  rw [hw3]
  clear hw3 hb3
  go_cut [9, 10] from 40 to 56 (fun _ _ wx => Below w3.heap.size w3 wx)
  case first =>
    by_cases hte : te = 0
    · subst hte
      obtain ⟨hck, hst⟩ := text_string HTX.out
      have HCK := Lib.hid hck
      have HST := Lib.hid hst
      have d2 : ∀ i, w3.cell? ⟨w2.heap.size, i, none⟩ = _ := Bx.cell X2
      clear hck hst
      go_wp2_with fail
      refine (aString_any tk tr t0 t1 A2 n2 c2 ts s 0 _ S2.out HST.out).mono ?_
      rintro e w4 ⟨rfl, hb4⟩
      have Y2 := Bx.step X2 hb4
      clear d2
      have d2 : ∀ i, w4.cell? ⟨w2.heap.size, i, none⟩ = _ := Bx.cell Y2
      go_wp2_with fail
      refine (acheck_any tk tr t0 t1 A2 n2 c2 ts 0 _ (S2.out.step hb4) HCK.out).mono ?_
      rintro e w5 ⟨rfl, hb5⟩
      go_wp2_with fail
      go_meet
      exact bst hb4 hb5
    · have hne : (te == 0) = false := by simpa using hte
      go_wp2_with fail
      go_meet
      exact Below.refl _ _
  case rest =>
    obtain ⟨w4, hw4⟩ : ∃ w4, wc = w4 := ⟨_, rfl⟩
    rw [hw4] at hcut
    rw [hw4]
    clear hw4 X2 S2
    replace X0 := Bx.step X0 hcut
    have b4 := bst b3 hcut
    clear hcut
    have d0 : ∀ i, w4.cell? ⟨w.heap.size, i, none⟩ = _ := Bx.cell X0
    by_cases hck : achk k r l0 l1 xs ≠ 0
    · obtain ⟨ec, hec⟩ : ∃ ec, achk k r l0 l1 xs = ec := ⟨_, rfl⟩
      have hne : (ec != 0) = true := by rw [← hec]; simpa using hck
      have HEC := Lib.hid hec
      clear hec hck
      go_wp2_with fail
      refine (acheck_any k r l0 l1 A n c xs ec _ (HS.out.step b4) HEC.out).mono ?_
      rintro e w5 ⟨rfl, hb5⟩
      have b5 := bst b4 hb5
      go_wp2_with fail
      refine (awake_any _ (Tab8.step HT.out b5)).mono ?_
      rintro e wz ⟨rfl, hbz⟩
      go_wp2
      go_ret
      exact ⟨rfl, bst b5 hbz⟩
    have hc0 : achk k r l0 l1 xs = 0 := by simpa using hck
    have HC := Lib.hid hc0
    obtain ⟨⟨S, se⟩, hS⟩ : ∃ R, sStr k r l0 l1 xs = R := ⟨_, rfl⟩
    have HSS := Lib.hid hS
    obtain ⟨⟨L, le⟩, hm⟩ : ∃ R, sRowsA k r l0 l1 xs = R := ⟨_, rfl⟩
    obtain rfl : le = 0 := by
      have h := hm
      unfold sRowsA at h
      rw [if_neg (fun g => g hc0)] at h
      exact (Prod.mk.inj h).2.symm
    have HM := Lib.hid hm
    have hn4 : n ≤ 400 := by rw [← HL.out]; exact achk_len hc0
    clear hck hc0 hS hm
    go_wp2_with fail
    refine (acheck_any k r l0 l1 A n c xs 0 _ (HS.out.step b4) HC.out).mono ?_
    rintro e w5 ⟨rfl, hb5⟩
    have b5 := bst b4 hb5
    replace X0 := Bx.step X0 hb5
    clear d0 hb5
    have d0 : ∀ i, w5.cell? ⟨w.heap.size, i, none⟩ = _ := Bx.cell X0
    go_wp2_with fail
    refine (aString_any k r l0 l1 A n c xs S se _ (HS.out.step b5) HSS.out).mono ?_
    rintro e w6 ⟨rfl, hb6⟩
    have b6 := bst b5 hb6
    replace X0 := Bx.step X0 hb6
    clear d0 hb6
    have d0 : ∀ i, w6.cell? ⟨w.heap.size, i, none⟩ = _ := Bx.cell X0
    have hsz := sStr_len HSS.out
    go_upto_if 67 with fail
    go_cut [11, 12] from 68 to 80 (fun _ _ wx => Below w6.heap.size w6 wx)
    case first =>
      by_cases hse : se = 0
      · subst hse
        go_wp2_with fail
        refine (aText_any S _ _ (by omega) (Tab8.step HT.out b6) (string_text HSS.out)).mono ?_
        intro e w7 hR
        obtain ⟨A7, n7, c7, rfl, hS7, hN7, hb7⟩ := RetA.flat hR
        have S7 := Lib.hid (hS7.step (below1 w7 (.cells #[.int .i64 k, .int .i64 r, .int .i64 l0, .int .i64 l1, .slice A7 n7 c7] 25)))
        have S0 := Lib.hid (HS.out.step (bal (bst b6 hb7) (.cells #[.int .i64 k, .int .i64 r, .int .i64 l0, .int .i64 l1, .slice A7 n7 c7] 25)))
        have dB : ∀ i, (w7.alloc (.cells #[.int .i64 k, .int .i64 r, .int .i64 l0, .int .i64 l1, .slice A7 n7 c7] 25)).cell? ⟨w7.heap.size, i, none⟩ = _ := Bx.cell (Bx.new _ _ _)
        have dA : ∀ i, (w7.alloc (.cells #[.int .i64 k, .int .i64 r, .int .i64 l0, .int .i64 l1, .slice A7 n7 c7] 25)).cell? ⟨w.heap.size, i, none⟩ = _ := Bx.cell (Bx.step (Bx.step X0 hb7) (below1 _ _))
        clear hR hS7 hN7 d0
        go_wp2_with fail
        refine (rsame_any k r l0 l1 A7 n7 c7 xs k r l0 l1 A n c xs true _ S7.out S0.out (by simp)).mono ?_
        rintro e w8 ⟨rfl, hb8⟩
        go_wp2_with fail
        go_meet
        exact bst (bal hb7 _) hb8
      · have hne : (se == 0) = false := by simpa using hse
        go_wp2_with fail
        go_meet
        exact Below.refl _ _
    case rest =>
      obtain ⟨w7, hw7⟩ : ∃ w7, wc = w7 := ⟨_, rfl⟩
      rw [hw7] at hcut
      rw [hw7]
      clear hw7 d0 hsz
      replace X0 := Bx.step X0 hcut
      have b7 := bst b6 hcut
      clear hcut
      have d0 : ∀ i, w7.cell? ⟨w.heap.size, i, none⟩ = _ := Bx.cell X0
      go_wp2_with fail
      refine (aRows_any k r l0 l1 A n c xs L 0 _ (HS.out.step b7) HM.out).mono ?_
      rintro e w8 ⟨V1, n1, c1, rs1, rfl, hP, hX1, hb8⟩
      have b8 := bst b7 hb8
      have HP := Lib.hid hP
      have HX1 := Lib.hid hX1
      replace X0 := Bx.step X0 hb8
      clear d0 hb8 hP hX1
      have d0 : ∀ i, w8.cell? ⟨w.heap.size, i, none⟩ = _ := Bx.cell X0
      go_upto_region 18 with fail
      obtain ⟨B, hB⟩ : ∃ B, decide (k = 1 ∧ r = 2 ∧ (0 < l0 ∨ l1 = 0)) = B := ⟨_, rfl⟩
      go_cut [107] from 88 to 107 (fun t wx => t = .bool B ∧ wx = w8)
      case first =>
        by_cases hk : k = 1
        · by_cases hr : r = 2
          · by_cases h0 : 0 < l0
            · obtain rfl : B = true := by rw [← hB]; exact decide_eq_true ⟨hk, hr, .inl h0⟩
              subst hk hr
              clear hB
              go_wp2_with fail
              go_meet
              exact ⟨rfl, rfl⟩
            · by_cases h1 : l1 = 0
              · obtain rfl : B = true := by rw [← hB]; exact decide_eq_true ⟨hk, hr, .inr h1⟩
                subst hk hr h1
                clear hB
                go_wp2_with fail
                go_meet
                exact ⟨rfl, rfl⟩
              · obtain rfl : B = false := by rw [← hB]; exact decide_eq_false (fun g => by omega)
                have hb1 : (l1 == 0) = false := by simpa using h1
                subst hk hr
                clear hB h1
                go_wp2_with fail
                go_meet
                exact ⟨rfl, rfl⟩
          · obtain rfl : B = false := by rw [← hB]; exact decide_eq_false (fun g => hr g.2.1)
            have hb1 : (r == 2) = false := by simpa using hr
            subst hk
            clear hB hr
            go_wp2_with fail
            go_meet
            exact ⟨rfl, rfl⟩
        · obtain rfl : B = false := by rw [← hB]; exact decide_eq_false (fun g => hk g.1)
          have hb1 : (k == 1) = false := by simpa using hk
          clear hB hk
          go_wp2_with fail
          go_meet
          exact ⟨rfl, rfl⟩
      case rest =>
        obtain ⟨ht, hwc⟩ := hcut
        subst ht
        rw [hwc]
        clear hwc
        go_upto_if 107 with fail
        go_cut [14, 15] from 108 to 120 (fun _ _ wx => Below w8.heap.size w8 wx)
        case first =>
          cases B with
          | true =>
            obtain ⟨rfl, rfl, hl⟩ := of_decide_eq_true hB
            have hmt := (rows_matrix HC.out HM.out hl).2
            rw [← HX1.out] at hmt
            have HMT := Lib.hid hmt
            clear hmt hB hl
            go_wp2_with fail
            refine (aMatrix_any V1 n1 c1 rs1 _ _ HP.out HMT.out).mono ?_
            intro e w9 hR
            obtain ⟨A9, n9, c9, rfl, hS9, hN9, hb9⟩ := RetA.flat hR
            have S9 := Lib.hid (hS9.step (below1 w9 (.cells #[.int .i64 1, .int .i64 2, .int .i64 l0, .int .i64 l1, .slice A9 n9 c9] 25)))
            have S0 := Lib.hid (HS.out.step (bal (bst b8 hb9) (.cells #[.int .i64 1, .int .i64 2, .int .i64 l0, .int .i64 l1, .slice A9 n9 c9] 25)))
            have dB : ∀ i, (w9.alloc (.cells #[.int .i64 1, .int .i64 2, .int .i64 l0, .int .i64 l1, .slice A9 n9 c9] 25)).cell? ⟨w9.heap.size, i, none⟩ = _ := Bx.cell (Bx.new _ _ _)
            have dA : ∀ i, (w9.alloc (.cells #[.int .i64 1, .int .i64 2, .int .i64 l0, .int .i64 l1, .slice A9 n9 c9] 25)).cell? ⟨w.heap.size, i, none⟩ = _ := Bx.cell (Bx.step (Bx.step X0 hb9) (below1 _ _))
            clear hR hS9 hN9 d0
            go_wp2_with fail
            refine (rsame_any 1 2 l0 l1 A9 n9 c9 xs 1 2 l0 l1 A n c xs true _ S9.out S0.out (by simp)).mono ?_
            rintro e w10 ⟨rfl, hb10⟩
            go_wp2_with fail
            go_meet
            exact bst (bal hb9 _) hb10
          | false =>
            go_wp2_with fail
            go_meet
            exact Below.refl _ _
        case rest =>
          obtain ⟨w9, hw9⟩ : ∃ w9, wc = w9 := ⟨_, rfl⟩
          rw [hw9] at hcut
          rw [hw9]
          clear hw9 d0 hB HP HX1 HM
          replace X0 := Bx.step X0 hcut
          have b9 := bst b8 hcut
          clear hcut
          have HE1 := Lib.hid (ownEmpty w9 w9.heap.size w9.heap.size rfl (Nat.le_refl _))
          have HSA := Lib.hid (HS.out.step (bal b9 (.cells #[] 2)))
          have HZ1 := Lib.hid (show w9.heap.size ≤ (w9.alloc (.cells #[] 2)).heap.size by rw [World.size_alloc]; omega)
          have dA : ∀ i, (w9.alloc (.cells #[] 2)).cell? ⟨w.heap.size, i, none⟩ = _ := Bx.cell (Bx.step X0 (below1 _ _))
          have d0 : ∀ i, w9.cell? ⟨w.heap.size, i, none⟩ = _ := Bx.cell X0
          go_wp2_with (at_builtin; refine wpList_append_sl rfl _ _ rfl rfl w9.heap.size _ 0 [] rfl HE1.out A n c xs rfl HSA.out (by omega) HZ1.out ?_)
          intro A10 c10 w10 hg
          have b10' : Below w9.heap.size w9 w10 := hg.below (below1 _ _) (fun k hk => (HE1.out.lt k hk).1)
          have b10 := bst b9 b10'
          replace X0 := Bx.step X0 b10'
          have S10 : Hid (Sl w10 A10 n c10 xs) := Lib.hid (by simpa using hg.2.1)
          have hc10 : n ≤ c10 := S10.out.cap
          clear hg b10' d0 dA HE1 HSA HZ1
          have d0 : ∀ i, w10.cell? ⟨w.heap.size, i, none⟩ = _ := Bx.cell X0
          go_wp2
          go_loopw [17, 18, 19, 20, 21, 22, 23, 24] (fun i _ _ _ _ _ _ _ wr => ∃ j : Nat, i = .int .i64 j ∧ j ≤ 1000 ∧ Below w10.heap.size w10 wr) (fun i _ _ _ _ _ _ _ _ => n - (intOf i).toNat)
          case atStart => exact ⟨0, rfl, Nat.zero_le _, Below.refl _ _⟩
          case round =>
            obtain ⟨j, rfl, hj, hb⟩ := hrel
            have Y0 := Bx.step X0 hb
            clear d0
            have d0 : ∀ i, wr.cell? ⟨w.heap.size, i, none⟩ = _ := Bx.cell Y0
            have b11 := bst b10 hb
            by_cases hlt : j < n
            · have hjn : (j : Int) < (n : Int) := by omega
              have hj0 : (0 : Int) ≤ (j : Int) := by omega
              obtain ⟨x0, x1, hix, hor⟩ := with_at HC.out (p := j) (by rw [HL.out]; exact hlt) v
              have HIX := Lib.hid hix
              have HOR := Lib.hid hor
              clear hix hor
              go_wp2_with fail
              refine (rindex_any r l0 l1 j x0 x1 0 _ HIX.out).mono ?_
              rintro e w12 ⟨rfl, hb12⟩
              go_upto_region 27 with fail
              obtain ⟨w13, hw13⟩ : ∃ w13, w12.alloc (.cells #[.int .i64 x0, .int .i64 x1] 22) = w13 := ⟨_, rfl⟩
              have hb13 : Below w12.heap.size w12 w13 := by rw [← hw13]; exact below1 _ _
              have XI : Bx w13 w12.heap.size #[.int .i64 x0, .int .i64 x1] 22 := by rw [← hw13]; exact Bx.new _ _ _
              rw [hw13]
              have hbr : Below wr.heap.size wr w13 := bst hb12 hb13
              replace Y0 := Bx.step Y0 hbr
              have b13 := bst b11 hbr
              clear d0 hw13 hb13
              have d0 : ∀ i, w13.cell? ⟨w.heap.size, i, none⟩ = _ := Bx.cell Y0
              have dI : ∀ i, w13.cell? ⟨w12.heap.size, i, none⟩ = _ := Bx.cell XI
              rcases HOR.out with ⟨hv, hk2, hW⟩ | ⟨hv, hW, hAt, hck⟩
              · have HW := Lib.hid hW
                have HK2 := Lib.hid hk2
                clear hv hW HOR hk2
                go_wp2_with fail
                refine (aWith_any k r l0 l1 A n c xs x0 x1 v _ _ (HS.out.step b13) HW.out).mono ?_
                intro e w14 hR
                obtain ⟨A14, n14, c14, rfl, hS14, hN14, hb14⟩ := RetA.flat (k := 0) (r := 0) (l0 := 0) (l1 := 0) (xs := []) (ec := 7) hR
                have hk2 := HK2.out
                have b14 := bst b13 hb14
                have Z0 := Bx.step (Bx.step Y0 hb14) (below1 w14 (.cells #[.int .i64 0, .int .i64 0, .int .i64 0, .int .i64 0, .slice A14 n14 c14] 25))
                clear hR hS14 hN14 d0 dI
                subst hk2
                have d0 : ∀ i, (w14.alloc (.cells #[.int .i64 0, .int .i64 0, .int .i64 0, .int .i64 0, .slice A14 n14 c14] 25)).cell? ⟨w.heap.size, i, none⟩ = _ := Bx.cell Z0
                go_wp2_with fail
                refine (awake_any _ (Tab8.step HT.out (bal b14 _))).mono ?_
                rintro e wz ⟨rfl, hbz⟩
                go_wp2
                go_ret
                exact ⟨rfl, bst (bal b14 _) hbz⟩
              · have HW := Lib.hid hW
                have HAT := Lib.hid hAt
                have HCK := Lib.hid hck
                clear hv hW hAt hck HOR
                go_wp2_with fail
                refine (aWith_any k r l0 l1 A n c xs x0 x1 v _ _ (HS.out.step b13) HW.out).mono ?_
                intro e w14 hR
                obtain ⟨A14, n14, c14, rfl, hS14, hN14, hb14⟩ := RetA.flat hR
                have S14 := Lib.hid (hS14.step (below1 w14 (.cells #[.int .i64 k, .int .i64 r, .int .i64 l0, .int .i64 l1, .slice A14 n14 c14] 25)))
                clear hR hS14 hN14 d0 dI
                go_upto_region 30 with fail
                obtain ⟨w15, hw15⟩ : ∃ w15, w14.alloc (.cells #[.int .i64 k, .int .i64 r, .int .i64 l0, .int .i64 l1, .slice A14 n14 c14] 25) = w15 := ⟨_, rfl⟩
                have hb15 : Below w14.heap.size w14 w15 := by rw [← hw15]; exact below1 _ _
                have XB : Bx w15 w14.heap.size #[.int .i64 k, .int .i64 r, .int .i64 l0, .int .i64 l1, .slice A14 n14 c14] 25 := by rw [← hw15]; exact Bx.new _ _ _
                rw [hw15] at S14
                rw [hw15]
                have hbr5 := bst hb14 hb15
                have Y5 := Bx.step Y0 hbr5
                have XI5 := Bx.step XI hbr5
                have b15 := bst b13 hbr5
                have HL14 : Hid (n14 = n) := Lib.hid (by have h1 := S14.out.len; have h2 := HL.out; simp at h1; omega)
                clear hw15 hb15
                have d0 : ∀ i, w15.cell? ⟨w.heap.size, i, none⟩ = _ := Bx.cell Y5
                have dB : ∀ i, w15.cell? ⟨w14.heap.size, i, none⟩ = _ := Bx.cell XB
                have dI : ∀ i, w15.cell? ⟨w12.heap.size, i, none⟩ = _ := Bx.cell XI5
                go_wp2_with fail
                refine (aAt_any k r l0 l1 A14 n14 c14 (xs.set j v) x0 x1 v 0 _ S14.out HAT.out).mono ?_
                rintro e w16 ⟨rfl, hb16⟩
                have Y6 := Bx.step Y5 hb16
                have XB6 := Bx.step XB hb16
                have b16 := bst b15 hb16
                have S16 := Lib.hid (S14.out.step hb16)
                have T16 : Hid (Sl w16 A10 n c10 xs) := Lib.hid (S10.out.step (bst hb (bst hbr (bst hbr5 hb16))))
                have U16 : Hid (Sl w16 A n c xs) := Lib.hid (HS.out.step b16)
                clear d0 dB dI
                have d0 : ∀ i, w16.cell? ⟨w.heap.size, i, none⟩ = _ := Bx.cell Y6
                have dB : ∀ i, w16.cell? ⟨w14.heap.size, i, none⟩ = _ := Bx.cell XB6
                go_upto_region 31 with fail
                obtain ⟨ba, oa, rfl, hba, hca⟩ := U16.out.at_ hlt
                obtain ⟨bo, oo, rfl, hbo, hco⟩ := T16.out.at_ hlt
                obtain ⟨u0, hu0⟩ : ∃ u0, xs.getD j 0 = u0 := ⟨_, rfl⟩
                rw [hu0] at hca hco
                clear hu0
                have hvv : (v != v) = false := by simp
                have huu : (u0 != u0) = false := by simp
                have hS : ∀ u, Below w16.heap.size w16 u → (∀ i, u.cell? ⟨w.heap.size, i, none⟩ = #[.int .i64 k, .int .i64 r, .int .i64 l0, .int .i64 l1, .slice (some ⟨ba, oa, none⟩) n c][i]?) ∧ (∀ i, u.cell? ⟨w14.heap.size, i, none⟩ = #[.int .i64 k, .int .i64 r, .int .i64 l0, .int .i64 l1, .slice A14 n14 c14][i]?) ∧ u.cell? ⟨ba, oa + j, none⟩ = some (.int .i64 u0) ∧ u.cell? ⟨bo, oo + j, none⟩ = some (.int .i64 u0) := fun u h => ⟨Bx.cell (Bx.step Y6 h), Bx.cell (Bx.step XB6 h), (h.cell (p := ⟨ba, oa + j, none⟩) hba).trans hca, (h.cell (p := ⟨bo, oo + j, none⟩) hbo).trans hco⟩
                have P0 : Below w16.heap.size w16 w16.drew := bdr (Below.refl _ _)
                have C1 := alike_any k r l0 l1 (some ⟨ba, oa, none⟩) n c k r l0 l1 A14 n14 c14 w16.drew
                rw [show decide (k = k ∧ r = r ∧ l0 = l0 ∧ l1 = l1) = true by simp] at C1
                have D1 := Lib.hid C1
                clear C1
                go_region_held3 (fun u => (∀ i, u.cell? ⟨w.heap.size, i, none⟩ = #[.int .i64 k, .int .i64 r, .int .i64 l0, .int .i64 l1, .slice (some ⟨ba, oa, none⟩) n c][i]?) ∧ (∀ i, u.cell? ⟨w14.heap.size, i, none⟩ = #[.int .i64 k, .int .i64 r, .int .i64 l0, .int .i64 l1, .slice A14 n14 c14][i]?) ∧ u.cell? ⟨ba, oa + j, none⟩ = some (.int .i64 u0) ∧ u.cell? ⟨bo, oo + j, none⟩ = some (.int .i64 u0))
                  (with_reducible first | exact hS _ P0 | exact hS _ P1 | exact hS _ P2)
                  (first
                    | (go_at_call 32; (with_reducible refine D1.out.mono ?_); rintro e u1 ⟨rfl, hb1⟩; have P1 := bst P0 hb1; have D2 := Lib.hid (acheck_any k r l0 l1 A14 n14 c14 (xs.set j v) 0 u1 (S16.out.step P1) HCK.out))
                    | (go_at_call 30; (with_reducible refine D2.out.mono ?_); rintro e u2 ⟨rfl, hb2⟩; have P2 := bst P1 hb2))
                obtain ⟨bb, ob, rfl, hbb, hcb⟩ := S16.out.at_ (k := j) (by rw [HL14.out]; exact hlt)
                have hj14 : n14 ≤ 400 := by rw [HL14.out]; exact hn4
                have hdv : Int.tdiv (j : Int) 8 = ((j / 8 : Nat) : Int) := rfl
                clear hS D1 D2 hca hco hcb d0 dB
                have d0 : ∀ i, u2.cell? ⟨w.heap.size, i, none⟩ = _ := Bx.cell (Bx.step Y6 P2)
                go_wp2
                go_loopw [24] (fun kk wq => ∃ t : Nat, kk = .int .i64 t ∧ t ≤ n ∧ Below w16.heap.size w16 wq) (fun kk _ => n - (intOf kk).toNat)
                case atStart => exact ⟨0, rfl, Nat.zero_le _, P2⟩
                case round =>
                  obtain ⟨t, rfl, ht, hbq⟩ := hrel
                  clear d0
                  have d0 : ∀ i, wr.cell? ⟨w.heap.size, i, none⟩ = _ := Bx.cell (Bx.step Y6 hbq)
                  have dB : ∀ i, wr.cell? ⟨w14.heap.size, i, none⟩ = _ := Bx.cell (Bx.step XB6 hbq)
                  by_cases htn : t < n
                  · have htI : (t : Int) < (n : Int) := by omega
                    have ht0 : (0 : Int) ≤ (t : Int) := by omega
                    have ht14 : (t : Int) < (n14 : Int) := by have := HL14.out; omega
                    by_cases htj : t = j
                    · have hne : ((t : Int) != (j : Int)) = false := by rw [htj]; simp
                      clear htj
                      go_wp2_with fail
                      go_quiet (fail)
                      go_wp2
                      go_roundw
                      case rel => exact ⟨t + 1, by go_num, by omega, bdn hbq _⟩
                      case measure => simp only [intOf]; omega
                    · have hne : ((t : Int) != (j : Int)) = true := by simp; omega
                      obtain ⟨u, hu⟩ : ∃ u, xs.getD t 0 = u := ⟨_, rfl⟩
                      have eO : wr.cell? ⟨bo, oo + t, none⟩ = some (.int .i64 u) := by rw [← hu]; exact (T16.out.step hbq).cells t htn
                      have eB : wr.cell? ⟨bb, ob + t, none⟩ = some (.int .i64 u) := by
                        have h := (S16.out.step hbq).cells t (by rw [HL14.out]; exact htn)
                        rwa [getD_set_ne htj, hu] at h
                      have hut : (u != u) = false := by simp
                      clear hu htj
                      go_wp2_with fail
                      go_quiet (fail)
                      go_wp2
                      go_roundw
                      case rel => exact ⟨t + 1, by go_num, by omega, bdn hbq _⟩
                      case measure => simp only [intOf]; omega
                  · have htx : ¬ (t : Int) < (n : Int) := by omega
                    go_wp2
                    go_roundw
                    case rel => exact ⟨j + 1 + j / 8, by go_num, by omega, bst hb (bst hbr (bst hbr5 (bst hb16 hbq)))⟩
                    case measure => simp only [intOf]; omega
            · have hjx : ¬ (j : Int) < (n : Int) := by omega
              go_wp2_with fail
              refine (awake_any _ (Tab8.step HT.out b11)).mono ?_
              rintro e wz ⟨rfl, hbz⟩
              go_wp2
              go_ret
              exact ⟨rfl, bst b11 hbz⟩
end Go.Proofs.YtimpdfafodaadaaDoor

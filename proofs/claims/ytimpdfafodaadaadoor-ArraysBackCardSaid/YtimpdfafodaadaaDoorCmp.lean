/-
  cmp.Compare, cmp.Or, slices.Compare, the reference's order.
-/
import Derived.Test.YtimpdfafodaadaaDoorCmd
import Derived.Test.YtimpdfafodaadaaDoorBase
import Derived.Test.YtimpdfafodaadaaDoorProg
namespace Go.Proofs.YtimpdfafodaadaaDoor
open Go.RowKit
set_option maxHeartbeats 400000 in
theorem nan_int (a : Int) (w : World) : Calls Tryd.prog 82 #[.int .i64 a] w fun e w' => e = .returned (.bool false) ∧ w' = w := by
  go_enter Tryd.func82, Tryd.ntmps82
  go_wp2
  go_ret
  exact ⟨by simp, rfl⟩
set_option maxHeartbeats 400000 in
theorem nan_i64 (a : Int) (w : World) : Calls Tryd.prog 85 #[.int .i64 a] w fun e w' => e = .returned (.bool false) ∧ w' = w := by
  go_enter Tryd.func85, Tryd.ntmps85
  go_wp2
  go_ret
  exact ⟨by simp, rfl⟩
set_option maxHeartbeats 400000 in
theorem cmp_int (a b : Int) (w : World) : Calls Tryd.prog 63 #[.int .i64 a, .int .i64 b] w fun e w' => e = .returned (.int .i64 (cmpI a b)) ∧ w' = w := by
  by_cases h : a < b
  · have e : cmpI a b = -1 := by unfold cmpI; rw [if_pos h]
    rw [e]
    clear e
    go_enter Tryd.func63, Tryd.ntmps63
    go_wp2_with fail
    refine (nan_int a _).mono ?_
    rintro e w1 ⟨rfl, rfl⟩
    go_wp2_with fail
    refine (nan_int b _).mono ?_
    rintro e w1 ⟨rfl, rfl⟩
    go_wp2
    go_ret
    exact ⟨rfl, rfl⟩
  · by_cases h2 : b < a
    · have e : cmpI a b = 1 := by unfold cmpI; rw [if_neg h, if_pos h2]
      rw [e]
      clear e
      go_enter Tryd.func63, Tryd.ntmps63
      go_wp2_with fail
      refine (nan_int a _).mono ?_
      rintro e w1 ⟨rfl, rfl⟩
      go_wp2_with fail
      refine (nan_int b _).mono ?_
      rintro e w1 ⟨rfl, rfl⟩
      go_wp2
      go_ret
      exact ⟨rfl, rfl⟩
    · have e : cmpI a b = 0 := by unfold cmpI; rw [if_neg h, if_neg h2]
      rw [e]
      clear e
      go_enter Tryd.func63, Tryd.ntmps63
      go_wp2_with fail
      refine (nan_int a _).mono ?_
      rintro e w1 ⟨rfl, rfl⟩
      go_wp2_with fail
      refine (nan_int b _).mono ?_
      rintro e w1 ⟨rfl, rfl⟩
      go_wp2
      go_ret
      exact ⟨rfl, rfl⟩
set_option maxHeartbeats 400000 in
theorem cmp_i64 (a b : Int) (w : World) : Calls Tryd.prog 83 #[.int .i64 a, .int .i64 b] w fun e w' => e = .returned (.int .i64 (cmpI a b)) ∧ w' = w := by
  by_cases h : a < b
  · have e : cmpI a b = -1 := by unfold cmpI; rw [if_pos h]
    rw [e]
    clear e
    go_enter Tryd.func83, Tryd.ntmps83
    go_wp2_with fail
    refine (nan_i64 a _).mono ?_
    rintro e w1 ⟨rfl, rfl⟩
    go_wp2_with fail
    refine (nan_i64 b _).mono ?_
    rintro e w1 ⟨rfl, rfl⟩
    go_wp2
    go_ret
    exact ⟨rfl, rfl⟩
  · by_cases h2 : b < a
    · have e : cmpI a b = 1 := by unfold cmpI; rw [if_neg h, if_pos h2]
      rw [e]
      clear e
      go_enter Tryd.func83, Tryd.ntmps83
      go_wp2_with fail
      refine (nan_i64 a _).mono ?_
      rintro e w1 ⟨rfl, rfl⟩
      go_wp2_with fail
      refine (nan_i64 b _).mono ?_
      rintro e w1 ⟨rfl, rfl⟩
      go_wp2
      go_ret
      exact ⟨rfl, rfl⟩
    · have e : cmpI a b = 0 := by unfold cmpI; rw [if_neg h, if_neg h2]
      rw [e]
      clear e
      go_enter Tryd.func83, Tryd.ntmps83
      go_wp2_with fail
      refine (nan_i64 a _).mono ?_
      rintro e w1 ⟨rfl, rfl⟩
      go_wp2_with fail
      refine (nan_i64 b _).mono ?_
      rintro e w1 ⟨rfl, rfl⟩
      go_wp2
      go_ret
      exact ⟨rfl, rfl⟩
set_option maxHeartbeats 400000 in
theorem order_any (a b : Int) (w : World) : Calls Tryd.prog 66 #[.int .i64 a, .int .i64 b] w fun e w' => e = .returned (.int .i64 (cmpI a b)) ∧ w' = w := by
  by_cases h : a < b
  · have e : cmpI a b = -1 := by unfold cmpI; rw [if_pos h]
    rw [e]
    clear e
    go_enter Tryd.func66, Tryd.ntmps66
    go_wp2
    go_ret
    exact ⟨rfl, rfl⟩
  · by_cases h2 : b < a
    · have e : cmpI a b = 1 := by unfold cmpI; rw [if_neg h, if_pos h2]
      rw [e]
      clear e
      go_enter Tryd.func66, Tryd.ntmps66
      go_wp2
      go_ret
      exact ⟨rfl, rfl⟩
    · have e : cmpI a b = 0 := by unfold cmpI; rw [if_neg h, if_neg h2]
      rw [e]
      clear e
      go_enter Tryd.func66, Tryd.ntmps66
      go_wp2
      go_ret
      exact ⟨rfl, rfl⟩
set_option maxHeartbeats 1000000 in
theorem cmps_int (A : Option Addr) (n c : Nat) (xs : List Int) (A' : Option Addr) (n' c' : Nat) (ys : List Int) (w : World) (hs : Sl w A n c xs) (hs' : Sl w A' n' c' ys) :
    Calls Tryd.prog 64 #[.slice A n c, .slice A' n' c'] w fun e w' => e = .returned (.int .i64 (cmpL xs ys)) ∧ w' = w := by
  have HS := Lib.hid hs
  have HS' := Lib.hid hs'
  have hcap := hs.cap
  have hmost := hs.most
  have hcap' := hs'.cap
  have hmost' := hs'.most
  have HN := Lib.hid hs.len
  have HN' := Lib.hid hs'.len
  clear hs hs'
  obtain ⟨R, hR⟩ : ∃ R, cmpL xs ys = R := ⟨_, rfl⟩
  rw [hR]
  have HR := Lib.hid hR
  clear hR
  go_enter Tryd.func64, Tryd.ntmps64
  go_wp2
  go_loop [11] (fun i => ∃ j : Nat, j ≤ n ∧ j ≤ n' ∧ i = .int .i64 j ∧ Hid (cmpL (xs.drop j) (ys.drop j) = R)) (fun i => n - (intOf i).toNat)
  case atStart => exact ⟨0, Nat.zero_le _, Nat.zero_le _, rfl, Lib.hid (by simpa using HR.out)⟩
  case round =>
    obtain ⟨j, hj, hj', rfl, HI⟩ := hrel
    by_cases hlt : j < n
    · obtain ⟨b, o, rfl, hbl, hx⟩ := HS.out.at_ hlt
      by_cases hlt' : j < n'
      · obtain ⟨b', o', rfl, hbl', hy⟩ := HS'.out.at_ hlt'
        have hst := HI.out
        rw [cmpL_step (by rw [HN.out]; exact hlt) (by rw [HN'.out]; exact hlt')] at hst
        generalize xs.getD j 0 = x at hx hst
        generalize ys.getD j 0 = y at hy hst
        obtain ⟨t, ht⟩ : ∃ t, cmpI x y = t := ⟨_, rfl⟩
        have HT := Lib.hid ht
        rw [ht] at hst
        clear ht HI
        have h1 : (j : Int) < (n : Int) := by omega
        have h2 : (j : Int) < (n' : Int) := by omega
        by_cases h0 : t = 0
        · subst h0
          rw [if_neg (by simp)] at hst
          have HI := Lib.hid hst
          clear hst
          go_wp2_with fail
          refine (cmp_int x y _).mono ?_
          rintro e w1 ⟨rfl, rfl⟩
          rw [HT.out]
          go_wp2
          go_round
          case rel => exact ⟨j + 1, by omega, by omega, by go_num, HI⟩
          case measure => simp [intOf]; omega
        · rw [if_pos h0] at hst
          have hne : (t != 0) = true := by simpa using h0
          subst hst
          clear h0
          go_wp2_with fail
          refine (cmp_int x y _).mono ?_
          rintro e w1 ⟨rfl, rfl⟩
          rw [HT.out]
          go_wp2
          go_ret
          exact ⟨rfl, rfl⟩
      · have hst := HI.out
        rw [cmpL_more (by rw [HN.out]; exact hlt) (by rw [HN'.out]; omega)] at hst
        subst hst
        clear HI
        have h1 : (j : Int) < (n : Int) := by omega
        have h2 : (n' : Int) ≤ (j : Int) := by omega
        go_wp2
        go_ret
        exact ⟨rfl, rfl⟩
    · have hst := HI.out
      by_cases hlt' : n < n'
      · rw [cmpL_less (by rw [HN.out]; omega) (by rw [HN'.out]; omega)] at hst
        subst hst
        clear HI
        go_wp2
        go_ret
        exact ⟨rfl, rfl⟩
      · rw [cmpL_end (by rw [HN.out]; omega) (by rw [HN'.out]; omega)] at hst
        subst hst
        clear HI
        go_wp2
        go_ret
        exact ⟨rfl, rfl⟩
set_option maxHeartbeats 1000000 in
theorem cmps_i64 (A : Option Addr) (n c : Nat) (xs : List Int) (A' : Option Addr) (n' c' : Nat) (ys : List Int) (w : World) (hs : Sl w A n c xs) (hs' : Sl w A' n' c' ys) :
    Calls Tryd.prog 65 #[.slice A n c, .slice A' n' c'] w fun e w' => e = .returned (.int .i64 (cmpL xs ys)) ∧ w' = w := by
  have HS := Lib.hid hs
  have HS' := Lib.hid hs'
  have hcap := hs.cap
  have hmost := hs.most
  have hcap' := hs'.cap
  have hmost' := hs'.most
  have HN := Lib.hid hs.len
  have HN' := Lib.hid hs'.len
  clear hs hs'
  obtain ⟨R, hR⟩ : ∃ R, cmpL xs ys = R := ⟨_, rfl⟩
  rw [hR]
  have HR := Lib.hid hR
  clear hR
  go_enter Tryd.func65, Tryd.ntmps65
  go_wp2
  go_loop [11] (fun i => ∃ j : Nat, j ≤ n ∧ j ≤ n' ∧ i = .int .i64 j ∧ Hid (cmpL (xs.drop j) (ys.drop j) = R)) (fun i => n - (intOf i).toNat)
  case atStart => exact ⟨0, Nat.zero_le _, Nat.zero_le _, rfl, Lib.hid (by simpa using HR.out)⟩
  case round =>
    obtain ⟨j, hj, hj', rfl, HI⟩ := hrel
    by_cases hlt : j < n
    · obtain ⟨b, o, rfl, hbl, hx⟩ := HS.out.at_ hlt
      by_cases hlt' : j < n'
      · obtain ⟨b', o', rfl, hbl', hy⟩ := HS'.out.at_ hlt'
        have hst := HI.out
        rw [cmpL_step (by rw [HN.out]; exact hlt) (by rw [HN'.out]; exact hlt')] at hst
        generalize xs.getD j 0 = x at hx hst
        generalize ys.getD j 0 = y at hy hst
        obtain ⟨t, ht⟩ : ∃ t, cmpI x y = t := ⟨_, rfl⟩
        have HT := Lib.hid ht
        rw [ht] at hst
        clear ht HI
        have h1 : (j : Int) < (n : Int) := by omega
        have h2 : (j : Int) < (n' : Int) := by omega
        by_cases h0 : t = 0
        · subst h0
          rw [if_neg (by simp)] at hst
          have HI := Lib.hid hst
          clear hst
          go_wp2_with fail
          refine (cmp_i64 x y _).mono ?_
          rintro e w1 ⟨rfl, rfl⟩
          rw [HT.out]
          go_wp2
          go_round
          case rel => exact ⟨j + 1, by omega, by omega, by go_num, HI⟩
          case measure => simp [intOf]; omega
        · rw [if_pos h0] at hst
          have hne : (t != 0) = true := by simpa using h0
          subst hst
          clear h0
          go_wp2_with fail
          refine (cmp_i64 x y _).mono ?_
          rintro e w1 ⟨rfl, rfl⟩
          rw [HT.out]
          go_wp2
          go_ret
          exact ⟨rfl, rfl⟩
      · have hst := HI.out
        rw [cmpL_more (by rw [HN.out]; exact hlt) (by rw [HN'.out]; omega)] at hst
        subst hst
        clear HI
        have h1 : (j : Int) < (n : Int) := by omega
        have h2 : (n' : Int) ≤ (j : Int) := by omega
        go_wp2
        go_ret
        exact ⟨rfl, rfl⟩
    · have hst := HI.out
      by_cases hlt' : n < n'
      · rw [cmpL_less (by rw [HN.out]; omega) (by rw [HN'.out]; omega)] at hst
        subst hst
        clear HI
        go_wp2
        go_ret
        exact ⟨rfl, rfl⟩
      · rw [cmpL_end (by rw [HN.out]; omega) (by rw [HN'.out]; omega)] at hst
        subst hst
        clear HI
        go_wp2
        go_ret
        exact ⟨rfl, rfl⟩
set_option maxHeartbeats 1000000 in
theorem or_any (A : Option Addr) (n c : Nat) (xs : List Int) (w : World) (hs : Sl w A n c xs) :
    Calls Tryd.prog 62 #[.slice A n c] w fun e w' => e = .returned (.int .i64 (orL xs)) ∧ w' = w := by
  have HS := Lib.hid hs
  have hcap := hs.cap
  have hmost := hs.most
  have HN := Lib.hid hs.len
  clear hs
  obtain ⟨R, hR⟩ : ∃ R, orL xs = R := ⟨_, rfl⟩
  rw [hR]
  have HR := Lib.hid hR
  clear hR
  go_enter Tryd.func62, Tryd.ntmps62
  go_wp2
  go_loop [8] (fun i => ∃ j : Nat, j ≤ n ∧ i = .int .i64 j ∧ Hid (orL (xs.drop j) = R)) (fun i => n - (intOf i).toNat)
  case atStart => exact ⟨0, Nat.zero_le _, rfl, Lib.hid (by simpa using HR.out)⟩
  case round =>
    obtain ⟨j, hj, rfl, HI⟩ := hrel
    have hst := HI.out
    by_cases hlt : j < n
    · obtain ⟨b, o, rfl, hbl, hx⟩ := HS.out.at_ hlt
      rw [orL_step (by rw [HN.out]; exact hlt)] at hst
      generalize xs.getD j 0 = x at hx hst
      have h1 : (j : Int) < (n : Int) := by omega
      by_cases h0 : x = 0
      · subst h0
        rw [if_neg (by simp)] at hst
        replace HI := Lib.hid hst
        clear hst
        go_wp2
        go_round
        case rel => exact ⟨j + 1, by omega, by go_num, HI⟩
        case measure => simp [intOf]; omega
      · rw [if_pos h0] at hst
        have hne : (x != 0) = true := by simpa using h0
        subst hst
        clear h0 HI
        go_wp2
        go_ret
        exact ⟨rfl, rfl⟩
    · have h0 : xs.drop j = [] := List.drop_eq_nil_of_le (by rw [HN.out]; omega)
      rw [h0] at hst
      subst hst
      clear HI h0
      go_wp2
      go_ret
      exact ⟨rfl, rfl⟩
end Go.Proofs.YtimpdfafodaadaaDoor

/-
  The law ArraysMakes: it returns true.
-/
import Derived.Test.YtimpdfafodaadaaDoorAw6
import Derived.Test.YtimpdfafodaadaaDoorRmat
import Derived.Deep.RegionHeld3
import Derived.Deep.CutRange
namespace Go.Proofs.YtimpdfafodaadaaDoor
open Go.RowKit
attribute [local go_sem] Oper.semAt_some

/-- The i-th of a list that is written out, laid bare. -/
def nthOf {α : Type _} : List α → Nat → Option α
  | a :: _, 0 => some a
  | _ :: l, n + 1 => nthOf l n
  | [], _ => none
theorem nthOf_eq {α : Type _} : ∀ (l : List α) (i : Nat), nthOf l i = l[i]?
  | [], _ => by simp [nthOf]
  | _ :: _, 0 => rfl
  | _ :: l, n + 1 => by rw [nthOf, nthOf_eq l n, List.getElem?_cons_succ]
theorem nth_hi {α : Type _} {l : List α} {i : Nat} {o : α} (h : nthOf l i = some o) : l.toArray[i]? = some o := by
  rw [List.getElem?_toArray, ← nthOf_eq, h]
set_option maxRecDepth 100000 in
set_option maxHeartbeats 8000000 in
theorem lawMakes6 (A : Option Addr) (n c : Nat) (xs : List Int) (s : ByteArray) (A' : Option Addr) (n' c' : Nat) (rs : List RowS) (w : World) (hs : Sl w A n c xs) (hs' : SlR w A' n' c' rs) (hss : s.size ≤ 9223372036854775807) (hT : Tab8 w) :
    Calls Tryd.prog 4 #[.slice A n c, .string s, .slice A' n' c'] w fun e w' => e = .returned (.bool true) ∧ Below w.heap.size w w' := by
  have HS := Lib.hid hs
  have HS' := Lib.hid hs'
  have HT := Lib.hid hT
  have hcap := hs.cap
  have hmost := hs.most
  have hcap' := hs'.2.1
  have hmost' : c' ≤ 9223372036854775807 := by have := hs'.2.2.1; unfold maxLen at this; omega
  have HL' := Lib.hid hs'.1
  have HL := Lib.hid hs.len
  clear hs hs' hT
  go_enter Tryd.func4, Tryd.ntmps4
  go_wp2
  go_loop [7, 8] (fun sm i => ∃ (j : Nat) (S : Int), j ≤ n' ∧ j ≤ 600 ∧ i = .int .i64 j ∧ sm = .int .i64 S) (fun _ i => n' - (intOf i).toNat)
  case atStart => exact ⟨0, 0, Nat.zero_le _, Nat.zero_le _, rfl, rfl⟩
  case round =>
    obtain ⟨j, S, hj, hj6, rfl, rfl⟩ := hrel
    by_cases hlt : j < n' ∧ j < 600
    · obtain ⟨hlt, hlt6⟩ := hlt
      obtain ⟨bb, o, rfl, hbl, hx, hS⟩ := HS'.out.at_ hlt
      have hj1 : (j : Int) < (n' : Int) := by omega
      have hj2 : (j : Int) < 600 := by omega
      obtain ⟨l, hll⟩ : ∃ l, (rs.getD j rowS0).xs.length = l := ⟨_, rfl⟩
      rw [hll] at hx
      generalize (rs.getD j rowS0).a = ra at hx
      generalize (rs.getD j rowS0).c = rc at hx
      clear hll hS
      go_wp2
      go_round
      case rel => exact ⟨j + 1, _, by omega, by omega, by go_num, rfl⟩
      case measure => simp [intOf]; omega
    · have hex : n' ≤ j ∨ (j < n' ∧ 600 ≤ j) := by omega
      clear hlt
      by_cases h1 : 500 < n
      · have g1 : (500 : Int) < (n : Int) := by omega
        rcases hex with hex | ⟨hex1, hex2⟩
        all_goals
          go_wp2_with fail
          refine (awake_any _ (Tab8.step HT.out (Below.refl _ _))).mono ?_
          rintro e wz ⟨rfl, hbz⟩
          go_wp2
          go_ret
          exact ⟨rfl, bst (Below.refl _ _) hbz⟩
      have g1 : ¬ (500 : Int) < (n : Int) := by omega
      by_cases h2 : 2000 < s.size
      · have g2 : (2000 : Int) < (s.size : Int) := by omega
        rcases hex with hex | ⟨hex1, hex2⟩
        all_goals
          go_wp2_with fail
          refine (awake_any _ (Tab8.step HT.out (Below.refl _ _))).mono ?_
          rintro e wz ⟨rfl, hbz⟩
          go_wp2
          go_ret
          exact ⟨rfl, bst (Below.refl _ _) hbz⟩
      have g2 : ¬ (2000 : Int) < (s.size : Int) := by omega
      by_cases h3 : 500 < n'
      · have g3 : (500 : Int) < (n' : Int) := by omega
        rcases hex with hex | ⟨hex1, hex2⟩
        all_goals
          go_wp2_with fail
          refine (awake_any _ (Tab8.step HT.out (Below.refl _ _))).mono ?_
          rintro e wz ⟨rfl, hbz⟩
          go_wp2
          go_ret
          exact ⟨rfl, bst (Below.refl _ _) hbz⟩
      have g3 : ¬ (500 : Int) < (n' : Int) := by omega
      have hex3 : (n' : Int) ≤ (j : Int) := by omega
      clear hex
      by_cases h4 : 2000 < S
      · go_wp2_with fail
        refine (awake_any _ (Tab8.step HT.out (Below.refl _ _))).mono ?_
        rintro e wz ⟨rfl, hbz⟩
        go_wp2
        go_ret
        exact ⟨rfl, bst (Below.refl _ _) hbz⟩
      obtain ⟨⟨⟨vk, vr, v0, v1, vs⟩, ve⟩, hv⟩ : ∃ R, sVec 1 xs = R := ⟨_, rfl⟩
      obtain ⟨⟨⟨tk, tr, t0, t1, ts⟩, te⟩, ht⟩ : ∃ R, sText s = R := ⟨_, rfl⟩
      obtain ⟨⟨⟨mk, mr, m0, m1, ms⟩, me⟩, hm⟩ : ∃ R, sMatrix (xsOf rs) = R := ⟨_, rfl⟩
      have HV := Lib.hid hv
      have HTX := Lib.hid ht
      have HM := Lib.hid hm
      have hs1 : s.size ≤ 1000000 := by omega
      have hvv : (ve != ve) = false := by simp
      have htt : (te != te) = false := by simp
      have hmm : (me == me) = true := by simp
      clear hv ht hm
      go_wp2_with fail
      refine (aInts_any A n c xs _ _ HS.out HV.out).mono ?_
      intro e w1 hR
      obtain ⟨A1, n1, c1, rfl, hS1, hN1, b1⟩ := RetA.flat hR
      have S1 := Lib.hid hS1
      clear hR hS1
      go_wp2_with fail
      refine (rInts_any A n c xs _ _ (HS.out.step (bal b1 _)) HV.out).mono ?_
      intro e w2 hR
      obtain ⟨A2, n2, c2, rfl, hS2, hN2, hb2⟩ := RetA.flat hR
      have S2 := Lib.hid hS2
      have S1 := Lib.hid ((S1.out.step (below1 _ _)).step hb2)
      obtain ⟨X1, hst⟩ := after1 hb2
      have hl12 := Bx.lt X1
      have b2 := bst b1 hst
      clear hR hS2 hb2 hst
      go_wp2_with fail
      obtain ⟨w3, hw3⟩ : ∃ w3, w2.alloc (.cells #[.int .i64 vk, .int .i64 vr, .int .i64 v0, .int .i64 v1, .slice A2 n2 c2] 25) = w3 := ⟨_, rfl⟩
      have hb3 : Below w2.heap.size w2 w3 := by rw [← hw3]; exact below1 _ _
      have X2 : Bx w3 w2.heap.size #[.int .i64 vk, .int .i64 vr, .int .i64 v0, .int .i64 v1, .slice A2 n2 c2] 25 := by rw [← hw3]; exact Bx.new _ _ _
      replace X1 := Bx.step X1 hb3
      have S1 := Lib.hid (S1.out.step hb3)
      have S2 := Lib.hid (S2.out.step hb3)
      have b3 := bst b2 hb3
      rw [hw3]
      clear hw3 hb3
      go_cut [83] from 58 to 83 (fun t wx => t = .bool false ∧ Below w3.heap.size w3 wx)
      case first =>
        have P0 : Below w3.heap.size w3 w3.drew := bdr (Below.refl _ _)
        have G1 := Lib.hid (S1.out.step P0)
        have G2 := Lib.hid (S2.out.step P0)
        by_cases hn0 : 0 < n
        · have hn0' : (0 : Int) < (n : Int) := by omega
          have hd1 : decide ((0 : Int) < (n : Int)) = true := decide_eq_true hn0'
          have hd2 : decide (0 < n) = true := decide_eq_true hn0
          obtain ⟨bb, o, rfl, hbl, hx0⟩ := HS.out.at_ hn0
          have hx1 : ∀ u, Below w3.heap.size w3 u → u.cell? ⟨bb, o, none⟩ = some (.int .i64 (xs.getD 0 0)) := fun u hb => by
            have := ((bst b3 hb).cell (p := ⟨bb, o + 0, none⟩) hbl).trans hx0
            exact this
          generalize xs.getD 0 0 = y at hx1
          clear hx0
          have hS : ∀ u, Below w3.heap.size w3 u → (∀ i, u.cell? ⟨w1.heap.size, i, none⟩ = #[.int .i64 vk, .int .i64 vr, .int .i64 v0, .int .i64 v1, .slice A1 n1 c1][i]?) ∧ (∀ i, u.cell? ⟨w2.heap.size, i, none⟩ = #[.int .i64 vk, .int .i64 vr, .int .i64 v0, .int .i64 v1, .slice A2 n2 c2][i]?) ∧ u.cell? ⟨bb, o, none⟩ = some (.int .i64 y) := fun u h => ⟨Bx.cell (Bx.step X1 h), Bx.cell (Bx.step X2 h), hx1 u h⟩
          go_region_held3 (fun u => (∀ i, u.cell? ⟨w1.heap.size, i, none⟩ = #[.int .i64 vk, .int .i64 vr, .int .i64 v0, .int .i64 v1, .slice A1 n1 c1][i]?) ∧ (∀ i, u.cell? ⟨w2.heap.size, i, none⟩ = #[.int .i64 vk, .int .i64 vr, .int .i64 v0, .int .i64 v1, .slice A2 n2 c2][i]?) ∧ u.cell? ⟨bb, o, none⟩ = some (.int .i64 y))
            (with_reducible first | exact hS _ P0 | exact hS _ P1 | exact hS _ P2 | exact hS _ P3 | exact hS _ P4)
            (first
              | (go_at_call 19; (with_reducible refine (rsame_any vk vr v0 v1 A1 n1 c1 vs vk vr v0 v1 A2 n2 c2 vs true _ G1.out G2.out (by simp)).mono ?_); rintro e u1 ⟨rfl, hc1⟩; have P1 := bst P0 hc1)
              | (go_at_call 20; (with_reducible refine (aInt_any y _).mono ?_); rintro e u2 ⟨⟨Aa, na, ca, rfl, hSa, _⟩, hc2⟩; have P2 := bst P1 hc2; have Ga := Lib.hid hSa; clear hSa)
              | (go_at_call 21; (with_reducible refine (rInt_any y _).mono ?_); rintro e u3 ⟨⟨Ab, nb, cb, rfl, hSb, _⟩, hc3⟩; have P3 := bst P2 hc3; have Ga2 := Lib.hid (Ga.out.step hc3); have Gb := Lib.hid hSb; clear hSb)
              | (go_at_call 19; (with_reducible refine (rsame_any 1 0 0 0 Aa na ca [y] 1 0 0 0 Ab nb cb [y] true _ Ga2.out Gb.out (by simp)).mono ?_); rintro e u4 ⟨rfl, hc4⟩; have P4 := bst P3 hc4))
          all_goals go_wp2_with fail
          all_goals go_meet
          all_goals exact ⟨rfl, P4⟩
        · obtain rfl : n = 0 := by omega
          have d1 : ∀ i, w3.drew.cell? ⟨w1.heap.size, i, none⟩ = #[.int .i64 vk, .int .i64 vr, .int .i64 v0, .int .i64 v1, .slice A1 n1 c1][i]? := Bx.cell (Bx.step X1 P0)
          have d2 : ∀ i, w3.drew.cell? ⟨w2.heap.size, i, none⟩ = #[.int .i64 vk, .int .i64 vr, .int .i64 v0, .int .i64 v1, .slice A2 n2 c2][i]? := Bx.cell (Bx.step X2 P0)
          refine wp_region_held_drew (S := fun u => (∀ i, u.cell? ⟨w1.heap.size, i, none⟩ = #[.int .i64 vk, .int .i64 vr, .int .i64 v0, .int .i64 v1, .slice A1 n1 c1][i]?) ∧ (∀ i, u.cell? ⟨w2.heap.size, i, none⟩ = #[.int .i64 vk, .int .i64 vr, .int .i64 v0, .int .i64 v1, .slice A2 n2 c2][i]?)) (by kernel_rfl) ⟨d1, d2⟩ (fun hHeld => ?_)
          refine wpAnyH_take (i := 0) (v := ?_) (nth_hi rfl) (by kernel_rfl) (by kernel_rfl) (by kernel_rfl) (fun _ _ _ h => h) (Or.inl ⟨by rfl, ?_⟩) hHeld ?_
          rotate_left
          · intro w0 hSw
            try dsimp only at hSw
            go_simp
            all_goals (with_reducible rfl)
          (try simp only [Act.put, List.setIfInBounds_toArray, List.set_cons_zero, List.set_cons_succ])
          refine wpAnyH_take (i := 1) (v := ?_) (nth_hi rfl) (by kernel_rfl) (by kernel_rfl) (by kernel_rfl) (fun _ _ _ h => h) (Or.inl ⟨by rfl, ?_⟩) hHeld ?_
          rotate_left
          · intro w0 hSw
            try dsimp only at hSw
            go_simp
            all_goals (with_reducible rfl)
          (try simp only [Act.put, List.setIfInBounds_toArray, List.set_cons_zero, List.set_cons_succ])
          refine wpAnyH_ready (rs := [2]) (by kernel_rfl) (by simp) ?_
          refine AllReadyH.cons (nth_hi rfl) (fun K hK => ?_) AllReadyH.nil
          go_simp
          go_at_call 19
          refine (rsame_any vk vr v0 v1 A1 n1 c1 vs vk vr v0 v1 A2 n2 c2 vs true _ G1.out G2.out (by simp)).mono ?_
          rintro e u1 ⟨rfl, hc1⟩
          have P1 := bst P0 hc1
          refine hK _ _ ⟨Bx.cell (Bx.step X1 P1), Bx.cell (Bx.step X2 P1)⟩ (fun hHeld => ?_)
          clear hK
          refine wpAnyH_take (i := 3) (v := ?_) (nth_hi rfl) (by kernel_rfl) (by kernel_rfl) (by kernel_rfl) (fun _ _ _ h => h) (Or.inl ⟨by rfl, ?_⟩) hHeld ?_
          rotate_left
          · intro w0 hSw
            try dsimp only at hSw
            go_simp
            all_goals (with_reducible rfl)
          (try simp only [Act.put, List.setIfInBounds_toArray, List.set_cons_zero, List.set_cons_succ])
          refine wpAnyH_take (i := 4) (v := ?_) (nth_hi rfl) (by kernel_rfl) (by kernel_rfl) (by kernel_rfl) (fun _ _ _ h => h) (Or.inl ⟨by rfl, ?_⟩) hHeld ?_
          rotate_left
          · intro w0 hSw
            try dsimp only at hSw
            go_simp
            all_goals (with_reducible rfl)
          (try simp only [Act.put, List.setIfInBounds_toArray, List.set_cons_zero, List.set_cons_succ])
          refine wpAnyH_take (i := 5) (v := ?_) (nth_hi rfl) (by kernel_rfl) (by kernel_rfl) (by kernel_rfl) (fun _ _ _ h => h) (Or.inl ⟨by rfl, ?_⟩) hHeld ?_
          rotate_left
          · intro w0 hSw
            try dsimp only at hSw
            go_simp
            all_goals (with_reducible rfl)
          (try simp only [Act.put, List.setIfInBounds_toArray, List.set_cons_zero, List.set_cons_succ])
          refine wpAnyH_take (i := 6) (v := ?_) (nth_hi rfl) (by kernel_rfl) (by kernel_rfl) (by kernel_rfl) (fun _ _ _ h => h) (Or.inl ⟨by rfl, ?_⟩) hHeld ?_
          rotate_left
          · intro w0 hSw
            try dsimp only at hSw
            go_simp
            all_goals (with_reducible rfl)
          (try simp only [Act.put, List.setIfInBounds_toArray, List.set_cons_zero, List.set_cons_succ])
          refine wpAnyH_take (i := 7) (v := ?_) (nth_hi rfl) (by kernel_rfl) (by kernel_rfl) (by kernel_rfl) (fun _ _ _ h => h) (Or.inl ⟨by rfl, ?_⟩) hHeld ?_
          rotate_left
          · intro w0 hSw
            try dsimp only at hSw
            go_simp
            all_goals (with_reducible rfl)
          (try simp only [Act.put, List.setIfInBounds_toArray, List.set_cons_zero, List.set_cons_succ])
          refine wpAnyH_take (i := 8) (v := ?_) (nth_hi rfl) (by kernel_rfl) (by kernel_rfl) (by kernel_rfl) (fun _ _ _ h => h) (Or.inl ⟨by rfl, ?_⟩) hHeld ?_
          rotate_left
          · intro w0 hSw
            try dsimp only at hSw
            go_simp
            all_goals (with_reducible rfl)
          (try simp only [Act.put, List.setIfInBounds_toArray, List.set_cons_zero, List.set_cons_succ])
          refine wpAnyH_take (i := 9) (v := ?_) (nth_hi rfl) (by kernel_rfl) (by kernel_rfl) (by kernel_rfl) (fun _ _ _ h => h) (Or.inl ⟨by rfl, ?_⟩) hHeld ?_
          rotate_left
          · intro w0 hSw
            try dsimp only at hSw
            go_simp
            all_goals (with_reducible rfl)
          (try simp only [Act.put, List.setIfInBounds_toArray, List.set_cons_zero, List.set_cons_succ])
          refine wpAnyH_take (i := 10) (v := ?_) (nth_hi rfl) (by kernel_rfl) (by kernel_rfl) (by kernel_rfl) (fun _ _ _ h => h) (Or.inl ⟨by rfl, ?_⟩) hHeld ?_
          rotate_left
          · intro w0 hSw
            try dsimp only at hSw
            go_simp
            all_goals (with_reducible rfl)
          (try simp only [Act.put, List.setIfInBounds_toArray, List.set_cons_zero, List.set_cons_succ])
          refine wpAnyH_take (i := 11) (v := ?_) (nth_hi rfl) (by kernel_rfl) (by kernel_rfl) (by kernel_rfl) (fun _ _ _ h => h) (Or.inl ⟨by rfl, ?_⟩) hHeld ?_
          rotate_left
          · intro w0 hSw
            try dsimp only at hSw
            go_simp
            all_goals (with_reducible rfl)
          (try simp only [Act.put, List.setIfInBounds_toArray, List.set_cons_zero, List.set_cons_succ])
          refine wpAnyH_take (i := 12) (v := ?_) (nth_hi rfl) (by kernel_rfl) (by kernel_rfl) (by kernel_rfl) (fun _ _ _ h => h) (Or.inl ⟨by rfl, ?_⟩) hHeld ?_
          rotate_left
          · intro w0 hSw
            try dsimp only at hSw
            go_simp
            all_goals (with_reducible rfl)
          (try simp only [Act.put, List.setIfInBounds_toArray, List.set_cons_zero, List.set_cons_succ])
          refine wpAnyH_take (i := 13) (v := ?_) (nth_hi rfl) (by kernel_rfl) (by kernel_rfl) (by kernel_rfl) (fun _ _ _ h => h) (Or.inl ⟨by rfl, ?_⟩) hHeld ?_
          rotate_left
          · intro w0 hSw
            try dsimp only at hSw
            go_simp
            all_goals (with_reducible rfl)
          (try simp only [Act.put, List.setIfInBounds_toArray, List.set_cons_zero, List.set_cons_succ])
          refine wpAnyH_take (i := 14) (v := undef) (nth_hi rfl) (by kernel_rfl) (by kernel_rfl) (by kernel_rfl) (fun _ _ _ h => h) (Or.inr ⟨by rfl, rfl⟩) hHeld ?_
          (try simp only [Act.put, List.setIfInBounds_toArray, List.set_cons_zero, List.set_cons_succ])
          refine wpAnyH_take (i := 15) (v := undef) (nth_hi rfl) (by kernel_rfl) (by kernel_rfl) (by kernel_rfl) (fun _ _ _ h => h) (Or.inr ⟨by rfl, rfl⟩) hHeld ?_
          (try simp only [Act.put, List.setIfInBounds_toArray, List.set_cons_zero, List.set_cons_succ])
          refine wpAnyH_take (i := 16) (v := undef) (nth_hi rfl) (by kernel_rfl) (by kernel_rfl) (by kernel_rfl) (fun _ _ _ h => h) (Or.inr ⟨by rfl, rfl⟩) hHeld ?_
          (try simp only [Act.put, List.setIfInBounds_toArray, List.set_cons_zero, List.set_cons_succ])
          refine wpAnyH_take (i := 17) (v := undef) (nth_hi rfl) (by kernel_rfl) (by kernel_rfl) (by kernel_rfl) (fun _ _ _ h => h) (Or.inr ⟨by rfl, rfl⟩) hHeld ?_
          (try simp only [Act.put, List.setIfInBounds_toArray, List.set_cons_zero, List.set_cons_succ])
          refine wpAnyH_take (i := 18) (v := undef) (nth_hi rfl) (by kernel_rfl) (by kernel_rfl) (by kernel_rfl) (fun _ _ _ h => h) (Or.inr ⟨by rfl, rfl⟩) hHeld ?_
          (try simp only [Act.put, List.setIfInBounds_toArray, List.set_cons_zero, List.set_cons_succ])
          refine wpAnyH_take (i := 19) (v := undef) (nth_hi rfl) (by kernel_rfl) (by kernel_rfl) (by kernel_rfl) (fun _ _ _ h => h) (Or.inr ⟨by rfl, rfl⟩) hHeld ?_
          (try simp only [Act.put, List.setIfInBounds_toArray, List.set_cons_zero, List.set_cons_succ])
          refine wpAnyH_take (i := 20) (v := undef) (nth_hi rfl) (by kernel_rfl) (by kernel_rfl) (by kernel_rfl) (fun _ _ _ h => h) (Or.inr ⟨by rfl, rfl⟩) hHeld ?_
          (try simp only [Act.put, List.setIfInBounds_toArray, List.set_cons_zero, List.set_cons_succ])
          refine wpAnyH_take (i := 21) (v := undef) (nth_hi rfl) (by kernel_rfl) (by kernel_rfl) (by kernel_rfl) (fun _ _ _ h => h) (Or.inr ⟨by rfl, rfl⟩) hHeld ?_
          (try simp only [Act.put, List.setIfInBounds_toArray, List.set_cons_zero, List.set_cons_succ])
          refine wpAnyH_take (i := 22) (v := undef) (nth_hi rfl) (by kernel_rfl) (by kernel_rfl) (by kernel_rfl) (fun _ _ _ h => h) (Or.inr ⟨by rfl, rfl⟩) hHeld ?_
          (try simp only [Act.put, List.setIfInBounds_toArray, List.set_cons_zero, List.set_cons_succ])
          refine wpAnyH_take (i := 23) (v := undef) (nth_hi rfl) (by kernel_rfl) (by kernel_rfl) (by kernel_rfl) (fun _ _ _ h => h) (Or.inr ⟨by rfl, rfl⟩) hHeld ?_
          (try simp only [Act.put, List.setIfInBounds_toArray, List.set_cons_zero, List.set_cons_succ])
          refine wpAnyH_take (i := 24) (v := ?_) (nth_hi rfl) (by kernel_rfl) (by kernel_rfl) (by kernel_rfl) (fun _ _ _ h => h) (Or.inl ⟨by rfl, ?_⟩) hHeld ?_
          rotate_left
          · intro w0 hSw
            try dsimp only at hSw
            go_simp
            all_goals (with_reducible rfl)
          (try simp only [Act.put, List.setIfInBounds_toArray, List.set_cons_zero, List.set_cons_succ])
          refine wpAnyH_take (i := 25) (v := ?_) (nth_hi rfl) (by kernel_rfl) (by kernel_rfl) (by kernel_rfl) (fun _ _ _ h => h) (Or.inl ⟨by rfl, ?_⟩) hHeld ?_
          rotate_left
          · intro w0 hSw
            try dsimp only at hSw
            go_simp
            all_goals (with_reducible rfl)
          (try simp only [Act.put, List.setIfInBounds_toArray, List.set_cons_zero, List.set_cons_succ])
          refine wpAnyH_done (by kernel_rfl) ?_ _
          all_goals go_wp2_with fail
          all_goals go_meet
          all_goals exact ⟨rfl, P1⟩
      case rest =>
        obtain ⟨rfl, hst⟩ := hcut
        obtain ⟨w4, hw4⟩ : ∃ w4, wc = w4 := ⟨_, rfl⟩
        rw [hw4] at hst
        rw [hw4]
        clear hw4
        have b4 := bst b3 hst
        replace X1 := Bx.step X1 hst
        replace X2 := Bx.step X2 hst
        have z1 := b1.size
        have z2 := b2.size
        have hne : w1.heap.size ≠ w2.heap.size := by omega
        have zB2 : w.heap.size ≤ w2.heap.size := by omega
        clear hst S1 S2 hl12
        go_wp2_with fail
        refine (aText_any s _ _ hs1 (Tab8.step HT.out b4) HTX.out).mono ?_
        intro e w5 hR
        obtain ⟨A5, n5, c5, rfl, hS5, hN5, hst⟩ := RetA.flat hR
        have S5 := Lib.hid hS5
        have N5 := Lib.hid hN5
        clear hR hS5 hN5
        have z4 := b4.size
        have l41 := Bx.lt X1
        have l42 := Bx.lt X2
        replace X1 := Bx.step X1 hst
        replace X2 := Bx.step X2 hst
        have hne5 : ∀ b o, A5 = some ⟨b, o, none⟩ → b ≠ w1.heap.size := fun b o e => by
          have h1 := N5.out b o none e
          omega
        have hne8 : ∀ b o, A5 = some ⟨b, o, none⟩ → b ≠ w2.heap.size := fun b o e => by
          have h1 := N5.out b o none e
          omega
        have b5 := bst b4 hst
        clear hst
        have d1 : ∀ i, w5.cell? ⟨w1.heap.size, i, none⟩ = _ := Bx.cell X1
        have e1 : ∀ i, w5.frozen? ⟨w1.heap.size, i, none⟩ = false := Bx.frozen X1
        have q1 := Bx.lt X1
        go_wp2_with fail
        have Y1 := Bx.set5 X1 (.int .i64 tk) (.int .i64 tr) (.int .i64 t0) (.int .i64 t1) (.slice A5 n5 c5)
        have Y2 := Bx.past5 X2 (B := w1.heap.size) (.int .i64 tk) (.int .i64 tr) (.int .i64 t0) (.int .i64 t1) (.slice A5 n5 c5) (Ne.symm hne)
        have T5 := Lib.hid (Sl.past5 S5.out (B := w1.heap.size) (.int .i64 tk) (.int .i64 tr) (.int .i64 t0) (.int .i64 t1) (.slice A5 n5 c5) hne5)
        have b6 := below_set5 b5 (B := w1.heap.size) z1 (.int .i64 tk) (.int .i64 tr) (.int .i64 t0) (.int .i64 t1) (.slice A5 n5 c5)
        clear d1 e1 q1 X1 X2 S5 N5 hne5 b5 l41 l42 z4
        generalize (((((w5.setCell ⟨(w1.heap.size), 0, none⟩ (.int .i64 tk)).setCell ⟨(w1.heap.size), 1, none⟩ (.int .i64 tr)).setCell ⟨(w1.heap.size), 2, none⟩ (.int .i64 t0)).setCell ⟨(w1.heap.size), 3, none⟩ (.int .i64 t1)).setCell ⟨(w1.heap.size), 4, none⟩ (.slice A5 n5 c5)) = w6 at *
        refine (rText_any s _ _ hs1 HTX.out).mono ?_
        intro e w7 hR
        obtain ⟨A7, n7, c7, rfl, hS7, hN7, hst⟩ := RetA.flat hR
        have S7 := Lib.hid hS7
        have N7 := Lib.hid hN7
        clear hR hS7 hN7
        have hne7 : ∀ b o, A7 = some ⟨b, o, none⟩ → b ≠ w2.heap.size := fun b o e => by
          have h1 := N7.out b o none e
          have h2 := Bx.lt Y2
          omega
        replace Y1 := Bx.step Y1 hst
        replace Y2 := Bx.step Y2 hst
        replace T5 := Lib.hid (Sl.step T5.out hst)
        have b7 := bst b6 hst
        clear hst
        have d2 : ∀ i, w7.cell? ⟨w2.heap.size, i, none⟩ = _ := Bx.cell Y2
        have e2 : ∀ i, w7.frozen? ⟨w2.heap.size, i, none⟩ = false := Bx.frozen Y2
        have q2 := Bx.lt Y2
        go_upto_region 14 with fail
        have W1 := Bx.past5 Y1 (B := w2.heap.size) (.int .i64 tk) (.int .i64 tr) (.int .i64 t0) (.int .i64 t1) (.slice A7 n7 c7) hne
        have W2 := Bx.set5 Y2 (.int .i64 tk) (.int .i64 tr) (.int .i64 t0) (.int .i64 t1) (.slice A7 n7 c7)
        have U5 := Lib.hid (Sl.past5 T5.out (B := w2.heap.size) (.int .i64 tk) (.int .i64 tr) (.int .i64 t0) (.int .i64 t1) (.slice A7 n7 c7) hne8)
        have U7 := Lib.hid (Sl.past5 S7.out (B := w2.heap.size) (.int .i64 tk) (.int .i64 tr) (.int .i64 t0) (.int .i64 t1) (.slice A7 n7 c7) hne7)
        have b8 := below_set5 b7 (B := w2.heap.size) zB2 (.int .i64 tk) (.int .i64 tr) (.int .i64 t0) (.int .i64 t1) (.slice A7 n7 c7)
        clear d2 e2 q2 Y1 Y2 T5 S7 N7 hne7 hne8 b7
        generalize (((((w7.setCell ⟨(w2.heap.size), 0, none⟩ (.int .i64 tk)).setCell ⟨(w2.heap.size), 1, none⟩ (.int .i64 tr)).setCell ⟨(w2.heap.size), 2, none⟩ (.int .i64 t0)).setCell ⟨(w2.heap.size), 3, none⟩ (.int .i64 t1)).setCell ⟨(w2.heap.size), 4, none⟩ (.slice A7 n7 c7)) = w8 at *
        have d1 : ∀ i, w8.cell? ⟨w1.heap.size, i, none⟩ = _ := Bx.cell W1
        have d2 : ∀ i, w8.cell? ⟨w2.heap.size, i, none⟩ = _ := Bx.cell W2
        go_wp2_with fail
        refine (rsame_any tk tr t0 t1 A5 n5 c5 ts tk tr t0 t1 A7 n7 c7 ts true _ U5.out U7.out (by simp)).mono ?_
        rintro e w9 ⟨rfl, hst⟩
        replace W1 := Bx.step W1 hst
        replace W2 := Bx.step W2 hst
        have b9 := bst b8 hst
        clear hst d1 d2 U5 U7 b8
        go_wp2_with fail
        refine (aMatrix_any A' n' c' rs _ _ (HS'.out.step b9) HM.out).mono ?_
        intro e w10 hR
        obtain ⟨A10, n10, c10, rfl, hS10, hN10, hst⟩ := RetA.flat hR
        have S10 := Lib.hid hS10
        have N10 := Lib.hid hN10
        clear hR hS10 hN10
        have l91 := Bx.lt W1
        have l92 := Bx.lt W2
        have hne5 : ∀ b o, A10 = some ⟨b, o, none⟩ → b ≠ w1.heap.size := fun b o e => by
          have h1 := N10.out b o none e
          omega
        have hne8 : ∀ b o, A10 = some ⟨b, o, none⟩ → b ≠ w2.heap.size := fun b o e => by
          have h1 := N10.out b o none e
          omega
        replace W1 := Bx.step W1 hst
        replace W2 := Bx.step W2 hst
        have b10 := bst b9 hst
        clear hst l91 l92 b9 N10
        have d1 : ∀ i, w10.cell? ⟨w1.heap.size, i, none⟩ = _ := Bx.cell W1
        have e1 : ∀ i, w10.frozen? ⟨w1.heap.size, i, none⟩ = false := Bx.frozen W1
        have q1 := Bx.lt W1
        go_wp2_with fail
        have Y1 := Bx.set5 W1 (.int .i64 mk) (.int .i64 mr) (.int .i64 m0) (.int .i64 m1) (.slice A10 n10 c10)
        have Y2 := Bx.past5 W2 (B := w1.heap.size) (.int .i64 mk) (.int .i64 mr) (.int .i64 m0) (.int .i64 m1) (.slice A10 n10 c10) (Ne.symm hne)
        have T10 := Lib.hid (Sl.past5 S10.out (B := w1.heap.size) (.int .i64 mk) (.int .i64 mr) (.int .i64 m0) (.int .i64 m1) (.slice A10 n10 c10) hne5)
        have b11 := below_set5 b10 (B := w1.heap.size) z1 (.int .i64 mk) (.int .i64 mr) (.int .i64 m0) (.int .i64 m1) (.slice A10 n10 c10)
        clear d1 e1 q1 W1 W2 S10 hne5 b10
        generalize (((((w10.setCell ⟨(w1.heap.size), 0, none⟩ (.int .i64 mk)).setCell ⟨(w1.heap.size), 1, none⟩ (.int .i64 mr)).setCell ⟨(w1.heap.size), 2, none⟩ (.int .i64 m0)).setCell ⟨(w1.heap.size), 3, none⟩ (.int .i64 m1)).setCell ⟨(w1.heap.size), 4, none⟩ (.slice A10 n10 c10)) = w11 at *
        refine (rMatrix_any A' n' c' rs _ _ (HS'.out.step b11) HM.out).mono ?_
        intro e w12 hR
        obtain ⟨A12, n12, c12, rfl, hS12, hN12, hst⟩ := RetA.flat hR
        have S12 := Lib.hid hS12
        have N12 := Lib.hid hN12
        clear hR hS12 hN12
        have hne7 : ∀ b o, A12 = some ⟨b, o, none⟩ → b ≠ w2.heap.size := fun b o e => by
          have h1 := N12.out b o none e
          have h2 := Bx.lt Y2
          omega
        replace Y1 := Bx.step Y1 hst
        replace Y2 := Bx.step Y2 hst
        replace T10 := Lib.hid (Sl.step T10.out hst)
        have b12 := bst b11 hst
        clear hst b11
        have d2 : ∀ i, w12.cell? ⟨w2.heap.size, i, none⟩ = _ := Bx.cell Y2
        have e2 : ∀ i, w12.frozen? ⟨w2.heap.size, i, none⟩ = false := Bx.frozen Y2
        have q2 := Bx.lt Y2
        go_upto_region 18 with fail
        have W1 := Bx.past5 Y1 (B := w2.heap.size) (.int .i64 mk) (.int .i64 mr) (.int .i64 m0) (.int .i64 m1) (.slice A12 n12 c12) hne
        have W2 := Bx.set5 Y2 (.int .i64 mk) (.int .i64 mr) (.int .i64 m0) (.int .i64 m1) (.slice A12 n12 c12)
        have U10 := Lib.hid (Sl.past5 T10.out (B := w2.heap.size) (.int .i64 mk) (.int .i64 mr) (.int .i64 m0) (.int .i64 m1) (.slice A12 n12 c12) hne8)
        have U12 := Lib.hid (Sl.past5 S12.out (B := w2.heap.size) (.int .i64 mk) (.int .i64 mr) (.int .i64 m0) (.int .i64 m1) (.slice A12 n12 c12) hne7)
        have b13 := below_set5 b12 (B := w2.heap.size) zB2 (.int .i64 mk) (.int .i64 mr) (.int .i64 m0) (.int .i64 m1) (.slice A12 n12 c12)
        clear d2 e2 q2 Y1 Y2 T10 S12 N12 hne7 hne8 b12
        generalize (((((w12.setCell ⟨(w2.heap.size), 0, none⟩ (.int .i64 mk)).setCell ⟨(w2.heap.size), 1, none⟩ (.int .i64 mr)).setCell ⟨(w2.heap.size), 2, none⟩ (.int .i64 m0)).setCell ⟨(w2.heap.size), 3, none⟩ (.int .i64 m1)).setCell ⟨(w2.heap.size), 4, none⟩ (.slice A12 n12 c12)) = w13 at *
        have d1 : ∀ i, w13.cell? ⟨w1.heap.size, i, none⟩ = _ := Bx.cell W1
        have d2 : ∀ i, w13.cell? ⟨w2.heap.size, i, none⟩ = _ := Bx.cell W2
        go_wp2_with fail
        refine (rsame_any mk mr m0 m1 A10 n10 c10 ms mk mr m0 m1 A12 n12 c12 ms true _ U10.out U12.out (by simp)).mono ?_
        rintro e w14 ⟨rfl, hst⟩
        have b14 := bst b13 hst
        clear hst d1 d2 U10 U12 b13 W1 W2
        go_wp2_with fail
        refine (awake_any _ (Tab8.step HT.out b14)).mono ?_
        rintro e wz ⟨rfl, hbz⟩
        go_wp2
        go_ret
        exact ⟨rfl, bst b14 hbz⟩
end Go.Proofs.YtimpdfafodaadaaDoor

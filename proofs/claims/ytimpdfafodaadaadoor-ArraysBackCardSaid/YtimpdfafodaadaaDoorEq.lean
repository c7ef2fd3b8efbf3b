/-
  arrays.Like, slices.Equal, arrays.Same; the law's vector, Far.
-/
import Derived.Test.YtimpdfafodaadaaDoorSame
import Derived.Test.YtimpdfafodaadaaDoorAdef
import Derived.Test.YtimpdfafodaadaaDoorRet
namespace Go.Proofs.YtimpdfafodaadaaDoor
open Go.RowKit
set_option maxHeartbeats 400000 in
theorem alike_any (k r l0 l1 : Int) (A : Option Addr) (n c : Nat) (k' r' l0' l1' : Int) (A' : Option Addr) (n' c' : Nat) (w : World) :
    Calls Tryd.prog 32 #[.agg #[.int .i64 k, .int .i64 r, .int .i64 l0, .int .i64 l1, .slice A n c], .agg #[.int .i64 k', .int .i64 r', .int .i64 l0', .int .i64 l1', .slice A' n' c']] w fun e w' => e = .returned (.bool (decide (k = k' ∧ r = r' ∧ l0 = l0' ∧ l1 = l1'))) ∧ Below w.heap.size w w' := by
  have hg := guardLens
  have he := eqLens
  by_cases h1 : k = k'
  · subst h1
    by_cases h2 : r = r'
    · subst h2
      by_cases h3 : l0 = l0' ∧ l1 = l1'
      · obtain ⟨rfl, rfl⟩ := h3
        go_enter Tryd.func32, Tryd.ntmps32
        go_wp2
        go_ret
        exact ⟨by simp, bal (bal (Below.refl _ _) _) _⟩
      · have h3' : (l0 == l0' && l1 == l1') = false := by
          rw [Bool.and_eq_false_iff]
          by_cases a : l0 = l0'
          · exact .inr (by simpa using fun b => h3 ⟨a, b⟩)
          · exact .inl (by simpa using a)
        go_enter Tryd.func32, Tryd.ntmps32
        go_wp2
        go_ret
        exact ⟨by simp [h3], bal (bal (Below.refl _ _) _) _⟩
    · have h2' : (r == r') = false := by simpa using h2
      go_enter Tryd.func32, Tryd.ntmps32
      go_wp2
      go_ret
      exact ⟨by simp [h2], bal (bal (Below.refl _ _) _) _⟩
  · have h1' : (k == k') = false := by simpa using h1
    go_enter Tryd.func32, Tryd.ntmps32
    go_wp2
    go_ret
    exact ⟨by simp [h1], bal (bal (Below.refl _ _) _) _⟩

set_option maxHeartbeats 1000000 in
theorem equal_i64 (A : Option Addr) (n c : Nat) (xs : List Int) (A' : Option Addr) (n' c' : Nat) (ys : List Int) (w : World) (hs : Sl w A n c xs) (hs' : Sl w A' n' c' ys) :
    Calls Tryd.prog 67 #[.slice A n c, .slice A' n' c'] w fun e w' => e = .returned (.bool (decide (xs = ys))) ∧ Below w.heap.size w w' := by
  have HS := Lib.hid hs
  have HS' := Lib.hid hs'
  have hcap := hs.cap
  have hmost := hs.most
  have hcap' := hs'.cap
  have hmost' := hs'.most
  have HN := Lib.hid hs.len
  have HN' := Lib.hid hs'.len
  clear hs hs'
  obtain ⟨R, hR⟩ : ∃ R, decide (xs = ys) = R := ⟨_, rfl⟩
  rw [hR]
  have HR := Lib.hid hR
  clear hR
  by_cases hlen : n = n'
  · subst hlen
    go_enter Tryd.func67, Tryd.ntmps67
    go_wp2
    go_loopw [13] (fun i wr => ∃ j : Nat, j ≤ n ∧ i = .int .i64 j ∧ Below w.heap.size w wr ∧ Hid (∀ q, q < j → xs.getD q 0 = ys.getD q 0)) (fun i _ => n - (intOf i).toNat)
    case atStart => exact ⟨0, Nat.zero_le _, rfl, Below.refl _ _, Lib.hid (fun q hq => absurd hq (Nat.not_lt_zero _))⟩
    case round =>
      obtain ⟨j, hj, rfl, hb, hno⟩ := hrel
      by_cases hlt : j < n
      · obtain ⟨b, o, rfl, hbl, hx⟩ := (HS.out.step hb).at_ hlt
        obtain ⟨b', o', rfl, hbl', hy⟩ := (HS'.out.step hb).at_ hlt
        have hlt' : (j : Int) < (n : Int) := by omega
        have hj0 : (0 : Int) ≤ (j : Int) := by omega
        generalize hu : xs.getD j 0 = u at hx
        generalize hv : ys.getD j 0 = v at hy
        have HU := Lib.hid hu
        have HV := Lib.hid hv
        clear hu hv
        by_cases huv : u = v
        · subst huv
          have huu : (u != u) = false := by simp
          go_wp2
          go_quiet (fail)
          go_wp2
          go_roundw
          case rel =>
            refine ⟨j + 1, by omega, by go_num, bdn hb _, Lib.hid (fun q hq => ?_)⟩
            by_cases e : q = j
            · subst e; rw [HU.out, HV.out]
            · exact hno.out q (by omega)
          case measure => simp [intOf]; omega
        · have huv' : (u != v) = true := by simpa using huv
          have hr := HR.out
          rw [decide_eq_false (fun e => huv (by rw [← HU.out, ← HV.out, e]))] at hr
          subst hr
          clear huv HR
          go_wp2
          go_quiet (fail)
          go_wp2
          go_ret
          exact ⟨rfl, bdn hb _⟩
      · have hr := HR.out
        rw [decide_eq_true (ext_getD (by rw [HN.out, HN'.out]) fun q hq => hno.out q (by rw [HN.out] at hq; omega))] at hr
        subst hr
        clear HR
        go_wp2
        go_ret
        exact ⟨rfl, hb⟩
  · have hlen' : ((n : Int) != (n' : Int)) = true := by simp; omega
    have hr := HR.out
    rw [decide_eq_false (fun e => hlen (by rw [← HN.out, ← HN'.out, e]))] at hr
    subst hr
    clear hlen HR
    go_enter Tryd.func67, Tryd.ntmps67
    go_wp2
    go_ret
    exact ⟨rfl, Below.refl _ _⟩
set_option maxHeartbeats 1000000 in
theorem asame_any (k r l0 l1 : Int) (A : Option Addr) (n c : Nat) (xs : List Int) (k' r' l0' l1' : Int) (A' : Option Addr) (n' c' : Nat) (ys : List Int) (w : World)
    (hs : Sl w A n c xs) (hs' : Sl w A' n' c' ys) :
    Calls Tryd.prog 37 #[.agg #[.int .i64 k, .int .i64 r, .int .i64 l0, .int .i64 l1, .slice A n c], .agg #[.int .i64 k', .int .i64 r', .int .i64 l0', .int .i64 l1', .slice A' n' c']] w fun e w' => e = .returned (.bool (decide (k = k' ∧ r = r' ∧ l0 = l0' ∧ l1 = l1' ∧ xs = ys))) ∧ Below w.heap.size w w' := by
  have HS := Lib.hid hs
  have HS' := Lib.hid hs'
  clear hs hs'
  obtain ⟨t, ht⟩ : ∃ t, decide (k = k' ∧ r = r' ∧ l0 = l0' ∧ l1 = l1') = t := ⟨_, rfl⟩
  obtain ⟨R, hR⟩ : ∃ R, decide (k = k' ∧ r = r' ∧ l0 = l0' ∧ l1 = l1' ∧ xs = ys) = R := ⟨_, rfl⟩
  rw [hR]
  have HR := Lib.hid hR
  have HT := Lib.hid ht
  clear hR ht
  cases t with
  | false =>
    have hr := HR.out
    rw [decide_eq_false (fun h => by have := HT.out; rw [decide_eq_true ⟨h.1, h.2.1, h.2.2.1, h.2.2.2.1⟩] at this; cases this)] at hr
    subst hr
    clear HR
    go_enter Tryd.func37, Tryd.ntmps37
    go_wp2_with fail
    refine (alike_any _ _ _ _ _ _ _ _ _ _ _ _ _ _ _).mono ?_
    rintro e w1 ⟨rfl, hb1⟩
    rw [HT.out]
    go_wp2
    go_ret
    exact ⟨rfl, bst (below2 _ _ _) hb1⟩
  | true =>
    have h4 := of_decide_eq_true HT.out
    have hr : decide (xs = ys) = R := by
      rw [← HR.out]
      congr 1
      exact propext ⟨fun h => ⟨h4.1, h4.2.1, h4.2.2.1, h4.2.2.2, h⟩, fun h => h.2.2.2.2⟩
    have HR2 := Lib.hid hr
    clear HR hr h4
    go_enter Tryd.func37, Tryd.ntmps37
    go_wp2_with fail
    refine (alike_any _ _ _ _ _ _ _ _ _ _ _ _ _ _ _).mono ?_
    rintro e w1 ⟨rfl, hb1⟩
    obtain ⟨X0, X1, b1⟩ := after2 hb1
    have c0 : ∀ i, w1.cell? ⟨w.heap.size, i, none⟩ = _ := Bx.cell X0
    have c1 : ∀ i, w1.cell? ⟨w.heap.size + 1, i, none⟩ = _ := Bx.cell X1
    rw [HT.out]
    go_wp2_with fail
    refine (equal_i64 A n c xs A' n' c' ys _ (HS.out.step b1) (HS'.out.step b1)).mono ?_
    rintro e w2 ⟨rfl, hb2⟩
    rw [HR2.out]
    go_wp2
    go_ret
    exact ⟨rfl, bst b1 hb2⟩
set_option maxHeartbeats 400000 in
theorem lvec_any (A : Option Addr) (n c : Nat) (xs : List Int) (w : World) (hs : Sl w A n c xs) : Calls Tryd.prog 35 #[.slice A n c] w fun e w' => e = .returned (.agg #[.int .i64 1, .int .i64 1, .int .i64 n, .int .i64 0, .slice A n c]) ∧ Below w.heap.size w w' := by
  have hcap := hs.cap
  have hmost := hs.most
  clear hs
  go_enter Tryd.func35, Tryd.ntmps35
  go_wp2
  refine retA (B := w.heap.size) rfl rfl rfl (Bx.new _ _ _) ?_
  exact ⟨rfl, below1 _ _⟩
set_option maxHeartbeats 400000 in
theorem far6_any (k r l0 l1 : Int) (A : Option Addr) (n c : Nat) (xs : List Int) (w : World) (hs : Sl w A n c xs) : Calls Tryd.prog 11 #[.agg #[.int .i64 k, .int .i64 r, .int .i64 l0, .int .i64 l1, .slice A n c]] w fun e w' => e = .returned (.bool (decide (500 < n))) ∧ Below w.heap.size w w' := by
  have hcap := hs.cap
  have hmost := hs.most
  clear hs
  by_cases h : 500 < n
  · have h' : (500 : Int) < (n : Int) := by omega
    rw [decide_eq_true h]
    go_enter Tryd.func11, Tryd.ntmps11
    go_wp2
    go_ret
    exact ⟨rfl, below1 _ _⟩
  · have h' : ¬ (500 : Int) < (n : Int) := by omega
    rw [decide_eq_false h]
    go_enter Tryd.func11, Tryd.ntmps11
    go_wp2
    go_ret
    exact ⟨rfl, below1 _ _⟩
end Go.Proofs.YtimpdfafodaadaaDoor

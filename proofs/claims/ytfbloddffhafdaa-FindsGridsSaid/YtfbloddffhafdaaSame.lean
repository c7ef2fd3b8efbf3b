/-
  The reference's Like and Same of arrays; the comparison of two pairs of lengths.
-/
import Derived.Test.YtfbloddffhafdaaRarr
import Derived.Laws.StructEq
import Derived.ChangeKeysEq
import Derived.Test.YtfbloddffhafdaaEql
namespace Go.Proofs.Ytfbloddffhafdaa
open Go.RowKit

set_option maxHeartbeats 400000 in
theorem rlike_any (k r l0 l1 : Int) (A : Option Addr) (n c : Nat) (k' r' l0' l1' : Int) (A' : Option Addr) (n' c' : Nat) (w : World) :
    Calls Try.prog 51 #[.agg #[.int .i64 k, .int .i64 r, .int .i64 l0, .int .i64 l1, .slice A n c], .agg #[.int .i64 k', .int .i64 r', .int .i64 l0', .int .i64 l1', .slice A' n' c']] w fun e w' => e = .returned (.bool (decide (k = k' ∧ r = r' ∧ l0 = l0' ∧ l1 = l1'))) ∧ Below w.heap.size w w' := by
  have hg := guardLens
  have he := eqLens
  by_cases h1 : k = k'
  · subst h1
    by_cases h2 : r = r'
    · subst h2
      by_cases h3 : l0 = l0' ∧ l1 = l1'
      · obtain ⟨rfl, rfl⟩ := h3
        go_enter Try.func51, Try.ntmps51
        go_wp2
        go_ret
        exact ⟨by simp, bal (bal (Below.refl _ _) _) _⟩
      · have h3' : (l0 == l0' && l1 == l1') = false := by
          rw [Bool.and_eq_false_iff]
          by_cases a : l0 = l0'
          · exact .inr (by simpa using fun b => h3 ⟨a, b⟩)
          · exact .inl (by simpa using a)
        go_enter Try.func51, Try.ntmps51
        go_wp2
        go_ret
        exact ⟨by simp [h3], bal (bal (Below.refl _ _) _) _⟩
    · have h2' : (r == r') = false := by simpa using h2
      go_enter Try.func51, Try.ntmps51
      go_wp2
      go_ret
      exact ⟨by simp [h2], bal (bal (Below.refl _ _) _) _⟩
  · have h1' : (k == k') = false := by simpa using h1
    go_enter Try.func51, Try.ntmps51
    go_wp2
    go_ret
    exact ⟨by simp [h1], bal (bal (Below.refl _ _) _) _⟩

theorem ext_getD {xs ys : List Int} (hl : xs.length = ys.length) (h : ∀ q, q < xs.length → xs.getD q 0 = ys.getD q 0) : xs = ys := by
  apply List.ext_getElem hl
  intro i h1 h2
  have := h i h1
  rwa [getD_get h1, getD_get h2] at this

set_option maxHeartbeats 1000000 in
/-- The reference's Same: whether all parts of both arrays are equal. -/
theorem rsame_any (k r l0 l1 : Int) (A : Option Addr) (n c : Nat) (xs : List Int) (k' r' l0' l1' : Int) (A' : Option Addr) (n' c' : Nat) (ys : List Int) (t : Bool) (w : World)
    (hs : Sl w A n c xs) (hs' : Sl w A' n' c' ys) (ht : decide (k = k' ∧ r = r' ∧ l0 = l0' ∧ l1 = l1' ∧ xs = ys) = t) :
    Calls Try.prog 38 #[.agg #[.int .i64 k, .int .i64 r, .int .i64 l0, .int .i64 l1, .slice A n c], .agg #[.int .i64 k', .int .i64 r', .int .i64 l0', .int .i64 l1', .slice A' n' c']] w fun e w' => e = .returned (.bool t) ∧ Below w.heap.size w w' := by
  have HT := Lib.hid ht
  have HS := Lib.hid hs
  have HS' := Lib.hid hs'
  have hm := hs.most
  have hcap := hs.cap
  have hm' := hs'.most
  have hcap' := hs'.cap
  have HN := Lib.hid hs.len
  have HN' := Lib.hid hs'.len
  clear hs hs' ht
  have X0 : Bx ((w.alloc (.cells #[.int .i64 k, .int .i64 r, .int .i64 l0, .int .i64 l1, .slice A n c] 25)).alloc (.cells #[.int .i64 k', .int .i64 r', .int .i64 l0', .int .i64 l1', .slice A' n' c'] 25)) w.heap.size #[.int .i64 k, .int .i64 r, .int .i64 l0, .int .i64 l1, .slice A n c] 25 := (Bx.new _ _ _).alloc _
  have Y0 : Bx ((w.alloc (.cells #[.int .i64 k, .int .i64 r, .int .i64 l0, .int .i64 l1, .slice A n c] 25)).alloc (.cells #[.int .i64 k', .int .i64 r', .int .i64 l0', .int .i64 l1', .slice A' n' c'] 25)) (w.heap.size + 1) #[.int .i64 k', .int .i64 r', .int .i64 l0', .int .i64 l1', .slice A' n' c'] 25 := by
    have := Bx.new (w.alloc (.cells #[.int .i64 k, .int .i64 r, .int .i64 l0, .int .i64 l1, .slice A n c] 25)) #[.int .i64 k', .int .i64 r', .int .i64 l0', .int .i64 l1', .slice A' n' c'] 25
    rwa [World.size_alloc] at this
  by_cases hl : k = k' ∧ r = r' ∧ l0 = l0' ∧ l1 = l1'
  · obtain ⟨rfl, rfl, rfl, rfl⟩ := hl
    have hd : decide (k = k ∧ r = r ∧ l0 = l0 ∧ l1 = l1) = true := by simp
    by_cases hlen : n = n'
    · subst hlen
      go_enter Try.func38, Try.ntmps38
      go_wp2_with fail
      refine (rlike_any _ _ _ _ _ _ _ _ _ _ _ _ _ _ _).mono ?_
      rintro e w1 ⟨rfl, hb1⟩
      have X1 := X0.step hb1
      have Y1 := Y0.step hb1
      have hcx : ∀ i, w1.cell? ⟨w.heap.size, i, none⟩ = _ := X1.cell
      have hcy : ∀ i, w1.cell? ⟨w.heap.size + 1, i, none⟩ = _ := Y1.cell
      go_wp2
      go_loopw [5] (fun i wr => ∃ j : Nat, j ≤ n ∧ i = .int .i64 j ∧ Below w1.heap.size w1 wr ∧ Hid (∀ q, q < j → xs.getD q 0 = ys.getD q 0)) (fun i _ => n - (intOf i).toNat)
      case atStart => exact ⟨0, Nat.zero_le _, rfl, Below.refl _ _, Lib.hid (fun q hq => absurd hq (Nat.not_lt_zero _))⟩
      case round =>
        obtain ⟨j, hj, rfl, hb, hno⟩ := hrel
        have hrx : ∀ i, wr.cell? ⟨w.heap.size, i, none⟩ = _ := (X1.step hb).cell
        have hry : ∀ i, wr.cell? ⟨w.heap.size + 1, i, none⟩ = _ := (Y1.step hb).cell
        have hb0 : Below w.heap.size w wr := bst (bst (bal (bal (Below.refl _ _) _) _) hb1) hb
        by_cases hlt : j < n
        · obtain ⟨b, o, rfl, hbl, hx0⟩ := HS.out.at_ hlt
          obtain ⟨b', o', rfl, hbl', hy0⟩ := HS'.out.at_ hlt
          have hx : wr.cell? ⟨b, o + j, none⟩ = some (.int .i64 (xs.getD j 0)) := (hb0.cell (p := ⟨b, o + j, none⟩) hbl).trans hx0
          have hy : wr.cell? ⟨b', o' + j, none⟩ = some (.int .i64 (ys.getD j 0)) := (hb0.cell (p := ⟨b', o' + j, none⟩) hbl').trans hy0
          clear hx0 hy0
          have hlt' : (j : Int) < (n : Int) := by omega
          have hj0 : (0 : Int) ≤ (j : Int) := by omega
          generalize hu : xs.getD j 0 = u at hx
          generalize hv : ys.getD j 0 = v at hy
          have HU := Lib.hid hu
          have HV := Lib.hid hv
          clear hu hv
          by_cases huv : u = v
          · subst huv
            go_wp2
            go_quiet (fail)
            go_wp2
            go_roundw
            case rel =>
              refine ⟨j + 1, by omega, by go_num, bdn hb _, Lib.hid (fun q hq => ?_)⟩
              by_cases e : q = j
              · subst e; rw [HU.out, HV.out]
              · exact hno.out q (by omega)
            case measure => simp [intOf]; omega
          · have huv' : (u != v) = true := by simpa using huv
            have HUV := Lib.hid huv
            clear huv
            go_wp2
            go_quiet (fail)
            go_wp2
            go_ret
            refine ⟨?_, bdn hb0 _⟩
            have hne : xs ≠ ys := fun e => HUV.out (by rw [← HU.out, ← HV.out, e])
            rw [← HT.out]
            simp [hne]
        · go_wp2
          go_ret
          refine ⟨?_, hb0⟩
          have he : xs = ys := ext_getD (by rw [HN.out, HN'.out]) fun q hq => hno.out q (by rw [HN.out] at hq; omega)
          rw [← HT.out]
          simp [he]
    · have hlen' : ((n : Int) != (n' : Int)) = true := by simp; omega
      have HL := Lib.hid hlen
      clear hlen
      go_enter Try.func38, Try.ntmps38
      go_wp2_with fail
      refine (rlike_any _ _ _ _ _ _ _ _ _ _ _ _ _ _ _).mono ?_
      rintro e w1 ⟨rfl, hb1⟩
      have X1 := X0.step hb1
      have Y1 := Y0.step hb1
      have hcx : ∀ i, w1.cell? ⟨w.heap.size, i, none⟩ = _ := X1.cell
      have hcy : ∀ i, w1.cell? ⟨w.heap.size + 1, i, none⟩ = _ := Y1.cell
      go_wp2
      go_ret
      refine ⟨?_, bst (bal (bal (Below.refl _ _) _) _) hb1⟩
      have hne : xs ≠ ys := fun e => HL.out (by rw [← HN.out, ← HN'.out, e])
      rw [← HT.out]
      simp [hne]
  · have hd : decide (k = k' ∧ r = r' ∧ l0 = l0' ∧ l1 = l1') = false := decide_eq_false hl
    have HD := Lib.hid hd
    have HL := Lib.hid hl
    clear hl hd
    go_enter Try.func38, Try.ntmps38
    go_wp2_with fail
    refine (rlike_any _ _ _ _ _ _ _ _ _ _ _ _ _ _ _).mono ?_
    rintro e w1 ⟨rfl, hb1⟩
    rw [HD.out]
    go_wp2
    go_ret
    refine ⟨?_, bst (bal (bal (Below.refl _ _) _) _) hb1⟩
    rw [← HT.out, decide_eq_false (fun h => HL.out ⟨h.1, h.2.1, h.2.2.1, h.2.2.2.1⟩)]
    rfl
end Go.Proofs.Ytfbloddffhafdaa

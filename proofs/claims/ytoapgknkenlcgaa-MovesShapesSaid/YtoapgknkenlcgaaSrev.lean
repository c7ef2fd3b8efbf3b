/-
  slices.Reverse of integers.
-/
import Derived.Test.YtoapgknkenlcgaaMblk
import Derived.Test.YtoapgknkenlcgaaRet
namespace Go.Proofs.Ytoapgknkenlcgaa
open Go.RowKit

def swp (f : Nat → Int) (o q k p : Nat) : Int := if o ≤ p ∧ p < o + q ∧ (p < o + k ∨ o + q ≤ p + k) then f (o + (o + q - 1 - p)) else f p
theorem swp_next {f : Nat → Int} {o q k p : Nat} (hk : k + k + 1 < q) : (if p = o + (q - 1 - k) then swp f o q k (o + k) else if p = o + k then swp f o q k (o + (q - 1 - k)) else swp f o q k p) = swp f o q (k + 1) p := by
  unfold swp
  by_cases h1 : p = o + (q - 1 - k)
  · subst h1
    rw [if_pos rfl, if_neg (by omega), if_pos (by omega)]
    congr 1
    omega
  · rw [if_neg h1]
    by_cases h2 : p = o + k
    · subst h2
      rw [if_pos rfl, if_neg (by omega), if_pos (by omega)]
      congr 1
      omega
    · rw [if_neg h2]
      by_cases h3 : o ≤ p ∧ p < o + q ∧ (p < o + k ∨ o + q ≤ p + k)
      · rw [if_pos h3, if_pos (by omega)]
      · rw [if_neg h3, if_neg (by omega)]
theorem swp_next' {f : Nat → Int} {o q k p : Nat} (hk : k + k + 1 < q) : (if p = o + k then swp f o q k (o + (q - 1 - k)) else if p = o + (q - 1 - k) then swp f o q k (o + k) else swp f o q k p) = swp f o q (k + 1) p := by
  rw [← swp_next hk]
  by_cases h1 : p = o + k
  · rw [if_pos h1, if_neg (by omega), if_pos h1]
  · rw [if_neg h1, if_neg h1]
theorem swp_end {f : Nat → Int} {o q k p : Nat} (hk : q ≤ k + k + 1) : swp f o q k p = if o ≤ p ∧ p < o + q then f (o + (o + q - 1 - p)) else f p := by
  unfold swp
  by_cases h1 : o ≤ p ∧ p < o + q
  · rw [if_pos h1]
    by_cases h2 : p < o + k ∨ o + q ≤ p + k
    · rw [if_pos (by omega)]
    · rw [if_neg (by omega)]
      congr 1
      omega
  · rw [if_neg h1, if_neg (by omega)]
theorem swp_zero {f : Nat → Int} {o q p : Nat} : f p = swp f o q 0 p := by
  unfold swp
  rw [if_neg (by omega)]

set_option maxHeartbeats 2000000 in
theorem srev_any (g o q c n : Nat) (f : Nat → Int) (w : World) (hB : Bf w g n f) (ho : o + q ≤ n) (hm : n ≤ 1000000) :
    Calls Try.prog 55 #[.slice (some ⟨g, o, none⟩) q c] w fun e w' => (∃ v, e = .returned v) ∧ Bf w' g n (fun p => if o ≤ p ∧ p < o + q then f (o + (o + q - 1 - p)) else f p) ∧ w.grownBy w' (some g) := by
  have HB := Lib.hid hB
  clear hB
  go_enter Try.func55, Try.ntmps55
  go_wp2
  go_loopw [2, 3] (fun i j wr => ∃ k : Nat, i = .int .i64 k ∧ j = .int .i64 ((q : Int) - 1 - k) ∧ k ≤ q ∧ Hid (Bf wr g n (swp f o q k)) ∧ Hid (w.grownBy wr (some g))) (fun i _ _ => q - (intOf i).toNat)
  case atStart =>
    refine ⟨0, rfl, ?_, Nat.zero_le _, Lib.hid (HB.out.congr fun j _ => swp_zero), Lib.hid (World.grownBy.refl w _)⟩
    simp
  case round =>
    obtain ⟨k, rfl, rfl, hk, HF, HG⟩ := hrel
    by_cases hlt : k + k + 1 < q
    · obtain ⟨m, hmm⟩ : ∃ m : Nat, m = q - 1 - k := ⟨_, rfl⟩
      have hj : (q : Int) - 1 - k = (m : Int) := by omega
      rw [hj]
      have k0 : (0 : Int) ≤ (k : Int) := by omega
      have k1 : (k : Int) < (q : Int) := by omega
      have m0 : (0 : Int) ≤ (m : Int) := by omega
      have m1 : (m : Int) < (q : Int) := by omega
      have km : (k : Int) < (m : Int) := by omega
      have dx := HF.out.cell (j := o + k) (by omega)
      have dy := HF.out.cell (j := o + m) (by omega)
      have fx := HF.out.frozen (o + k)
      have fy := HF.out.frozen (o + m)
      obtain ⟨x, hx⟩ : ∃ x, swp f o q k (o + k) = x := ⟨_, rfl⟩
      obtain ⟨y, hy⟩ : ∃ y, swp f o q k (o + m) = y := ⟨_, rfl⟩
      rw [hx] at dx
      rw [hy] at dy
      have HX := Lib.hid hx
      have HY := Lib.hid hy
      have HM := Lib.hid hmm
      clear hx hy hj hmm
      go_wp2
      go_region
      go_wp2
      refine ⟨⟨k + 1, rfl, ?_, by omega, ?_, Lib.hid (grown_set (grown_set (grown_drew HG.out) _ _) _ _)⟩, ?_⟩
      · congr 1
        have := HM.out
        omega
      · refine Lib.hid (((Bf.set (w := wr.drew) HF.out (o + k) y).set (o + m) x).congr fun p hp => ?_)
        rw [← HX.out, ← HY.out, HM.out]
        exact swp_next hlt
      · simp only [intOf]; omega
    · go_wp2
      go_end0
      exact ⟨⟨_, rfl⟩, HF.out.congr fun j _ => swp_end (by omega), HG.out⟩
end Go.Proofs.Ytoapgknkenlcgaa

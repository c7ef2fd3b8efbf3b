/-
  The round trips of UTF-8: what is decoded, encoded again; what is encoded, decoded again. No program in sight.
-/
import Derived.Test.YtimpdfafodaadaaDoorEnc
namespace Go.Proofs.YtimpdfafodaadaaDoor

theorem enc_rdec {sz : Nat} {f : Nat → Nat} (h : (rdec sz f).2 ≠ 0) : Lib.encodeRuneZ (rdec sz f).1 = (List.range (rdec sz f).2.toNat).map fun i => (f i : Int) := by
  unfold rdec at h ⊢
  split at h
  · rename_i h0
    simp only [if_pos h0]
    rw [Lib.encodeRuneZ_one (by omega) (by omega)]
    simp
  · rename_i h0
    simp only [if_neg h0]
    split at h
    · rename_i h1
      simp only [if_pos h1]
      unfold mulDec at h ⊢
      split at h
      · exact absurd rfl h
      · split at h
        · exact absurd rfl h
        · split at h
          · exact absurd rfl h
          · split at h
            · exact absurd rfl h
            · rename_i a b c d
              rw [if_neg a, if_neg b, if_neg c, if_neg d]
              simp only [Decidable.not_not] at d
              have hz := size2.1 d
              simp only [accC, okC, Bool.not_eq_false, Bool.and_eq_true, decide_eq_true_eq, Bool.true_and, Nat.reduceAdd] at b hz ⊢
              rw [Lib.encodeRuneZ_two (by omega) (by omega)]
              show [_, _] = [((f 0 : Nat) : Int), ((f 1 : Nat) : Int)]
              simp only [List.cons.injEq, and_true]
              omega
    · rename_i h1
      simp only [if_neg h1]
      split at h
      · rename_i h2
        simp only [if_pos h2]
        unfold mulDec at h ⊢
        split at h
        · exact absurd rfl h
        · split at h
          · exact absurd rfl h
          · split at h
            · exact absurd rfl h
            · split at h
              · exact absurd rfl h
              · rename_i a b c d
                rw [if_neg a, if_neg b, if_neg c, if_neg d]
                simp only [Decidable.not_not] at d
                have hz := size3.1 d
                have hr := (rune_iff _).1 (by simpa using c)
                simp only [accC, okC, Bool.not_eq_false, Bool.and_eq_true, decide_eq_true_eq, Bool.true_and, Nat.reduceAdd] at b hz hr ⊢
                rw [Lib.encodeRuneZ_three (by omega)]
                show [_, _, _] = [((f 0 : Nat) : Int), ((f 1 : Nat) : Int), ((f 2 : Nat) : Int)]
                simp only [List.cons.injEq, and_true]
                omega
      · rename_i h2
        simp only [if_neg h2]
        split at h
        · rename_i h3
          simp only [if_pos h3]
          unfold mulDec at h ⊢
          split at h
          · exact absurd rfl h
          · split at h
            · exact absurd rfl h
            · split at h
              · exact absurd rfl h
              · split at h
                · exact absurd rfl h
                · rename_i a b c d
                  rw [if_neg a, if_neg b, if_neg c, if_neg d]
                  simp only [Decidable.not_not] at d
                  have hz := size4.1 d
                  have hr := (rune_iff _).1 (by simpa using c)
                  simp only [accC, okC, Bool.not_eq_false, Bool.and_eq_true, decide_eq_true_eq, Bool.true_and, Nat.reduceAdd] at b hz hr ⊢
                  rw [Lib.encodeRuneZ_four (by omega) (by omega)]
                  show [_, _, _, _] = [((f 0 : Nat) : Int), ((f 1 : Nat) : Int), ((f 2 : Nat) : Int), ((f 3 : Nat) : Int)]
                  simp only [List.cons.injEq, and_true]
                  omega
        · exact absurd rfl h
/-- What is encoded is decoded again. -/
theorem dec_enc {c : Int} (hc : isRune c = true) {sz : Nat} {f : Nat → Nat} (hsz : (Lib.encodeRuneZ c).length ≤ sz) (hf : ∀ i, i < (Lib.encodeRuneZ c).length → (f i : Int) = (Lib.encodeRuneZ c).getD i 0) :
    rdec sz f = (c, ((Lib.encodeRuneZ c).length : Int)) := by
  have hr := (rune_iff c).1 hc
  by_cases h1 : c ≤ 127
  · rw [Lib.encodeRuneZ_one (by omega) h1] at hf ⊢
    have f0 : (f 0 : Int) = c := hf 0 (by simp)
    unfold rdec
    rw [if_pos (by omega), f0]
    rfl
  · by_cases h2 : c ≤ 2047
    · rw [Lib.encodeRuneZ_two (by omega) h2] at hf hsz ⊢
      have f0 : (f 0 : Int) = 192 + c / 64 := hf 0 (by simp)
      have f1 : (f 1 : Int) = 128 + c % 64 := hf 1 (by simp)
      have ha : accC ((f 0 : Int) - 192) f 1 = c := by simp only [accC, Nat.reduceAdd]; omega
      have ho : okC f 1 = true := by simp only [okC, Nat.reduceAdd, Bool.and_eq_true, decide_eq_true_eq, Bool.true_and]; omega
      have hs2 : ¬ sz < 2 := by simp at hsz; omega
      unfold rdec mulDec
      rw [if_neg (by omega), if_pos (by omega), if_neg hs2]
      simp only [Nat.reduceSub, ha, ho, hc]
      rw [if_neg (by simp), if_neg (by simp), if_neg (by rw [size2.2 (by omega)]; simp)]
      rfl
    · by_cases h3 : c ≤ 65535
      · rw [Lib.encodeRuneZ_three (by omega)] at hf hsz ⊢
        have f0 : (f 0 : Int) = 224 + c / 4096 := hf 0 (by simp)
        have f1 : (f 1 : Int) = 128 + c / 64 % 64 := hf 1 (by simp)
        have f2 : (f 2 : Int) = 128 + c % 64 := hf 2 (by simp)
        have ha : accC ((f 0 : Int) - 224) f 2 = c := by simp only [accC, Nat.reduceAdd]; omega
        have ho : okC f 2 = true := by simp only [okC, Nat.reduceAdd, Bool.and_eq_true, decide_eq_true_eq, Bool.true_and]; omega
        have hs2 : ¬ sz < 3 := by simp at hsz; omega
        unfold rdec mulDec
        rw [if_neg (by omega), if_neg (by omega), if_pos (by omega), if_neg hs2]
        simp only [Nat.reduceSub, ha, ho, hc]
        rw [if_neg (by simp), if_neg (by simp), if_neg (by rw [size3.2 (by omega)]; simp)]
        rfl
      · rw [Lib.encodeRuneZ_four (by omega) (by omega)] at hf hsz ⊢
        have f0 : (f 0 : Int) = 240 + c / 262144 := hf 0 (by simp)
        have f1 : (f 1 : Int) = 128 + c / 4096 % 64 := hf 1 (by simp)
        have f2 : (f 2 : Int) = 128 + c / 64 % 64 := hf 2 (by simp)
        have f3 : (f 3 : Int) = 128 + c % 64 := hf 3 (by simp)
        have ha : accC ((f 0 : Int) - 240) f 3 = c := by simp only [accC, Nat.reduceAdd]; omega
        have ho : okC f 3 = true := by simp only [okC, Nat.reduceAdd, Bool.and_eq_true, decide_eq_true_eq, Bool.true_and]; omega
        have hs2 : ¬ sz < 4 := by simp at hsz; omega
        unfold rdec mulDec
        rw [if_neg (by omega), if_neg (by omega), if_neg (by omega), if_pos (by omega), if_neg hs2]
        simp only [Nat.reduceSub, ha, ho, hc]
        rw [if_neg (by simp), if_neg (by simp), if_neg (by rw [size4.2 (by omega)]; simp)]
        rfl
end Go.Proofs.YtimpdfafodaadaaDoor

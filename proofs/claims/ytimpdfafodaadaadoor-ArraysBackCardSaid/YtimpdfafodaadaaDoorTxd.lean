/-
  The rune at the beginning of a string, as the reference reads it; it is the model's own. No program in sight.
-/
import Derived.Lib.DecodeN
import Derived.Test.YtimpdfafodaadaaDoorSpec
namespace Go.Proofs.YtimpdfafodaadaaDoor
def sizeI (c : Int) : Int := if c < 128 then 1 else if c < 2048 then 2 else if c < 65536 then 3 else 4
/-- What is gathered behind k bytes more. -/
def accC (c0 : Int) (f : Nat → Nat) : Nat → Int
  | 0 => c0
  | k + 1 => 64 * accC c0 f k + ((f (k + 1) : Int) - 128)
def okC (f : Nat → Nat) : Nat → Bool
  | 0 => true
  | k + 1 => okC f k && (decide (128 ≤ f (k + 1)) && decide (f (k + 1) < 192))
def mulDec (sz N : Nat) (c0 : Int) (f : Nat → Nat) : Int × Int :=
  if sz < N then (0, 0)
  else if okC f (N - 1) = false then (0, 0)
  else if isRune (accC c0 f (N - 1)) = false then (0, 0)
  else if sizeI (accC c0 f (N - 1)) ≠ N then (0, 0)
  else (accC c0 f (N - 1), N)
def rdec (sz : Nat) (f : Nat → Nat) : Int × Int :=
  if f 0 < 128 then (f 0, 1)
  else if 192 ≤ f 0 ∧ f 0 < 224 then mulDec sz 2 ((f 0 : Int) - 192) f
  else if 224 ≤ f 0 ∧ f 0 < 240 then mulDec sz 3 ((f 0 : Int) - 224) f
  else if 240 ≤ f 0 ∧ f 0 < 248 then mulDec sz 4 ((f 0 : Int) - 240) f
  else (0, 0)
theorem accC_bound {c0 : Int} {f : Nat → Nat} (h0 : 0 ≤ c0) (h1 : c0 < 32) : ∀ k, k ≤ 3 → okC f k = true → 0 ≤ accC c0 f k ∧ accC c0 f k < 10000000 := by
  have step : ∀ k (B : Int), 0 ≤ accC c0 f k → accC c0 f k < B → okC f (k + 1) = true → 0 ≤ accC c0 f (k + 1) ∧ accC c0 f (k + 1) < 64 * B := by
    intro k B ha hb hok
    simp only [okC, Bool.and_eq_true, decide_eq_true_eq] at hok
    simp only [accC]
    omega
  have o1 : ∀ k, okC f (k + 1) = true → okC f k = true := by
    intro k h
    simp only [okC, Bool.and_eq_true] at h
    exact h.1
  intro k hk hok
  have a0 : 0 ≤ accC c0 f 0 ∧ accC c0 f 0 < 32 := ⟨h0, h1⟩
  match k, hk, hok with
  | 0, _, _ => exact ⟨h0, by simp only [accC]; omega⟩
  | 1, _, h =>
    have : 0 ≤ accC c0 f 1 ∧ accC c0 f 1 < 64 * 32 := step 0 32 a0.1 a0.2 h
    omega
  | 2, _, h =>
    have a1 : 0 ≤ accC c0 f 1 ∧ accC c0 f 1 < 64 * 32 := step 0 32 a0.1 a0.2 (o1 1 h)
    have : 0 ≤ accC c0 f 2 ∧ accC c0 f 2 < 64 * (64 * 32) := step 1 (64 * 32) a1.1 a1.2 h
    omega
  | 3, _, h =>
    have a1 : 0 ≤ accC c0 f 1 ∧ accC c0 f 1 < 64 * 32 := step 0 32 a0.1 a0.2 (o1 1 (o1 2 h))
    have a2 : 0 ≤ accC c0 f 2 ∧ accC c0 f 2 < 64 * (64 * 32) := step 1 (64 * 32) a1.1 a1.2 (o1 2 h)
    have : 0 ≤ accC c0 f 3 ∧ accC c0 f 3 < 64 * (64 * (64 * 32)) := step 2 (64 * (64 * 32)) a2.1 a2.2 h
    omega
theorem rune_iff (c : Int) : isRune c = true ↔ (0 ≤ c ∧ c ≤ 1114111 ∧ (c < 55296 ∨ 57343 < c)) := by
  simp [isRune, and_assoc]
theorem size2 {c : Int} : sizeI c = 2 ↔ (128 ≤ c ∧ c < 2048) := by
  unfold sizeI
  constructor
  · intro h
    split at h
    · cases h
    · split at h
      · omega
      · split at h <;> cases h
  · intro h
    rw [if_neg (by omega), if_pos h.2]
theorem size3 {c : Int} : sizeI c = 3 ↔ (2048 ≤ c ∧ c < 65536) := by
  unfold sizeI
  constructor
  · intro h
    split at h
    · cases h
    · split at h
      · cases h
      · split at h
        · omega
        · cases h
  · intro h
    rw [if_neg (by omega), if_neg (by omega), if_pos h.2]
theorem size4 {c : Int} : sizeI c = 4 ↔ 65536 ≤ c := by
  unfold sizeI
  constructor
  · intro h
    split at h
    · cases h
    · split at h
      · cases h
      · split at h
        · cases h
        · omega
  · intro h
    rw [if_neg (by omega), if_neg (by omega), if_neg (by omega)]
theorem mul_fin {sz N v : Nat} {c0 : Int} {f : Nat → Nat} {P : Prop} [Decidable P] {D : Nat × Nat} (hN : 2 ≤ N) (hsz : N ≤ sz) (hok : okC f (N - 1) = true) (hC : accC c0 f (N - 1) = v) (hP : P ↔ (isRune v = true ∧ sizeI v = N)) (hD : D = if P then (v, N) else (65533, 1)) :
    mulDec sz N c0 f = if D.1 = 65533 ∧ D.2 < 2 then (0, 0) else ((D.1 : Int), (D.2 : Int)) := by
  by_cases hp : P
  · rw [if_pos hp] at hD
    have hr : (if D.1 = 65533 ∧ D.2 < 2 then ((0 : Int), (0 : Int)) else ((D.1 : Int), (D.2 : Int))) = ((v : Int), (N : Int)) := by
      rw [hD]
      exact if_neg (fun h => by have := h.2; omega)
    rw [hr]
    unfold mulDec
    rw [if_neg (by omega), if_neg (by rw [hok]; simp), hC, if_neg (by rw [(hP.1 hp).1]; simp), if_neg (by rw [(hP.1 hp).2]; simp)]
  · rw [if_neg hp] at hD
    have hr : (if D.1 = 65533 ∧ D.2 < 2 then ((0 : Int), (0 : Int)) else ((D.1 : Int), (D.2 : Int))) = (0, 0) := by
      rw [hD]
      exact if_pos (by simp)
    rw [hr]
    unfold mulDec
    rw [if_neg (by omega), if_neg (by rw [hok]; simp), hC]
    by_cases hr : isRune (v : Int) = false
    · rw [if_pos hr]
    · rw [if_neg hr]
      rw [if_pos]
      intro h
      exact hp (hP.2 ⟨by simpa using hr, h⟩)
theorem mul_bad {sz N : Nat} {c0 : Int} {f : Nat → Nat} {D : Nat × Nat} (h : sz < N ∨ okC f (N - 1) = false) (hD : D = (65533, 1)) :
    mulDec sz N c0 f = if D.1 = 65533 ∧ D.2 < 2 then (0, 0) else ((D.1 : Int), (D.2 : Int)) := by
  have hr : (if D.1 = 65533 ∧ D.2 < 2 then ((0 : Int), (0 : Int)) else ((D.1 : Int), (D.2 : Int))) = (0, 0) := by
    rw [hD]
    exact if_pos (by simp)
  rw [hr]
  unfold mulDec
  by_cases h1 : sz < N
  · rw [if_pos h1]
  · rw [if_neg h1, if_pos (h.resolve_left h1)]
/-- The reference's reading is the model's: where the model finds no form (U+FFFD, one byte), there is none. -/
theorem rdec_eq (sz : Nat) (f : Nat → Nat) (hb : ∀ k, f k < 256) :
    rdec sz f = (if (Lib.decodeN sz (f 0) (f 1) (f 2) (f 3)).1 = 65533 ∧ (Lib.decodeN sz (f 0) (f 1) (f 2) (f 3)).2 < 2 then (0, 0) else (((Lib.decodeN sz (f 0) (f 1) (f 2) (f 3)).1 : Int), ((Lib.decodeN sz (f 0) (f 1) (f 2) (f 3)).2 : Int))) := by
  have h0 := hb 0
  have h1 := hb 1
  have h2 := hb 2
  have h3 := hb 3
  unfold rdec
  by_cases c0 : f 0 < 128
  · have hd : Lib.decodeN sz (f 0) (f 1) (f 2) (f 3) = (f 0, 1) := by unfold Lib.decodeN; rw [if_pos c0]
    rw [if_pos c0, hd, if_neg (by simp only; omega)]
    rfl
  rw [if_neg c0]
  by_cases c1 : 192 ≤ f 0 ∧ f 0 < 224
  · rw [if_pos c1]
    by_cases hk : 2 ≤ sz ∧ 128 ≤ f 1 ∧ f 1 < 192
    · obtain ⟨hsz, hk1, hk2⟩ := hk
      refine mul_fin (v := f 0 % 32 * 64 + f 1 % 64) (P := f 0 % 32 * 64 + f 1 % 64 ≥ 128) (by omega) hsz (by simp [okC]; omega) (by show 64 * ((f 0 : Int) - 192) + ((f 1 : Int) - 128) = _; omega) ?_ ?_
      · rw [rune_iff]
        constructor
        · intro h
          exact ⟨by omega, size2.2 (by omega)⟩
        · intro h
          have := size2.1 h.2
          omega
      · unfold Lib.decodeN
        rw [if_neg c0, if_pos (by omega)]
    · refine mul_bad (by simp [okC]; omega) ?_
      unfold Lib.decodeN
      rw [if_neg c0, if_neg (by omega), if_neg (by omega), if_neg (by omega)]
  rw [if_neg c1]
  by_cases c2 : 224 ≤ f 0 ∧ f 0 < 240
  · rw [if_pos c2]
    by_cases hk : 3 ≤ sz ∧ 128 ≤ f 1 ∧ f 1 < 192 ∧ 128 ≤ f 2 ∧ f 2 < 192
    · obtain ⟨hsz, hk1, hk2, hk3, hk4⟩ := hk
      refine mul_fin (v := f 0 % 16 * 4096 + f 1 % 64 * 64 + f 2 % 64) (P := f 0 % 16 * 4096 + f 1 % 64 * 64 + f 2 % 64 ≥ 2048 ∧ (f 0 % 16 * 4096 + f 1 % 64 * 64 + f 2 % 64 < 55296 ∨ (57344 ≤ f 0 % 16 * 4096 + f 1 % 64 * 64 + f 2 % 64 ∧ f 0 % 16 * 4096 + f 1 % 64 * 64 + f 2 % 64 ≤ 1114111))) (by omega) hsz (by simp [okC]; omega) (by show 64 * (64 * ((f 0 : Int) - 224) + ((f 1 : Int) - 128)) + ((f 2 : Int) - 128) = _; omega) ?_ ?_
      · rw [rune_iff]
        constructor
        · intro h
          exact ⟨by omega, size3.2 (by omega)⟩
        · intro h
          have := size3.1 h.2
          omega
      · unfold Lib.decodeN
        rw [if_neg c0, if_neg (by omega), if_pos (by omega)]
    · refine mul_bad (by simp [okC]; omega) ?_
      unfold Lib.decodeN
      rw [if_neg c0, if_neg (by omega), if_neg (by omega), if_neg (by omega)]
  rw [if_neg c2]
  by_cases c3 : 240 ≤ f 0 ∧ f 0 < 248
  · rw [if_pos c3]
    by_cases hk : 4 ≤ sz ∧ 128 ≤ f 1 ∧ f 1 < 192 ∧ 128 ≤ f 2 ∧ f 2 < 192 ∧ 128 ≤ f 3 ∧ f 3 < 192
    · obtain ⟨hsz, hk1, hk2, hk3, hk4, hk5, hk6⟩ := hk
      refine mul_fin (v := f 0 % 8 * 262144 + f 1 % 64 * 4096 + f 2 % 64 * 64 + f 3 % 64) (P := f 0 % 8 * 262144 + f 1 % 64 * 4096 + f 2 % 64 * 64 + f 3 % 64 ≥ 65536 ∧ (f 0 % 8 * 262144 + f 1 % 64 * 4096 + f 2 % 64 * 64 + f 3 % 64 < 55296 ∨ (57344 ≤ f 0 % 8 * 262144 + f 1 % 64 * 4096 + f 2 % 64 * 64 + f 3 % 64 ∧ f 0 % 8 * 262144 + f 1 % 64 * 4096 + f 2 % 64 * 64 + f 3 % 64 ≤ 1114111))) (by omega) hsz (by simp [okC]; omega) (by show 64 * (64 * (64 * ((f 0 : Int) - 240) + ((f 1 : Int) - 128)) + ((f 2 : Int) - 128)) + ((f 3 : Int) - 128) = _; omega) ?_ ?_
      · rw [rune_iff]
        constructor
        · intro h
          exact ⟨by omega, size4.2 (by omega)⟩
        · intro h
          have := size4.1 h.2
          omega
      · unfold Lib.decodeN
        rw [if_neg c0, if_neg (by omega), if_neg (by omega), if_pos (by omega)]
    · refine mul_bad (by simp [okC]; omega) ?_
      unfold Lib.decodeN
      rw [if_neg c0, if_neg (by omega), if_neg (by omega), if_neg (by omega)]
  rw [if_neg c3]
  have hd : Lib.decodeN sz (f 0) (f 1) (f 2) (f 3) = (65533, 1) := by
    unfold Lib.decodeN
    rw [if_neg c0, if_neg (by omega), if_neg (by omega), if_neg (by omega)]
  rw [hd, if_pos (by simp)]
end Go.Proofs.YtimpdfafodaadaaDoor

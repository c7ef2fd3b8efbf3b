/-
  The law ShapesSame: it returns true.
-/
import Derived.Test.YteegipfgbcnfkaaDoorLsan5
namespace Go.Proofs.YteegipfgbcnfkaaDoor
open Go.RowKit

theorem fits_swap (ra a0 a1 rb b0 b1 : Int) : ∃ a x y e f, sFits ra a0 a1 rb b0 b1 = (a, x, y, e) ∧ sFits rb b0 b1 ra a0 a1 = (a, x, y, f) ∧ ((e = 0 ∧ f = 0) ∨ (e ≠ 0 ∧ f ≠ 0)) ∧ (shp ra a0 a1 ≠ 0 → e ≠ 0) := by
  by_cases ha : shp ra a0 a1 = 0
  · by_cases hb : shp rb b0 b1 = 0
    · by_cases h1 : rb = 0
      · by_cases h2 : ra = 0
        · subst h1 h2
          obtain ⟨rfl, rfl⟩ : a0 = 0 ∧ a1 = 0 := by rcases shp_ok ha with h | h | h <;> omega
          obtain ⟨rfl, rfl⟩ : b0 = 0 ∧ b1 = 0 := by rcases shp_ok hb with h | h | h <;> omega
          refine ⟨0, 0, 0, 0, 0, ?_, ?_, .inl ⟨rfl, rfl⟩, fun h => absurd ha h⟩ <;> rfl
        · subst h1
          refine ⟨ra, a0, a1, 0, 0, ?_, ?_, .inl ⟨rfl, rfl⟩, fun h => absurd ha h⟩
          · unfold sFits
            rw [if_neg (fun h => h ha), if_neg (fun h => h hb), if_pos rfl]
          · unfold sFits
            rw [if_neg (fun h => h hb), if_neg (fun h => h ha), if_neg h2, if_pos rfl]
      · by_cases h2 : ra = 0
        · subst h2
          refine ⟨rb, b0, b1, 0, 0, ?_, ?_, .inl ⟨rfl, rfl⟩, fun h => absurd ha h⟩
          · unfold sFits
            rw [if_neg (fun h => h ha), if_neg (fun h => h hb), if_neg h1, if_pos rfl]
          · unfold sFits
            rw [if_neg (fun h => h hb), if_neg (fun h => h ha), if_pos rfl]
        · by_cases h3 : ra = rb
          · subst h3
            by_cases h4 : a0 = b0 ∧ a1 = b1
            · obtain ⟨rfl, rfl⟩ := h4
              refine ⟨ra, a0, a1, 0, 0, ?_, ?_, .inl ⟨rfl, rfl⟩, fun h => absurd ha h⟩
              · simp [sFits, ha, h1]
              · simp [sFits, ha, h1]
            · have h5 : a0 ≠ b0 ∨ a1 ≠ b1 := by omega
              have h6 : b0 ≠ a0 ∨ b1 ≠ a1 := by omega
              refine ⟨0, 0, 0, 11, 11, ?_, ?_, .inr ⟨by decide, by decide⟩, fun h => absurd ha h⟩
              · unfold sFits
                rw [if_neg (fun h => h ha), if_neg (fun h => h hb), if_neg h1, if_neg h1, if_neg (fun h => h rfl), if_pos h5]
              · unfold sFits
                rw [if_neg (fun h => h hb), if_neg (fun h => h ha), if_neg h1, if_neg h1, if_neg (fun h => h rfl), if_pos h6]
          · refine ⟨0, 0, 0, 6, 6, ?_, ?_, .inr ⟨by decide, by decide⟩, fun h => absurd ha h⟩
            · unfold sFits
              rw [if_neg (fun h => h ha), if_neg (fun h => h hb), if_neg h1, if_neg h2, if_pos h3]
            · unfold sFits
              rw [if_neg (fun h => h hb), if_neg (fun h => h ha), if_neg h2, if_neg h1, if_pos (fun h => h3 h.symm)]
    · refine ⟨0, 0, 0, shp rb b0 b1, shp rb b0 b1, ?_, ?_, .inr ⟨hb, hb⟩, fun h => absurd ha h⟩
      · unfold sFits
        rw [if_neg (fun h => h ha), if_pos hb]
      · unfold sFits
        rw [if_pos hb]
  · by_cases hb : shp rb b0 b1 = 0
    · refine ⟨0, 0, 0, shp ra a0 a1, shp ra a0 a1, ?_, ?_, .inr ⟨ha, ha⟩, fun _ => ha⟩
      · unfold sFits
        rw [if_pos ha]
      · unfold sFits
        rw [if_neg (fun h => h hb), if_pos ha]
    · refine ⟨0, 0, 0, shp ra a0 a1, shp rb b0 b1, ?_, ?_, .inr ⟨ha, hb⟩, fun _ => ha⟩
      · unfold sFits
        rw [if_pos ha]
      · unfold sFits
        rw [if_pos hb]
theorem fits_own {r a b : Int} (h : shp r a b = 0) : sFits r a b r a b = (r, a, b, 0) := by
  unfold sFits
  rw [if_neg (fun g => g h), if_neg (fun g => g h)]
  by_cases h0 : r = 0
  · rw [if_pos h0]
  · rw [if_neg h0, if_neg h0, if_neg (fun g => g rfl), if_neg (by omega)]
theorem fits_scalar {r a b : Int} (h : shp r a b = 0) : sFits 0 0 0 r a b = (r, a, b, 0) := by
  have h0 : shp 0 0 0 = 0 := rfl
  by_cases hr : r = 0
  · subst hr
    have g : a = 0 ∧ b = 0 := by rcases shp_ok h with h | h | h <;> omega
    obtain ⟨rfl, rfl⟩ := g
    simp [sFits, h]
  · simp [sFits, h, h0, hr]
theorem shp_swap {a b : Int} (h : shp 2 a b = 0) : shp 2 b a = 0 := by
  rcases shp_ok h with g | g | ⟨_, h1, h2, h3, h4, h5⟩
  · omega
  · omega
  unfold shp
  rw [if_neg (by omega), if_neg (by omega), if_neg (by omega), if_neg]
  simp only [prodI, if_true]
  rw [Int.mul_comm]
  omega
theorem lawSame (rs s0 s1 rt t0 t1 : Int) (w : World) :
    Calls Tryd.prog 10 #[.agg #[.int .i64 rs, .int .i64 s0, .int .i64 s1], .agg #[.int .i64 rt, .int .i64 t0, .int .i64 t1]] w fun e w' => e = .returned (.bool true) ∧ Below w.heap.size w w' := by
  obtain ⟨a, x, y, e, f, hA, hB, hef, hbad⟩ := fits_swap rs s0 s1 rt t0 t1
  by_cases hC : shp rs s0 s1 = 0
  · have hO := fits_own hC
    have hW := fits_scalar hC
    rcases shp_ok hC with ⟨rfl, h1, h2⟩ | ⟨rfl, h1, h2, h3⟩ | ⟨rfl, h1, h2, h3, h4, h5⟩
    · have hR : sRows 0 s0 s1 = (1, 1, 0) := by simp [sRows, hC]
      have hL : sLens 0 [] = (s0, s1, 0) := by subst h1 h2; rfl
      have hG : sFlipS 0 s0 s1 = (0, 0, 6) := by simp [sFlipS, hC]
      rcases hef with ⟨rfl, rfl⟩ | ⟨he, hf⟩
      · exact same_ok0 s0 s1 rt t0 t1 a x y w hA hB hC hR hO hW rfl hL hG
      · exact same_no0 s0 s1 rt t0 t1 a x y e f w hA hB he hf hC hR hO hW rfl hL hG
    · have hR : sRows 1 s0 s1 = (1, s0, 0) := by simp [sRows, hC]
      have hL : sLens 1 [s0] = (s0, s1, 0) := by subst h3; simp [sLens, hC]
      have hG : sFlipS 1 s0 s1 = (0, 0, 6) := by simp [sFlipS, hC]
      rcases hef with ⟨rfl, rfl⟩ | ⟨he, hf⟩
      · exact same_ok1 s0 s1 rt t0 t1 a x y w hA hB hC h1 h2 hR hO hW rfl hL hG
      · exact same_no1 s0 s1 rt t0 t1 a x y e f w hA hB he hf hC h1 h2 hR hO hW rfl hL hG
    · have hR : sRows 2 s0 s1 = (s0, s1, 0) := by simp [sRows, hC]
      have hL : sLens 2 [s0, s1] = (s0, s1, 0) := by simp [sLens, hC]
      have hG : sFlipS 2 s0 s1 = (s1, s0, 0) := by simp [sFlipS, hC]
      have hG2 : sFlipS 2 s1 s0 = (s0, s1, 0) := by simp [sFlipS, shp_swap hC]
      have hM : wrap64 (s0 * s1) = prodI 2 s0 s1 := by
        have h6 := Int.mul_nonneg h1 h3
        simp only [prodI, if_true]
        unfold wrap64
        omega
      rcases hef with ⟨rfl, rfl⟩ | ⟨he, hf⟩
      · exact same_ok2 s0 s1 rt t0 t1 a x y w hA hB hC _ hR hO hW rfl hL hG hG2 hM
      · exact same_no2 s0 s1 rt t0 t1 a x y e f w hA hB he hf hC _ hR hO hW rfl hL hG hG2 hM
  · have he := hbad hC
    have hf : f ≠ 0 := by rcases hef with ⟨h, _⟩ | ⟨_, h⟩; exact absurd h he; exact h
    exact same_bad rs s0 s1 rt t0 t1 a x y e f w hA hB he hf _ rfl (by simpa using hC)
end Go.Proofs.YteegipfgbcnfkaaDoor

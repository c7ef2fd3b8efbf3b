/-
  Plain laws of Take, Drop and Cat of vectors. No program in sight.
-/
import Derived.Test.YtoapgknkenlcgaaMjoin
namespace Go.Proofs.Ytoapgknkenlcgaa
open Go.RowKit

theorem okA_vec {k : Int} {c : List Int} (hk : k = 1 ∨ k = 2) (hc : c.length ≤ 400) (ha : ∀ x ∈ c, rightB k x = true) : okA (vecA k c) 1 c.length := by
  refine ⟨achk_mk hk (shp_vec hc) (by simp [vecA, prodI]) ha, by simp [vecA], by omega, hc, .inl ⟨rfl, rfl, rfl, rfl⟩⟩
theorem vec_eq {a : Arr} (h : chkA a = 0) (hr : a.r = 1) : a = vecA a.k a.c := by
  obtain ⟨h1, h2⟩ := vector_len h hr
  exact arr_ext rfl hr h1.symm h2 rfl
theorem cat_vec {k : Int} {c d : List Int} (hk : k = 1 ∨ k = 2) (hc : ∀ x ∈ c, rightB k x = true) (hd : ∀ x ∈ d, rightB k x = true) (hl : c.length + d.length ≤ 400) : sCat (vecA k c) (vecA k d) = (vecA k (c ++ d), 0) := by
  rw [sCat_ok (okA_vec hk (by omega) hc) (okA_vec hk (by omega) hd) rfl rfl (show (1 : Int) ≠ 0 by decide) hl hl]
  congr 1
  have h1 := catL_one (xs := c) (ys := d) (q := c.length) (q' := d.length) (by omega) (by omega)
  unfold catA vecA
  simp only [if_true]
  rw [h1, List.length_append]
  simp
/-- An int scalar and a vector are what Take and Drop want. -/
theorem two_scalar {x : Int} {v : Arr} (h : chkA v = 0) (hr : v.r = 1) : twoE ⟨1, 0, 0, 0, [x]⟩ v 0 1 = 0 := by
  have h1 : achk 1 0 0 0 [x] = 0 := by
    refine achk_mk (.inl rfl) (by decide) (by simp [prodI]) fun y _ => ?_
    simp [rightB]
  have h2 : achk v.k v.r v.l0 v.l1 v.c = 0 := h
  have h3 : orE (achk 1 0 0 0 [x]) (achk v.k v.r v.l0 v.l1 v.c) = 0 := by unfold orE; rw [if_pos h1, h2]
  unfold twoE
  simp only
  rw [h3, if_neg (fun h => h rfl), if_neg (fun h => h rfl), if_neg (fun h => h.elim (fun h => h rfl) (fun h => h hr))]
/-- What the law asks of a vector a, a number x and an array b. -/
theorem parts_law {a b : Arr} {x : Int} (ha : chkA a = 0) (hr : a.r = 1) :
    ∃ t d : Arr, sTake ⟨1, 0, 0, 0, [x]⟩ a = (t, 0) ∧ sDrop ⟨1, 0, 0, 0, [x]⟩ a = (d, 0) ∧ (if x < 0 then sCat d t = (a, 0) else sCat t d = (a, 0)) ∧
      (∀ c, sCat a b = (c, 0) → sTake ⟨1, 0, 0, 0, [(a.c.length : Int)]⟩ c = (a, 0) ∧ sDrop ⟨1, 0, 0, 0, [(a.c.length : Int)]⟩ c = (b, 0)) := by
  have h2 := two_scalar (x := x) ha hr
  obtain ⟨hk, _, _, _⟩ := achk_ok ha
  have hl := achk_len ha
  have hall := achk_all ha
  have hv := vec_eq ha hr
  have hle := cutAt_le x a.c.length
  have hcat : sCat (vecA a.k (a.c.take (cutAt x a.c.length))) (vecA a.k (a.c.drop (cutAt x a.c.length))) = (a, 0) := by
    rw [cat_vec hk (fun y hy => hall y (List.mem_of_mem_take hy)) (fun y hy => hall y (List.mem_of_mem_drop hy)) (by rw [List.length_take, List.length_drop]; omega), List.take_append_drop, ← hv]
  refine ⟨_, _, sTake_ok h2 rfl, sDrop_ok h2 rfl, ?_, fun c hc => ?_⟩
  · by_cases hx : x < 0
    · rw [if_pos hx, if_pos hx, if_pos hx]; exact hcat
    · rw [if_neg hx, if_neg hx, if_neg hx]; exact hcat
  · have he : catE a b = 0 := by
      by_cases e : catE a b = 0
      · exact e
      · rw [sCat_err e] at hc
        exact absurd (congrArg Prod.snd hc) e
    obtain ⟨m, q, q', oa, ob, hkb, hrb, _, hlen, hqq⟩ := catE_zero he
    have hb : chkA b = 0 := ob.1
    have hvb := vec_eq hb (by rw [← hrb]; exact hr)
    have hallb := achk_all ob.1
    have hc2 : sCat a b = (vecA a.k (a.c ++ b.c), 0) := by
      rw [hv, hvb, ← hkb]
      exact cat_vec hk hall (by rw [hkb]; exact hallb) hlen
    rw [hc2] at hc
    have hce := congrArg Prod.fst hc
    simp only at hce
    have hcc : chkA c = 0 := by
      rw [← hce]
      exact (okA_vec hk (by rw [List.length_append]; exact hlen) (fun y hy => (List.mem_append.1 hy).elim (hall y) (fun h => by rw [hkb]; exact hallb y h))).1
    have hcr : c.r = 1 := by rw [← hce]; rfl
    have h3 := two_scalar (x := (a.c.length : Int)) hcc hcr
    have hcut : cutAt (a.c.length : Int) c.c.length = a.c.length := by
      have : c.c = a.c ++ b.c := by rw [← hce]; rfl
      unfold cutAt
      rw [if_neg (by omega), this, List.length_append]
      omega
    rw [sTake_ok h3 rfl, sDrop_ok h3 rfl, hcut, if_neg (by omega), if_neg (by omega)]
    constructor
    · rw [← hce]
      show (vecA a.k ((a.c ++ b.c).take a.c.length), (0 : Int)) = (a, 0)
      rw [List.take_left' rfl, ← hv]
    · rw [← hce]
      show (vecA a.k ((a.c ++ b.c).drop a.c.length), (0 : Int)) = (b, 0)
      rw [List.drop_left' rfl, hkb, ← hvb]
end Go.Proofs.Ytoapgknkenlcgaa

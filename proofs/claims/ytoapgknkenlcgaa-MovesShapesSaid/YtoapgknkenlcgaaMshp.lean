/-
  Plain laws of Grid, Ravel and Fill. No program in sight.
-/
import Derived.Test.YtoapgknkenlcgaaMpart
namespace Go.Proofs.Ytoapgknkenlcgaa
open Go.RowKit

theorem two_pair {a b : Int} {v : Arr} (h : chkA v = 0) (hr : v.r = 1) : twoE ⟨1, 1, 2, 0, [a, b]⟩ v 1 1 = 0 := by
  have h1 : achk 1 1 2 0 [a, b] = 0 := by
    refine achk_mk (.inl rfl) (by decide) (by simp [prodI]) fun y _ => ?_
    simp [rightB]
  have h2 : achk v.k v.r v.l0 v.l1 v.c = 0 := h
  have h3 : orE (achk 1 1 2 0 [a, b]) (achk v.k v.r v.l0 v.l1 v.c) = 0 := by unfold orE; rw [if_pos h1, h2]
  unfold twoE
  simp only
  rw [h3, if_neg (fun h => h rfl), if_neg (fun h => h rfl), if_neg (fun h => h.elim (fun h => h rfl) (fun h => h hr))]
theorem two_scalars {x k h : Int} (hk : k = 1 ∨ k = 2) (hh : rightB k h = true) : twoE ⟨1, 0, 0, 0, [x]⟩ ⟨k, 0, 0, 0, [h]⟩ 0 0 = 0 := by
  have h1 : achk 1 0 0 0 [x] = 0 := by
    refine achk_mk (.inl rfl) (by decide) (by simp [prodI]) fun y _ => ?_
    simp [rightB]
  have h2 : achk k 0 0 0 [h] = 0 := by
    refine achk_mk hk (by decide) (by simp [prodI]) fun y hy => ?_
    rw [List.mem_singleton] at hy
    rw [hy]
    exact hh
  have h3 : orE (achk 1 0 0 0 [x]) (achk k 0 0 0 [h]) = 0 := by unfold orE; rw [if_pos h1, h2]
  unfold twoE
  simp only
  rw [h3, if_neg (fun h => h rfl), if_neg (fun h => h rfl), if_neg (fun h => h.elim (fun h => h rfl) (fun h => h rfl))]
theorem lensE_small {a b : Int} (ha : 0 ≤ a) (hb : 0 ≤ b) (ha4 : a ≤ 400) (hb4 : b ≤ 400) : lensE [a, b] = if 400 < a * b then 15 else 0 := by
  unfold lensE
  simp only [List.length_cons, List.length_nil, List.getD_cons_zero, List.getD_cons_succ]
  rw [if_neg (by decide), if_neg (by omega)]
  by_cases h : 400 < a * b
  · rw [if_pos h, if_pos (.inr (.inr h))]
  · rw [if_neg h, if_neg (by omega)]
theorem grid_pair {a b : Int} {v : Arr} (h : chkA v = 0) (hr : v.r = 1) (ha : 0 ≤ a) (hb : 0 ≤ b) (ha4 : a ≤ 400) (hb4 : b ≤ 400) :
    sGrid ⟨1, 1, 2, 0, [a, b]⟩ v = if 400 < a * b then (zA, 15) else if v.c.length = 0 ∧ 0 < a * b then (zA, 13) else (matA v.k a b (again v.c (a * b).toNat), 0) := by
  unfold sGrid
  rw [if_neg (fun g => g (two_pair h hr))]
  simp only [List.getD_cons_zero, List.getD_cons_succ]
  rw [lensE_small ha hb ha4 hb4]
  by_cases h4 : 400 < a * b
  · rw [if_pos h4, if_pos h4, if_pos (by decide)]
  · rw [if_neg h4, if_neg h4, if_neg (by decide)]
theorem again_mem {c : List Int} {n : Nat} (h0 : n = 0 ∨ 0 < c.length) : ∀ x ∈ again c n, x ∈ c := by
  intro x hx
  unfold again at hx
  obtain ⟨i, hi, rfl⟩ := List.mem_map.1 hx
  have hi2 := List.mem_range.1 hi
  have hc : 0 < c.length := by rcases h0 with h | h; omega; exact h
  exact getD_mem (Nat.mod_lt _ hc)
theorem again_all (c : List Int) : again c c.length = c :=
  (again_of rfl fun i hi => by rw [Nat.mod_eq_of_lt hi]).symm
theorem again_rep (h : Int) (n : Nat) : again [h] n = List.replicate n h := by
  refine (again_of (by simp) fun i hi => ?_).symm
  simp [Nat.mod_one, hi]
theorem again_getD {c : List Int} {n j : Nat} (hj : j < n) : (again c n).getD j 0 = c.getD (j % c.length) 0 := by
  simp [again, hj]
/-- A matrix: its Ravel, and the Grid of that. -/
theorem ravel_grid {k u v : Int} {xs : List Int} {n : Nat} (h : achk k 2 u v xs = 0) (hn : xs.length = n) :
    sRavel ⟨k, 2, u, v, xs⟩ = (⟨k, 1, (n : Int), 0, xs⟩, 0) ∧ sGrid ⟨1, 1, 2, 0, [u, v]⟩ ⟨k, 1, (n : Int), 0, xs⟩ = (⟨k, 2, u, v, xs⟩, 0) := by
  obtain ⟨hk, hs, hl, _⟩ := achk_ok h
  have hall := achk_all h
  have hlen := achk_len h
  have hp : prodI 2 u v = u * v := by simp [prodI]
  rcases shp_ok hs with ⟨g, _⟩ | ⟨g, _⟩ | ⟨_, h1, h2, h3, h4, h5⟩
  · omega
  · omega
  have hv : chkA ⟨k, 1, (n : Int), 0, xs⟩ = 0 := by
    have := (okA_vec (c := xs) hk hlen hall).1
    rw [← hn]
    exact this
  refine ⟨?_, ?_⟩
  · unfold sRavel
    rw [if_neg (fun g => g h)]
    unfold vecA
    rw [hn]
  · rw [grid_pair hv rfl h1 h3 h2 h4, if_neg (by omega), if_neg (by simp only; omega)]
    have e : (u * v).toNat = xs.length := by omega
    unfold matA
    simp only
    rw [e, again_all]
/-- A matrix of cells that are right is an array. -/
theorem chk_mat {k : Int} {x y : Nat} {gs : List Int} (hk : k = 1 ∨ k = 2) (hx : x ≤ 400) (hy : y ≤ 400) (hxy : x * y ≤ 400) (hl : gs.length = x * y) (ha : ∀ z ∈ gs, rightB k z = true) : achk k 2 (x : Int) (y : Int) gs = 0 := by
  have e : ((x * y : Nat) : Int) = (x : Int) * (y : Int) := by simp
  refine achk_mk hk ?_ ?_ ha
  · unfold shp prodI
    rw [if_neg (by omega), if_neg (by omega), if_neg (by omega), if_neg]
    rw [if_pos rfl]
    omega
  · simp only [prodI, if_true]
    omega
end Go.Proofs.Ytoapgknkenlcgaa

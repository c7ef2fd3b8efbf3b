/-
  Plain laws of Reverse, Flip, turns. No program in sight.
-/
import Derived.Test.YtoapgknkenlcgaaMrev
namespace Go.Proofs.Ytoapgknkenlcgaa
open Go.RowKit

theorem achk_mk {k r l0 l1 : Int} {xs : List Int} (hk : k = 1 ∨ k = 2) (hs : shp r l0 l1 = 0) (hl : (xs.length : Int) = prodI r l0 l1) (ha : ∀ x ∈ xs, rightB k x = true) : achk k r l0 l1 xs = 0 := by
  unfold achk
  rw [if_neg (by omega), if_neg (fun h => h hs), if_neg (fun h => h hl), if_neg]
  rw [List.any_eq_true]
  rintro ⟨x, hx, h⟩
  rw [ha x hx] at h
  cases h
theorem achk_all {k r l0 l1 : Int} {xs : List Int} (h : achk k r l0 l1 xs = 0) : ∀ x ∈ xs, rightB k x = true := by
  obtain ⟨_, _, _, h4⟩ := achk_ok h
  intro x hx
  rw [List.any_eq_false] at h4
  have := h4 x hx
  simpa using this
/-- Rows turned round. -/
def rv (m q : Nat) (xs : List Int) : List Int := (List.range m).flatMap fun i => ((xs.drop (i * q)).take q).reverse
/-- Axes exchanged. -/
def fl (m q : Nat) (xs : List Int) : List Int := (List.range q).flatMap fun j => (List.range m).map fun i => xs.getD (i * q + j) 0
/-- A quarter turn. -/
def tn (m q : Nat) (xs : List Int) : List Int := rv q m (fl m q xs)
theorem rv_rows {m q : Nat} {xs : List Int} (hl : xs.length = m * q) : ∀ i, i < m → (((xs.drop (i * q)).take q).reverse).length = q := fun i hi => by rw [List.length_reverse]; exact rowOf_len hl hi
theorem rv_len {m q : Nat} {xs : List Int} (hl : xs.length = m * q) : (rv m q xs).length = m * q := flat_len (rv_rows hl)
theorem rv_getD {m q i j : Nat} {xs : List Int} (hl : xs.length = m * q) (hi : i < m) (hj : j < q) : (rv m q xs).getD (i * q + j) 0 = xs.getD (i * q + (q - 1 - j)) 0 := by
  unfold rv
  rw [flat_getD (rv_rows hl) hi hj, getD_reverse (by rw [rowOf_len hl hi]; exact hj), rowOf_len hl hi, getD_take (by omega), getD_drop]
theorem fl_len {m q : Nat} {xs : List Int} : (fl m q xs).length = q * m := flat_len (by simp)
theorem fl_getD {m q i j : Nat} {xs : List Int} (hi : i < m) (hj : j < q) : (fl m q xs).getD (j * m + i) 0 = xs.getD (i * q + j) 0 := by
  unfold fl
  rw [flat_getD (q := m) (by simp) hj hi]
  simp [List.getD, hi]
theorem tn_len {m q : Nat} {xs : List Int} : (tn m q xs).length = q * m := rv_len fl_len
theorem tn_getD {m q i j : Nat} {xs : List Int} (hi : i < m) (hj : j < q) : (tn m q xs).getD (j * m + i) 0 = xs.getD ((m - 1 - i) * q + j) 0 := by
  unfold tn
  rw [rv_getD fl_len hj hi, fl_getD (by omega) hj]
/-- Two lists of m rows of q cells are the same if their cells are. -/
theorem ext_rows {m q : Nat} {xs ys : List Int} (hx : xs.length = m * q) (hy : ys.length = m * q) (h : ∀ i j, i < m → j < q → xs.getD (i * q + j) 0 = ys.getD (i * q + j) 0) : xs = ys := by
  refine ext_gd (hx.trans hy.symm) fun p hp => ?_
  have hq : 0 < q := by
    rcases Nat.eq_zero_or_pos q with h | h
    · rw [hx, h, Nat.mul_zero] at hp; omega
    · exact h
  have hp2 : p / q < m := by
    rw [Nat.div_lt_iff_lt_mul hq, ← hx]
    exact hp
  have hp3 : p / q * q + p % q = p := Nat.div_add_mod' p q
  have := h (p / q) (p % q) hp2 (Nat.mod_lt _ hq)
  rwa [hp3] at this
theorem rv_rv {m q : Nat} {xs : List Int} (hl : xs.length = m * q) : rv m q (rv m q xs) = xs :=
  ext_rows (rv_len (rv_len hl)) hl fun i j hi hj => by
    rw [rv_getD (rv_len hl) hi hj, rv_getD hl hi (by omega)]
    congr 2
    omega
theorem fl_fl {m q : Nat} {xs : List Int} (hl : xs.length = m * q) : fl q m (fl m q xs) = xs :=
  ext_rows (m := m) (q := q) (by rw [fl_len]) hl fun i j hi hj => by
    rw [fl_getD hj hi, fl_getD hi hj]
theorem tn_tn {m q i j : Nat} {xs : List Int} (hi : i < m) (hj : j < q) : (tn q m (tn m q xs)).getD (i * q + j) 0 = xs.getD ((m - 1 - i) * q + (q - 1 - j)) 0 := by
  rw [tn_getD hj hi, tn_getD hi (by omega)]
theorem tn4 {m q : Nat} {xs : List Int} (hl : xs.length = m * q) : tn q m (tn m q (tn q m (tn m q xs))) = xs :=
  ext_rows (m := m) (q := q) (by rw [tn_len]) hl fun i j hi hj => by
    rw [tn_tn hi hj, tn_tn (by omega) (by omega)]
    congr 3 <;> omega
theorem mem_getD {xs : List Int} {x : Int} (h : x ∈ xs) : ∃ j, j < xs.length ∧ xs.getD j 0 = x := by
  obtain ⟨j, hj, e⟩ := List.getElem_of_mem h
  exact ⟨j, hj, by rw [getD_get hj, e]⟩
theorem rv_mem {m q : Nat} {xs : List Int} {x : Int} (h : x ∈ rv m q xs) : x ∈ xs := by
  unfold rv at h
  obtain ⟨i, _, h⟩ := List.mem_flatMap.1 h
  exact List.mem_of_mem_drop (List.mem_of_mem_take (List.mem_reverse.1 h))
theorem fl_mem {m q : Nat} {xs : List Int} {x : Int} (hl : xs.length = m * q) (h : x ∈ fl m q xs) : x ∈ xs := by
  unfold fl at h
  obtain ⟨j, hj, h⟩ := List.mem_flatMap.1 h
  obtain ⟨i, hi, h⟩ := List.mem_map.1 h
  rw [List.mem_range] at hi hj
  rw [← h]
  refine getD_mem ?_
  have := Nat.mul_le_mul_right q (show i + 1 ≤ m from hi)
  rw [Nat.succ_mul] at this
  omega
theorem rv_chk {k r l0 l1 : Int} {m q : Nat} {xs : List Int} (h : achk k r l0 l1 xs = 0) (hl : xs.length = m * q) : achk k r l0 l1 (rv m q xs) = 0 := by
  obtain ⟨h1, h2, h3, _⟩ := achk_ok h
  exact achk_mk h1 h2 (by rw [rv_len hl, ← hl]; exact h3) fun x hx => achk_all h x (rv_mem hx)
theorem fl_chk {k : Int} {m q : Nat} {xs : List Int} (h : achk k 2 m q xs = 0) (hl : xs.length = m * q) : achk k 2 q m (fl m q xs) = 0 := by
  obtain ⟨h1, h2, h3, _⟩ := achk_ok h
  refine achk_mk h1 ?_ ?_ fun x hx => achk_all h x (fl_mem hl hx)
  · rcases shp_ok h2 with ⟨h, _⟩ | ⟨h, _⟩ | ⟨_, a1, a2, a3, a4, a5⟩
    · cases h
    · cases h
    · unfold shp prodI
      rw [Int.mul_comm] at a5
      rw [if_neg (by omega), if_neg (by omega), if_neg (by omega), if_neg]
      simp only [if_true]
      omega
  · rw [fl_len]
    simp [prodI]
theorem tn_chk {k : Int} {m q : Nat} {xs : List Int} (h : achk k 2 m q xs = 0) (hl : xs.length = m * q) : achk k 2 q m (tn m q xs) = 0 := rv_chk (fl_chk h hl) fl_len
theorem sReverse_ok {k r l0 l1 : Int} {m q : Nat} {xs : List Int} (h : achk k r l0 l1 xs = 0) (hr : r ≠ 0) (hc : (r = 1 ∧ m = 1 ∧ l0 = q ∧ l1 = 0) ∨ (r = 2 ∧ l0 = m ∧ l1 = q)) : sReverse ⟨k, r, l0, l1, xs⟩ = (⟨k, r, l0, l1, rv m q xs⟩, 0) := by
  unfold sReverse chkA
  simp only
  rw [if_neg (fun h' => h' h), if_neg hr]
  rcases hc with ⟨rfl, rfl, rfl, rfl⟩ | ⟨rfl, rfl, rfl⟩ <;> rfl
theorem sFlip_ok {k : Int} {m q : Nat} {xs : List Int} (h : achk k 2 m q xs = 0) : sFlip ⟨k, 2, m, q, xs⟩ = (⟨k, 2, q, m, fl m q xs⟩, 0) := by
  unfold sFlip chkA
  simp only
  rw [if_neg (fun h' => h' h), if_neg (fun h => h rfl)]
  rfl
end Go.Proofs.Ytoapgknkenlcgaa

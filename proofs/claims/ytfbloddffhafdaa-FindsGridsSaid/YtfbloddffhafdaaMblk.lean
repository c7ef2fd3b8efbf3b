/-
  A block of integers that is written in place; lists made of rows. No program in sight.
-/
import Derived.Test.YtfbloddffhafdaaBase2
namespace Go.Proofs.Ytfbloddffhafdaa
open Go.RowKit

/-- Block g's first n cells are f's integers; nothing in it is frozen. -/
def Bf (w : World) (g n : Nat) (f : Nat → Int) : Prop := ∃ cur, Bx w g cur 2 ∧ ∀ j, j < n → cur[j]? = some (.int .i64 (f j))
theorem Bf.cell {w : World} {g n : Nat} {f : Nat → Int} (h : Bf w g n f) {j : Nat} (hj : j < n) : w.cell? ⟨g, j, none⟩ = some (.int .i64 (f j)) := by
  obtain ⟨cur, hb, hc⟩ := h
  exact (hb.cell j).trans (hc j hj)
theorem Bf.frozen {w : World} {g n : Nat} {f : Nat → Int} (h : Bf w g n f) (j : Nat) : w.frozen? ⟨g, j, none⟩ = false := by
  obtain ⟨cur, hb, hc⟩ := h
  exact hb.frozen j
theorem Bf.lt {w : World} {g n : Nat} {f : Nat → Int} (h : Bf w g n f) : g < w.heap.size := by
  obtain ⟨cur, hb, hc⟩ := h
  exact hb.lt
theorem Bf.block {w w' : World} {g n : Nat} {f : Nat → Int} (h : Bf w g n f) (hb : w'.heap[g]? = w.heap[g]?) : Bf w' g n f := by
  obtain ⟨cur, hx, hc⟩ := h
  exact ⟨cur, hb.trans hx, hc⟩
theorem Bf.step {w w' : World} {g n : Nat} {f : Nat → Int} (h : Bf w g n f) (hb : Below w.heap.size w w') : Bf w' g n f := h.block (hb.block g h.lt)
theorem Bf.grown {w w' : World} {g n : Nat} {f : Nat → Int} {row : Option Nat} (h : Bf w g n f) (hg : w.grownBy w' row) (hne : some g ≠ row) : Bf w' g n f := h.block (hg.block g h.lt hne)
theorem Bf.congr {w : World} {g n : Nat} {f f' : Nat → Int} (h : Bf w g n f) (hf : ∀ j, j < n → f j = f' j) : Bf w g n f' := by
  obtain ⟨cur, hx, hc⟩ := h
  exact ⟨cur, hx, fun j hj => by rw [hc j hj, hf j hj]⟩
theorem Bf.set {w : World} {g n : Nat} {f : Nat → Int} (h : Bf w g n f) (i : Nat) (y : Int) : Bf (w.setCell ⟨g, i, none⟩ (.int .i64 y)) g n (fun j => if j = i then y else f j) := by
  obtain ⟨cur, hx, hc⟩ := h
  refine ⟨_, hx.set_ i _, fun j hj => ?_⟩
  have hj' := hc j hj
  have hlt : j < cur.size := (Array.getElem?_eq_some_iff.1 hj').1
  by_cases e : i = j
  · subst e
    simp [hlt]
  · have e2 : ¬ j = i := fun h => e h.symm
    simp only [e2, if_false]
    rw [Array.getElem?_setIfInBounds_ne e, hj']
theorem Bf.of_own {w : World} {base n c g : Nat} {xs : List Int} (h : w.ownsRow base 2 1 (.slice (some ⟨g, 0, none⟩) n c) n (xs.map (Value.int .i64))) : Bf w g n (fun j => xs.getD j 0) := by
  have hl : xs.length = n := by have := h.1; simpa using this
  rcases h.2 with ⟨h1, _⟩ | ⟨g', cap, cur, h1, hb, hg, hn, hm, hs, ht⟩
  · cases h1
  · simp only [Value.slice.injEq, Option.some.injEq, Addr.mk.injEq, and_true, true_and] at h1
    obtain ⟨rfl, rfl⟩ := h1
    refine ⟨cur, hg, fun j hj => ?_⟩
    have h2 := map_getD (xs := xs) (j := j) (by omega)
    rw [← ht, Nat.mul_one, List.getElem?_take, if_pos hj] at h2
    simpa using h2
theorem Bf.sl {w : World} {g n c : Nat} {xs : List Int} (h : Bf w g n (fun j => xs.getD j 0)) (hl : xs.length = n) (hc : n ≤ c) (hm : c ≤ maxLen) : Sl w (some ⟨g, 0, none⟩) n c xs :=
  ⟨hl, hc, hm, fun _ => ⟨g, 0, rfl, h.lt, fun j hj => by rw [Nat.zero_add]; exact h.cell hj⟩⟩

theorem grown_set {w w' : World} {g : Nat} (h : w.grownBy w' (some g)) (i : Nat) (u : Value) : w.grownBy (w'.setCell ⟨g, i, none⟩ u) (some g) :=
  ⟨h.os, h.tape, h.output, by simpa [World.setCell] using h.size, fun k hk hne => (Below.heap_setCell _ _ _ _ (fun e => hne (by rw [e]))).trans (h.block k hk hne)⟩
theorem grown_drew {w w' : World} {row : Option Nat} (h : w.grownBy w' row) : w.grownBy w'.drew row := ⟨h.os, h.tape, h.output, h.size, h.block⟩
theorem grown_drewN {w w' : World} {row : Option Nat} (h : w.grownBy w' row) (n : Nat) : w.grownBy (w'.drewN n) row := ⟨h.os, h.tape, h.output, h.size, h.block⟩

/-! ### Lists made of rows -/
theorem ext_gd {xs ys : List Int} (hl : xs.length = ys.length) (h : ∀ j, j < xs.length → xs.getD j 0 = ys.getD j 0) : xs = ys := by
  apply List.ext_getElem hl
  intro i h1 h2
  have := h i h1
  simpa [h1, h2] using this
theorem getD_app_l {xs ys : List Int} {j : Nat} (h : j < xs.length) : (xs ++ ys).getD j 0 = xs.getD j 0 := by
  simp [List.getD, List.getElem?_append_left h]
theorem getD_app_r {xs ys : List Int} {j : Nat} (h : xs.length ≤ j) : (xs ++ ys).getD j 0 = ys.getD (j - xs.length) 0 := by
  simp [List.getD, List.getElem?_append_right h]
theorem getD_drop {xs : List Int} (o j : Nat) : (xs.drop o).getD j 0 = xs.getD (o + j) 0 := by simp [List.getD]
theorem getD_take {xs : List Int} {q j : Nat} (h : j < q) : (xs.take q).getD j 0 = xs.getD j 0 := by simp [List.getD, h]
theorem getD_reverse {xs : List Int} {j : Nat} (h : j < xs.length) : xs.reverse.getD j 0 = xs.getD (xs.length - 1 - j) 0 := by
  simp [List.getD, List.getElem?_reverse h]
theorem getD_ge {xs : List Int} {j : Nat} (h : xs.length ≤ j) : xs.getD j 0 = 0 := by simp [List.getD, h]

theorem flat_len {m q : Nat} {g : Nat → List Int} (h : ∀ i, i < m → (g i).length = q) : ((List.range m).flatMap g).length = m * q := by
  induction m with
  | zero => simp
  | succ m ih =>
    rw [List.range_succ, List.flatMap_append, List.length_append, ih (fun i hi => h i (by omega))]
    simp [h m (by omega), Nat.succ_mul]
theorem flat_succ (m : Nat) (g : Nat → List Int) : (List.range (m + 1)).flatMap g = (List.range m).flatMap g ++ g m := by
  rw [List.range_succ, List.flatMap_append]
  simp
theorem flat_getD {m q i k : Nat} {g : Nat → List Int} (h : ∀ i, i < m → (g i).length = q) (hi : i < m) (hk : k < q) : ((List.range m).flatMap g).getD (i * q + k) 0 = (g i).getD k 0 := by
  induction m with
  | zero => omega
  | succ m ih =>
    have hl := flat_len (m := m) (q := q) (g := g) (fun i hi => h i (by omega))
    rw [flat_succ]
    by_cases e : i = m
    · subst e
      rw [getD_app_r (by omega), hl]
      congr 1
      omega
    · have h2 : i * q + k < m * q := by
        have : (i + 1) * q ≤ m * q := Nat.mul_le_mul_right q (by omega)
        rw [Nat.succ_mul] at this
        omega
      rw [getD_app_l (by omega)]
      exact ih (fun i hi => h i (by omega)) (by omega)
theorem rowOf_len {c : List Int} {m q i : Nat} (hc : c.length = m * q) (hi : i < m) : ((c.drop (i * q)).take q).length = q := by
  have : (i + 1) * q ≤ m * q := Nat.mul_le_mul_right q (by omega)
  rw [Nat.succ_mul] at this
  rw [List.length_take, List.length_drop]
  omega
theorem drop_row (c : List Int) (q i : Nat) : c.drop (i * q) = (c.drop (i * q)).take q ++ c.drop ((i + 1) * q) := by
  rw [Nat.succ_mul, ← List.drop_drop, List.take_append_drop]
/-- A list is its rows, one behind the other. -/
theorem flat_rows {c : List Int} {m q : Nat} (hc : c.length = m * q) : (List.range m).flatMap (fun i => (c.drop (i * q)).take q) = c := by
  have : ∀ j, (List.range j).flatMap (fun i => (c.drop (i * q)).take q) ++ c.drop (j * q) = c := by
    intro j
    induction j with
    | zero => simp
    | succ j ih => rw [flat_succ, List.append_assoc, ← drop_row]; exact ih
  have h := this m
  rw [← hc, List.drop_length, List.append_nil] at h
  exact h
/-- Row i of a list made of rows. -/
theorem flat_row {m q i : Nat} {g : Nat → List Int} (h : ∀ i, i < m → (g i).length = q) (hi : i < m) : (((List.range m).flatMap g).drop (i * q)).take q = g i := by
  have hl := flat_len h
  have h1 := rowOf_len hl hi
  refine ext_gd (by rw [h1, h i hi]) fun j hj => ?_
  rw [h1] at hj
  rw [getD_take hj, getD_drop]
  exact flat_getD h hi hj
/-- A part of a list turned round. -/
theorem rev_part {P M S : List Int} {o q : Nat} (hP : P.length = o) (hM : M.length = q) (p : Nat) :
    (if o ≤ p ∧ p < o + q then (P ++ (M ++ S)).getD (o + (o + q - 1 - p)) 0 else (P ++ (M ++ S)).getD p 0) = (P ++ (M.reverse ++ S)).getD p 0 := by
  subst hP hM
  by_cases h : P.length ≤ p ∧ p < P.length + M.length
  · rw [if_pos h]
    have hL : (P ++ (M ++ S)).getD (P.length + (P.length + M.length - 1 - p)) 0 = M.getD (P.length + M.length - 1 - p) 0 := by
      rw [getD_app_r (by omega), getD_app_l (by omega)]
      congr 1
      omega
    have hR : (P ++ (M.reverse ++ S)).getD p 0 = M.getD (P.length + M.length - 1 - p) 0 := by
      rw [getD_app_r (by omega), getD_app_l (by simp; omega), getD_reverse (by omega)]
      congr 1
      omega
    rw [hL, hR]
  · rw [if_neg h]
    by_cases h2 : p < P.length
    · rw [getD_app_l h2, getD_app_l h2]
    · have hL : (P ++ (M ++ S)).getD p 0 = S.getD (p - P.length - M.length) 0 := by
        rw [getD_app_r (by omega), getD_app_r (by omega)]
      have hR : (P ++ (M.reverse ++ S)).getD p 0 = S.getD (p - P.length - M.length) 0 := by
        rw [getD_app_r (by omega), getD_app_r (by simp; omega), List.length_reverse]
      rw [hL, hR]
end Go.Proofs.Ytfbloddffhafdaa

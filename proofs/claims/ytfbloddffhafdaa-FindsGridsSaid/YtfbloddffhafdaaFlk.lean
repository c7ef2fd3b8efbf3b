/-
  Slices of sixteen bits; plain laws of looking up.
-/
import Derived.Test.YtfbloddffhafdaaFpp
import Derived.Test.YtfbloddffhafdaaBase2
namespace Go.Proofs.Ytfbloddffhafdaa
open Go.RowKit

/-- A slice of sixteen-bit numbers reads as a list. -/
def SlU (w : World) (A : Option Addr) (n c : Nat) (xs : List Int) : Prop :=
  xs.length = n ∧ n ≤ c ∧ c ≤ maxLen ∧ (∀ x ∈ xs, 0 ≤ x ∧ x < 65536) ∧ (0 < n → ∃ b o, A = some ⟨b, o, none⟩ ∧ b < w.heap.size ∧ ∀ j, j < n → w.cell? ⟨b, o + j, none⟩ = some (.int .u16 (xs.getD j 0)))
theorem SlU.len {w : World} {A : Option Addr} {n c : Nat} {xs : List Int} (h : SlU w A n c xs) : xs.length = n := h.1
theorem SlU.at_ {w : World} {A : Option Addr} {n c : Nat} {xs : List Int} (h : SlU w A n c xs) {k : Nat} (hk : k < n) : ∃ b o, A = some ⟨b, o, none⟩ ∧ b < w.heap.size ∧ w.cell? ⟨b, o + k, none⟩ = some (.int .u16 (xs.getD k 0)) := by
  obtain ⟨b, o, hA, hb, hc⟩ := h.2.2.2.2 (by omega)
  exact ⟨b, o, hA, hb, hc k hk⟩
theorem SlU.get {w : World} {A : Option Addr} {n c : Nat} {xs : List Int} (h : SlU w A n c xs) {k : Nat} (hk : k < n) : 0 ≤ xs.getD k 0 ∧ xs.getD k 0 < 65536 :=
  h.2.2.2.1 _ (by have := h.1; rw [getD_get (by omega)]; exact List.getElem_mem _)
theorem SlU.step {w w' : World} {A : Option Addr} {n c : Nat} {xs : List Int} (h : SlU w A n c xs) (hb : Below w.heap.size w w') : SlU w' A n c xs := by
  obtain ⟨h1, h2, h3, h4, h5⟩ := h
  refine ⟨h1, h2, h3, h4, fun hn => ?_⟩
  obtain ⟨b, o, hA, hlt, hc⟩ := h5 hn
  exact ⟨b, o, hA, Nat.lt_of_lt_of_le hlt hb.size, fun j hj => (hb.cell (p := ⟨b, o + j, none⟩) hlt).trans (hc j hj)⟩
/-- Numbers modulo a length. -/
def modL (n : Nat) (ps : List Int) : List Int := ps.map (fun x => ((x.toNat % n : Nat) : Int))
theorem modL_len (n : Nat) (ps : List Int) : (modL n ps).length = ps.length := by simp [modL]
theorem modL_in {n : Nat} (hn : 0 < n) (ps : List Int) : ∀ p ∈ modL n ps, 0 ≤ p ∧ p < (n : Int) := by
  intro p hp
  obtain ⟨x, _, rfl⟩ := List.mem_map.1 hp
  have := Nat.mod_lt x.toNat hn
  omega
theorem modL_snoc (n : Nat) (ps : List Int) (x : Int) : modL n (ps ++ [x]) = modL n ps ++ [((x.toNat % n : Nat) : Int)] := by simp [modL]
def atL (xs ps : List Int) : List Int := ps.map (fun x => xs.getD x.toNat 0)
theorem atL_len (xs ps : List Int) : (atL xs ps).length = ps.length := by simp [atL]
theorem atL_right {k : Int} {xs ps : List Int} (hx : ∀ x ∈ xs, rightB k x = true) (hp : ∀ p ∈ ps, 0 ≤ p ∧ p < (xs.length : Int)) : ∀ y ∈ atL xs ps, rightB k y = true := by
  intro y hy
  obtain ⟨p, h, rfl⟩ := List.mem_map.1 hy
  have := hp p h
  exact hx _ (by rw [getD_get (by omega)]; exact List.getElem_mem _)
/-- At of At is At of places that are looked up. -/
theorem atL_atL {xs ps qs : List Int} (hq : ∀ q ∈ qs, 0 ≤ q ∧ q < (ps.length : Int)) : atL (atL xs ps) qs = atL xs (atL ps qs) := by
  unfold atL
  rw [List.map_map]
  refine List.map_congr_left fun q h => ?_
  have := hq q h
  rw [map_at _ _ _ (by omega)]
  rfl
theorem atL_iota (xs : List Int) : atL xs (iotaL xs.length) = xs := iota_map xs
theorem isIn_self (xs : List Int) (j : Nat) (h : j < xs.length) : (xs.map (isIn xs)).getD j 0 = 1 := by
  rw [map_at _ _ _ h]
  unfold isIn
  rw [if_pos (List.elem_eq_true_of_mem (by rw [getD_get h]; exact List.getElem_mem _))]
end Go.Proofs.Ytfbloddffhafdaa

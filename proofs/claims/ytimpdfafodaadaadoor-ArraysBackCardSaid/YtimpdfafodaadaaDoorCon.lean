/-
  Slices of slices of integers; slices.Concat.
-/
import Derived.Test.YtimpdfafodaadaaDoorIn
import Derived.Test.YtimpdfafodaadaaDoorShelfg
namespace Go.Proofs.YtimpdfafodaadaaDoor
open Go.RowKit

/-- A row of a slice of slices: where it lies, its capacity, what it reads as. -/
structure RowS where
  a : Option Addr
  c : Nat
  xs : List Int
def rowS0 : RowS := ⟨none, 0, []⟩
def RowS.val (r : RowS) : Value := .slice r.a r.xs.length r.c
/-- A slice of slices of integers. -/
def SlR (w : World) (A : Option Addr) (n c : Nat) (rs : List RowS) : Prop :=
  rs.length = n ∧ n ≤ c ∧ c ≤ maxLen ∧ (0 < n → ∃ b o, A = some ⟨b, o, none⟩ ∧ b < w.heap.size ∧ ∀ j, j < n → w.cell? ⟨b, o + j, none⟩ = some (rs.getD j rowS0).val) ∧ ∀ r ∈ rs, Sl w r.a r.xs.length r.c r.xs
theorem SlR.step {w w' : World} {A : Option Addr} {n c : Nat} {rs : List RowS} (h : SlR w A n c rs) (hb : Below w.heap.size w w') : SlR w' A n c rs := by
  obtain ⟨h1, h2, h3, h4, h5⟩ := h
  refine ⟨h1, h2, h3, fun hn => ?_, fun r hr => (h5 r hr).step hb⟩
  obtain ⟨b, o, hA, hlt, hc⟩ := h4 hn
  exact ⟨b, o, hA, Nat.lt_of_lt_of_le hlt hb.size, fun j hj => (hb.cell (p := ⟨b, o + j, none⟩) hlt).trans (hc j hj)⟩
theorem getDR_mem {rs : List RowS} {j : Nat} (h : j < rs.length) : rs.getD j rowS0 ∈ rs := by
  rw [List.getD, List.getElem?_eq_getElem h]
  exact List.getElem_mem _
theorem SlR.at_ {w : World} {A : Option Addr} {n c : Nat} {rs : List RowS} (h : SlR w A n c rs) {k : Nat} (hk : k < n) :
    ∃ b o, A = some ⟨b, o, none⟩ ∧ b < w.heap.size ∧ w.cell? ⟨b, o + k, none⟩ = some (.slice (rs.getD k rowS0).a (rs.getD k rowS0).xs.length (rs.getD k rowS0).c) ∧ Sl w (rs.getD k rowS0).a (rs.getD k rowS0).xs.length (rs.getD k rowS0).c (rs.getD k rowS0).xs := by
  obtain ⟨h1, h2, h3, h4, h5⟩ := h
  obtain ⟨b, o, hA, hlt, hc⟩ := h4 (by omega)
  exact ⟨b, o, hA, hlt, hc k hk, h5 _ (getDR_mem (by omega))⟩
def totR (rs : List RowS) : Nat := (rs.map fun r => r.xs.length).sum
def flatR (rs : List RowS) : List Int := rs.flatMap fun r => r.xs
theorem flatR_len (rs : List RowS) : (flatR rs).length = totR rs := by
  simp [flatR, totR, List.length_flatMap]
theorem take_succR {rs : List RowS} {j : Nat} (h : j < rs.length) : rs.take (j + 1) = rs.take j ++ [rs.getD j rowS0] := by
  rw [List.getD, List.getElem?_eq_getElem h]
  exact List.take_succ_eq_append_getElem h
theorem totR_succ {rs : List RowS} {j : Nat} (h : j < rs.length) : totR (rs.take (j + 1)) = totR (rs.take j) + (rs.getD j rowS0).xs.length := by
  rw [take_succR h]
  simp [totR]
theorem flatR_succ {rs : List RowS} {j : Nat} (h : j < rs.length) : flatR (rs.take (j + 1)) = flatR (rs.take j) ++ (rs.getD j rowS0).xs := by
  rw [take_succR h]
  simp [flatR]
theorem totR_append (a b : List RowS) : totR (a ++ b) = totR a + totR b := by simp [totR]
theorem totR_le {rs : List RowS} (j : Nat) : totR (rs.take j) ≤ totR rs := by
  have h := totR_append (rs.take j) (rs.drop j)
  rw [List.take_append_drop] at h
  omega
set_option maxHeartbeats 2000000 in
theorem grow_any (m : Nat) (w : World) (hm : m ≤ 1000000) :
    Calls Tryd.prog 77 #[.slice none 0 0, .int .i64 (m : Int)] w fun e w' => (∃ A c, e = .returned (.slice A 0 c) ∧ w'.ownsRow w.heap.size 2 1 (.slice A 0 c) 0 []) ∧ Below w.heap.size w w' := by
  obtain ⟨i0, hi, hz0, hz1, hz2⟩ := info_parts infoI64
  by_cases h0 : m = 0
  · subst h0
    refine (Any8.slices_Grow_room Tryd.grow64 none 0 0 0 w (Nat.le_refl _) (by omega) (by omega) (by omega)).mono ?_
    rintro e w' ⟨rfl, rfl⟩
    exact ⟨⟨none, 0, rfl, World.ownsRow_nil _ _ _ _⟩, Below.refl _ _⟩
  · have hc := Any8.slices_Grow_grow Tryd.grow64 i0 (.int .i64 0) hi hz0 (by rw [hz1]; omega) none 0 0 m [] w (Nat.le_refl _) (by omega) (by rw [hz2]; omega) (by omega) (by simp) (fun _ => rfl) (fun a h => by cases h)
    refine hc.mono ?_
    rintro e w' ⟨rfl, rfl⟩
    refine ⟨⟨_, _, rfl, ?_⟩, bal (bdr (Below.refl _ _)) _⟩
    have hge := grownCap_ge w (0 + m) 0 2
    have hle := grownCap_le_maxLen w (0 + m) 0 2 (by unfold maxLen; omega)
    obtain ⟨G, hG⟩ : ∃ G, grownCap w (0 + m) 0 2 = G := ⟨_, rfl⟩
    rw [hG] at hge hle
    have e1 : grownCap w (0 + m) 0 (Tryd.grow64_ren.t 25) = G := hG
    have hc1 : (Value.int .i64 0).cells.size = 1 := rfl
    simp only [e1]
    exact World.ownsRow_made (e := 2) (base := w.heap.size) (size := 1) w.drew _ G (Nat.le_refl _) hle (by simp only [Array.size_append, size_zeroCells, List.size_toArray, List.length_nil, hc1]; omega)
set_option maxHeartbeats 2000000 in
theorem concat_any (A : Option Addr) (n c : Nat) (rs : List RowS) (w : World) (hs : SlR w A n c rs) (hn : n ≤ 1000000) (ht : totR rs ≤ 1000000) :
    Calls Tryd.prog 53 #[.slice A n c] w fun e w' => (∃ A' n' c', e = .returned (.slice A' n' c') ∧ Sl w' A' n' c' (flatR rs) ∧ w'.ownsRow w.heap.size 2 1 (.slice A' n' c') n' ((flatR rs).map (Value.int .i64))) ∧ Below w.heap.size w w' := by
  have HS := Lib.hid hs
  have hcap := hs.2.1
  have hmost := hs.2.2.1
  have HL := Lib.hid hs.1
  have HT := Lib.hid ht
  have hmost' : c ≤ 9223372036854775807 := by unfold maxLen at hmost; omega
  clear hs hmost
  go_enter Tryd.func53, Tryd.ntmps53
  go_wp2
  go_loop [3, 11] (fun sz i => ∃ (j N : Nat), j ≤ n ∧ i = .int .i64 j ∧ sz = .int .i64 N ∧ N ≤ 1000000 ∧ Hid (N = totR (rs.take j))) (fun _ i => n - (intOf i).toNat)
  case atStart => exact ⟨0, 0, Nat.zero_le _, rfl, rfl, by omega, Lib.hid rfl⟩
  case round =>
    obtain ⟨j, N, hj, rfl, rfl, hN, HN⟩ := hrel
    by_cases hlt : j < n
    · obtain ⟨b, o, rfl, hbl, hx, hS⟩ := HS.out.at_ hlt
      have hst := totR_succ (rs := rs) (j := j) (by rw [HL.out]; exact hlt)
      have hle := totR_le (rs := rs) (j + 1)
      have hcx := hS.cap
      have hmx := hS.most
      rw [← HN.out] at hst
      obtain ⟨q, hq⟩ : ∃ q, (rs.getD j rowS0).xs.length = q := ⟨_, rfl⟩
      rw [hq] at hx hst hcx
      have HST := Lib.hid hst
      have hbig : N + q ≤ 1000000 := by have := HT.out; omega
      have hj1 : (j : Int) < (n : Int) := by omega
      clear hst hle hq hS
      go_wp2
      go_round
      case rel => exact ⟨j + 1, N + q, by omega, by go_num, by go_num, hbig, Lib.hid HST.out.symm⟩
      case measure => simp [intOf]; omega
    · obtain rfl : j = n := by omega
      go_wp2_with fail
      refine (grow_any N _ hN).mono ?_
      rintro e w1 ⟨⟨A1, c1, rfl, hO⟩, hb1⟩
      have HO0 := Lib.hid hO
      clear hO
      go_wp2
      go_loopw [6, 27] (fun v i wr => ∃ (k M : Nat) (V : Option Addr) (vc : Nat), k ≤ j ∧ i = .int .i64 k ∧ v = .slice V M vc ∧ M ≤ 1000000 ∧ Below w.heap.size w wr ∧ Hid (M = totR (rs.take k)) ∧ Hid (wr.ownsRow w.heap.size 2 1 (.slice V M vc) M ((flatR (rs.take k)).map (Value.int .i64)))) (fun _ i _ => j - (intOf i).toNat)
      case atStart => exact ⟨0, 0, A1, c1, Nat.zero_le _, rfl, rfl, by omega, hb1, Lib.hid rfl, HO0⟩
      case round =>
        obtain ⟨k, M, V, vc, hk, rfl, rfl, hM, hb, HM, HO⟩ := hrel
        by_cases hlt2 : k < j
        · obtain ⟨b, o, rfl, hbl, hx, hS⟩ := (HS.out.step hb).at_ hlt2
          have hst := totR_succ (rs := rs) (j := k) (by rw [HL.out]; exact hlt2)
          have hfl := flatR_succ (rs := rs) (j := k) (by rw [HL.out]; exact hlt2)
          have hle := totR_le (rs := rs) (k + 1)
          rw [← HM.out] at hst
          generalize rs.getD k rowS0 = R at hx hS hst hfl
          obtain ⟨Ra, Rc, Rxs⟩ := R
          simp only at hx hS hst hfl
          obtain ⟨q, hq⟩ : ∃ q, Rxs.length = q := ⟨_, rfl⟩
          rw [hq] at hx hst hS
          have HST := Lib.hid hst
          have HFL := Lib.hid hfl
          have HSS := Lib.hid hS
          have hbig : M + q ≤ 1000000 := by have := HT.out; omega
          have hk1 : (k : Int) < (j : Int) := by omega
          have HBZ := Lib.hid hb.size
          clear hst hle hq hS hfl
          go_wp2_with (at_builtin; refine wpList_append_sl rfl _ _ rfl rfl w.heap.size _ M (flatR (rs.take k)) rfl HO.out Ra q Rc Rxs rfl HSS.out (by omega) HBZ.out ?_)
          intro A2 c2 w2 hg
          have HG := Lib.hid hg.1
          have b2 : Below w.heap.size w w2 := hg.below hb (fun k hk => (HO.out.lt k hk).1)
          clear hg
          go_wp2
          refine ⟨⟨k + 1, M + q, A2, c2, by omega, rfl, rfl, hbig, b2, Lib.hid HST.out.symm, ?_⟩, ?_⟩
          · rw [HFL.out]; exact HG
          · simp only [intOf]; omega
        · obtain rfl : k = j := by omega
          go_wp2
          go_ret
          have ht2 : rs.take k = rs := by rw [← HL.out]; exact List.take_length
          have hO := HO.out
          rw [ht2] at hO
          obtain ⟨_, _, hv, hS, _⟩ := Sl.of_own hO
          cases hv
          exact ⟨⟨_, _, _, rfl, hS, hO⟩, hb⟩
end Go.Proofs.YtimpdfafodaadaaDoor

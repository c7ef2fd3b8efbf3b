/-
  Arguments of the Arrays laws, opened.
-/
import Derived.Test.YtimpdfafodaadaaDoorOpen
import Derived.Test.YtimpdfafodaadaaDoorCon
import Derived.ChangeMaps5
namespace Go.Proofs.YtimpdfafodaadaaDoor
open Go.ChangeShapes Go.WideShapes Go.ChangeAt Go.RowKit Go.Deep

section
variable {H : Type} {enc : TypeId × Value → H}
theorem trod_two {W : World} {base n : Nat} {c0 c1 : Value} {y : DataW H × List MemPlace} (g : DataW.trod enc Tryd.prog W base (fun _ => true) true n 22 [c0, c1] = some y) : ∃ a b : Int, c0 = .int .i64 a ∧ c1 = .int .i64 b := by
  obtain ⟨zs, m, _, _, _, hzl, hz⟩ := DataW.trod_array Tryd.underlying22 g
  match zs, hzl with
  | [z0, z1], _ =>
    have a0 : DataW.trod enc Tryd.prog W base (fun _ => true) true m 3 [c0] = some z0 := by simpa [cells_int] using hz 0 (by omega)
    have a1 : DataW.trod enc Tryd.prog W base (fun _ => true) true m 3 [c1] = some z1 := by simpa [cells_int] using hz 1 (by omega)
    obtain ⟨l0, e2, _⟩ := DataW.trod_int Tryd.underlying3 a0
    obtain ⟨l1, e3, _⟩ := DataW.trod_int Tryd.underlying3 a1
    simp only [List.cons.injEq, and_true] at e2 e3
    exact ⟨l0, l1, e2, e3⟩
theorem open_two {W : World} {base : Nat} {r : Reach} {b0 : Nat} {v : Value} {d : DataW H} {ps : List MemPlace} (hv : Value.okWide Tryd.prog W r b0 22 v) (h : DataW.Trod enc Tryd.prog W base (fun _ => true) true 22 v d ps) :
    ∃ (l0 l1 : Int), v = .agg #[.int .i64 l0, .int .i64 l1] := by
  have hv' := hv
  simp only [Value.okWide, Tryd.underlying22] at hv'
  obtain ⟨cs, rfl, hsz, _⟩ := hv'
  rw [cells_two] at hsz
  obtain ⟨l⟩ := cs
  obtain ⟨fuel, hf⟩ := h
  match l, hsz with
  | [c0, c1], _ =>
    obtain ⟨a, b, rfl, rfl⟩ := trod_two hf
    exact ⟨a, b, rfl⟩
theorem sl_of_cells {W : World} {a : Addr} {len cap : Nat} {xs : List Int} (hlc : len ≤ cap) (hmx : cap ≤ maxLen) (hxl : xs.length = cap) (hc : ∀ i, i < cap → W.cell? (a.add i) = some (.int .i64 (xs.getD i 0))) : Sl W (some a) len cap (xs.take len) := by
  refine ⟨by rw [List.length_take]; omega, hlc, hmx, fun hl => ?_⟩
  have h0 := hc 0 (by omega)
  obtain ⟨b, o, sp⟩ := a
  have hsp : sp = none := by
    cases sp with
    | none => rfl
    | some s =>
      simp [World.cell?, Addr.add] at h0
      split at h0 <;> simp at h0
  subst hsp
  have hb : b < W.heap.size := by
    rcases Nat.lt_or_ge b W.heap.size with h | h
    · exact h
    · simp [World.cell?, Addr.add, Array.getElem?_eq_none h] at h0
  refine ⟨b, o, rfl, hb, fun j hj => ?_⟩
  have hj2 := hc j (by omega)
  rw [Addr.add_lit] at hj2
  rw [hj2]
  simp [List.getD, hj]
theorem open_list {W : World} {base : Nat} {r : Reach} {b0 : Nat} {v : Value} {d : DataW H} {ps : List MemPlace} (_hv : Value.okWide Tryd.prog W r b0 23 v) (h : DataW.Trod enc Tryd.prog W base (fun _ => true) true 23 v d ps) :
    ∃ (A : Option Addr) (n c : Nat) (xs : List Int), v = .slice A n c ∧ Sl W A n c xs := by
  obtain ⟨a, ln, cap, rfl⟩ := okWide_slice Tryd.underlying23 _hv
  obtain ⟨fuel, hf⟩ := h
  rcases open_ints Tryd.underlying23 Tryd.underlying2 cells_int64 hf with ⟨e4, _⟩ | ⟨a', len, cap', xs, e4, _, hlc, hmx, hxl, _, hc, hw⟩
  · simp only [Value.cells, List.cons.injEq, and_true] at e4
    exact ⟨none, 0, 0, [], e4, Sl.nil W⟩
  · simp only [Value.cells, List.cons.injEq, and_true] at e4
    rw [if_pos rfl] at hxl
    exact ⟨_, _, _, _, e4, sl_of_cells hlc hmx hxl (fun i hi => hc i (by omega))⟩
theorem open_str {W : World} {base : Nat} {r : Reach} {b0 : Nat} {v : Value} {d : DataW H} {ps : List MemPlace} (hv : Value.okWide Tryd.prog W r b0 9 v) (h : DataW.Trod enc Tryd.prog W base (fun _ => true) true 9 v d ps) :
    ∃ s : ByteArray, v = .string s ∧ s.size ≤ 9223372036854775807 := by
  obtain ⟨s, e, _, _, hs⟩ := Go.ChangeMaps.open_string Tryd.underlying9 hv h
  exact ⟨s, e, by unfold maxLen at hs; omega⟩
theorem cells_slice6 : Tryd.prog.cellsOf 23 = 1 := by kernel_rfl
theorem open_row {W : World} {base n : Nat} {v : Value} {y : DataW H × List MemPlace} (g : DataW.trod enc Tryd.prog W base (fun _ => true) true n 23 [v] = some y) : ∃ r : RowS, v = r.val ∧ Sl W r.a r.xs.length r.c r.xs := by
  rcases open_ints Tryd.underlying23 Tryd.underlying2 cells_int64 g with ⟨e4, _⟩ | ⟨a', len, cap', xs, e4, _, hlc, hmx, hxl, _, hc, hw⟩
  · simp only [List.cons.injEq, and_true] at e4
    exact ⟨⟨none, 0, []⟩, e4, Sl.nil W⟩
  · simp only [List.cons.injEq, and_true] at e4
    rw [if_pos rfl] at hxl
    have hl : (xs.take len).length = len := by rw [List.length_take]; omega
    have hS := sl_of_cells hlc hmx hxl (fun i hi => hc i (by omega))
    refine ⟨⟨some a', cap', xs.take len⟩, ?_, ?_⟩
    · rw [e4, RowS.val]
      simp only [hl]
    · simp only [hl]
      exact hS
instance : Inhabited RowS := ⟨rowS0⟩
theorem open_rows {W : World} {base : Nat} {r : Reach} {b0 : Nat} {v : Value} {d : DataW H} {ps : List MemPlace} (_hv : Value.okWide Tryd.prog W r b0 31 v) (h : DataW.Trod enc Tryd.prog W base (fun _ => true) true 31 v d ps) :
    ∃ (A : Option Addr) (n c : Nat) (rs : List RowS), v = .slice A n c ∧ SlR W A n c rs := by
  obtain ⟨a, ln, cap, rfl⟩ := okWide_slice Tryd.underlying31 _hv
  obtain ⟨fuel, hf⟩ := h
  rcases open_slice1 Tryd.underlying31 cells_slice6 hf with ⟨e4, _⟩ | ⟨a', len, cap', m, n, V, D, Pl, e4, _, hlc, hmx, hm, _, hx⟩
  · simp only [Value.cells, List.cons.injEq, and_true] at e4
    exact ⟨none, 0, 0, [], e4, rfl, Nat.le_refl _, Nat.zero_le _, fun h => absurd h (by omega), fun r hr => by cases hr⟩
  · simp only [Value.cells, List.cons.injEq, and_true] at e4
    rw [if_pos rfl] at hm
    obtain ⟨R, hR⟩ := choose_lt (α := RowS) (n := len) (p := fun i r => W.cell? (a'.add i) = some r.val ∧ Sl W r.a r.xs.length r.c r.xs) (fun i hi => by
      obtain ⟨h1, h2⟩ := hx i (by omega)
      obtain ⟨r, e, hs⟩ := open_row h2
      exact ⟨r, by rw [h1, e], hs⟩)
    refine ⟨some a', len, cap', (List.range len).map R, e4, by simp, hlc, hmx, fun hn => ?_, fun r hr => ?_⟩
    · have h0 := (hR 0 hn).1
      obtain ⟨b, o, sp⟩ := a'
      have hsp : sp = none := by
        cases sp with
        | none => rfl
        | some s =>
          simp [World.cell?, Addr.add] at h0
          split at h0 <;> simp at h0
      subst hsp
      have hb : b < W.heap.size := by
        rcases Nat.lt_or_ge b W.heap.size with h | h
        · exact h
        · simp [World.cell?, Addr.add, Array.getElem?_eq_none h] at h0
      refine ⟨b, o, rfl, hb, fun j hj => ?_⟩
      have hj2 := (hR j hj).1
      rw [Addr.add_lit] at hj2
      rw [hj2]
      simp [List.getD, hj]
    · obtain ⟨i, hi, rfl⟩ := List.mem_map.1 hr
      exact (hR i (List.mem_range.1 hi)).2
end
end Go.Proofs.YtimpdfafodaadaaDoor

/-
  slices.Clone of integers; the reference's Two.
-/
import Derived.Test.YtimpdfafodaadaaDoorProg
import Derived.Test.YtimpdfafodaadaaDoorBase2
namespace Go.Proofs.YtimpdfafodaadaaDoor
open Go.RowKit

theorem infoI64 : (Tryd.prog.info? 2).map (fun i => (i.zero, i.size, i.bytes)) = some (some (.int .i64 0), 1, 8) := by kernel_rfl

set_option maxHeartbeats 1000000 in
/-- slices.Clone: the same integers in memory of the call's own. -/
theorem clone_any (A : Option Addr) (n c : Nat) (xs : List Int) (w : World) (hs : Sl w A n c xs) (hn : n ≤ 1000000) :
    Calls Tryd.prog 46 #[.slice A n c] w fun e w' => (∃ A' c', e = .returned (.slice A' n c') ∧ w'.ownsRow w.heap.size 2 1 (.slice A' n c') n (xs.map (Value.int .i64)) ∧ Sl w' A' n c' xs ∧ New w A') ∧ Below w.heap.size w w' := by
  obtain ⟨i0, hi, hz0, hz1, hz2⟩ := info_parts infoI64
  have q22 : ∀ (w : World) (a : Option Addr) (n c n' c' : Nat), (binOp .eql 23 (.slice a n c) (.slice none n' c')).run Tryd.prog w = .ok (.bool a.isNone) w := fun w a n c n' c' => Lib.run_eql_slice_nil w _ _ a n c n' c' Tryd.underlying23
  have HS := Lib.hid hs
  clear hs
  cases A with
  | none =>
    have h0 : n = 0 := by
      rcases Nat.eq_zero_or_pos n with h | h
      · exact h
      · obtain ⟨b, o, hA, _⟩ := HS.out.at_ h
        cases hA
    subst h0
    obtain rfl : xs = [] := List.eq_nil_of_length_eq_zero HS.out.len
    go_enter Tryd.func46, Tryd.ntmps46
    go_wp2
    go_ret
    exact ⟨⟨none, 0, rfl, World.ownsRow_nil _ _ _ _, Sl.nil _, fun _ _ _ h => by cases h⟩, Below.refl _ _⟩
  | some ad =>
    go_enter Tryd.func46, Tryd.ntmps46
    go_wp2_with (at_builtin; refine wpList_append_own _ rfl _ _ 23 rfl w.heap.size 2 i0 (.int .i64 0) 1 8 Tryd.underlying23 hi hz0 hz1 hz2 rfl (by decide) _ _ _ rfl (World.ownsRow_made w #[] 0 (Nat.le_refl _) (Nat.zero_le _) (by simp)) ad n c (xs.map (Value.int .i64)) rfl ?qc1 ?qc2 ?qc3 ?qc4 ?qc5 ?qc6 ?_)
    case qc1 => simpa using HS.out.len
    case qc2 =>
      intro j u hj
      have hjn : j < n := by
        have := (List.getElem?_eq_some_iff.1 hj).1
        simp at this
        rw [HS.out.len] at this
        exact this
      obtain ⟨b, o, hA, hlt, hc⟩ := HS.out.at_ hjn
      simp only [Option.some.injEq] at hA
      subst hA
      rw [map_getD (by rw [HS.out.len]; exact hjn)] at hj
      rw [Addr.add_lit, World.cell?_alloc_lt _ _ _ hlt, hc, hj]
    case qc3 => exact ints_oneCell _ _
    case qc4 => unfold maxLen; omega
    case qc5 => omega
    case qc6 => simp
    intro v' w1 hown hgrow hnil
    go_wp2
    go_ret
    have hown' : w1.ownsRow w.heap.size 2 1 v' n (xs.map (Value.int .i64)) := by simpa using hown
    obtain ⟨A', c', rfl, hS, _⟩ := Sl.of_own hown'
    exact ⟨⟨A', c', rfl, hown', hS, New.of_own hown'⟩, ((Below.refl _ w).alloc (Nat.le_refl _) _).grown hgrow (by simp) (by intro k hk; simp [Value.ownBlock] at hk; omega)⟩
end Go.Proofs.YtimpdfafodaadaaDoor

/-
  append as a step of a region that draws its order.
-/
import Derived.Test.YtfbloddffhafdaaApp
import Derived.Deep.RegionLaw
namespace Go.Proofs.Ytfbloddffhafdaa
open Go.RowKit

theorem step_append_sl {ops : Array Oper} {o : Oper} {a : Act} {w : World} {K : Act → World → Prop} {Q : Exit → Act → World → Prop} {E : Prop} (hgd : o.guard = none) (s x : Operand)
    (ho : o.op = .call { callee := .builtin .append, args := #[s, x], argTypes := #[23, 23] }) (hty : o.type = 23)
    (base : Nat) (v : Value) (n : Nat) (xs : List Int) (hs : a.eval s = v) (hown : w.ownsRow base 2 1 v n (xs.map (Value.int .i64)))
    (A : Option Addr) (m c : Nat) (ys : List Int) (hx : a.eval x = .slice A m c) (hr : Sl w A m c ys) (hbig : n + m ≤ 10000000) (hbase : base ≤ w.heap.size)
    (h : ∀ A' c' w', Grew w w' base v (n + m) (xs ++ ys) A' c' → K (a.put o.dst (.slice A' (n + m) c')) w') :
    if Region.wanted o (yielded ops a.tmps) = true then Oper.wp Try.prog o a w K Q else E := by
  have hw : Region.wanted o (yielded ops a.tmps) = true := by simp [Region.wanted, hgd]
  rw [if_pos hw]
  obtain ⟨i0, hi, hz0, hz1, hz2⟩ := info_parts infoI64
  cases A with
  | none =>
    have h0 : m = 0 := by
      rcases Nat.eq_zero_or_pos m with h | h
      · exact h
      · obtain ⟨b, o, hA, _⟩ := hr.at_ h
        cases hA
    subst h0
    obtain rfl : ys = [] := List.eq_nil_of_length_eq_zero hr.len
    have hrun := runAppendNil w base n _ v c hown
    obtain ⟨A', c', rfl, hS, _⟩ := Sl.of_own hown
    unfold Oper.wp
    simp [execOp, ho, hty, resolve, invoke, builtin, hs, hx, hrun, Result.andThen]
    exact h A' c' w ⟨by simpa using hown, by simpa using hS, World.grownBy.refl w _⟩
  | some ad =>
    obtain ⟨v', w', hrun, hown', hg, _⟩ := run_append_own (P := Try.prog) w base 23 o.type 2 i0 (.int .i64 0) 1 8 Try.underlying23 hi hz0 hz1 hz2 rfl (by decide) v n _ hown ad m c (ys.map (Value.int .i64)) (by simpa using hr.len) (by
      intro j u hj
      have hjn : j < m := by
        have := (List.getElem?_eq_some_iff.1 hj).1
        simp at this
        rw [hr.len] at this
        exact this
      obtain ⟨b, o, hA, hlt, hc⟩ := hr.at_ hjn
      simp only [Option.some.injEq] at hA
      subst hA
      rw [map_getD (by rw [hr.len]; exact hjn)] at hj
      rw [Addr.add_lit, hc, hj]) (ints_oneCell _ _) (by unfold maxLen; omega) (by omega) hbase
    unfold Oper.wp
    simp [execOp, ho, resolve, invoke, builtin, hs, hx, hrun, Result.andThen]
    have hown2 : w'.ownsRow base 2 1 v' (n + m) ((xs ++ ys).map (Value.int .i64)) := by simpa using hown'
    obtain ⟨A', c', rfl, hS, _⟩ := Sl.of_own hown2
    exact h A' c' w' ⟨hown2, hS, hg⟩
theorem slOne (w : World) (y : Int) : Sl (w.alloc (.cells #[.int .i64 y] 2)) (some ⟨w.heap.size, 0, none⟩) 1 1 [y] := by
  have := Bx.new w #[.int .i64 y] 2
  exact Sl.of_box this rfl (by omega) (by decide) (fun j hj => by
    obtain rfl : j = 0 := by omega
    rfl)

end Go.Proofs.Ytfbloddffhafdaa

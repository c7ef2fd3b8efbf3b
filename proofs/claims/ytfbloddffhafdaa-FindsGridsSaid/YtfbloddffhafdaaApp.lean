/-
  The builtin append of integers onto a row of the call's own: the source may be nil.
-/
import Derived.Test.YtfbloddffhafdaaLib
import Derived.Test.YtfbloddffhafdaaRet
namespace Go.Proofs.Ytfbloddffhafdaa
open Go.RowKit

theorem runAppendNil (w : World) (base n : Nat) (xs : List Value) (v : Value) (c : Nat) (hown : w.ownsRow base 2 1 v n xs) :
    (Builtin.append_ #[23, 23] 23 #[v, .slice none 0 c]).run Try.prog w = .ok v w := by
  obtain ⟨i0, hi, hz0, hz1, hz2⟩ := info_parts infoI64
  have ht := Try.underlying23
  rcases hown.2 with ⟨rfl, rfl⟩ | ⟨g, cap, cur, rfl, _, _, hnc, _⟩
  · simp [Builtin.append_, run_underlying ht, sizeOf, typeInfo, hi, Builtin.lenOf, Builtin.firstCells]
  · simp [Builtin.append_, run_underlying ht, sizeOf, typeInfo, hi, Builtin.lenOf, Builtin.firstCells, hnc, storeCells]

/-- What an append onto a row of the call's own leaves. -/
def Grew (w w' : World) (base : Nat) (v : Value) (n : Nat) (xs : List Int) (A : Option Addr) (c : Nat) : Prop :=
  w'.ownsRow base 2 1 (.slice A n c) n (xs.map (Value.int .i64)) ∧ Sl w' A n c xs ∧ w.grownBy w' v.ownBlock

theorem wpList_append_sl {ops : Array Oper} {rest : List Oper} {o : Oper} {a : Act} {w : World} {Q : Exit → Act → World → Prop} (hgd : o.guard = none) (s x : Operand)
    (ho : o.op = .call { callee := .builtin .append, args := #[s, x], argTypes := #[23, 23] }) (hty : o.type = 23)
    (base : Nat) (v : Value) (n : Nat) (xs : List Int) (hs : a.eval s = v) (hown : w.ownsRow base 2 1 v n (xs.map (Value.int .i64)))
    (A : Option Addr) (m c : Nat) (ys : List Int) (hx : a.eval x = .slice A m c) (hr : Sl w A m c ys) (hbig : n + m ≤ 10000000) (hbase : base ≤ w.heap.size)
    (h : ∀ A' c' w', Grew w w' base v (n + m) (xs ++ ys) A' c' → wpList Try.prog ops Q rest (a.put o.dst (.slice A' (n + m) c')) w') : wpList Try.prog ops Q (o :: rest) a w := by
  obtain ⟨i0, hi, hz0, hz1, hz2⟩ := info_parts infoI64
  cases A with
  | none =>
    have h0 : m = 0 := by
      rcases Nat.eq_zero_or_pos m with h | h
      · exact h
      · obtain ⟨b, o, hA, _⟩ := hr.at_ h
        cases hA
    subst h0
    obtain rfl : ys = [] := List.eq_nil_of_length_eq_zero hr.len
    refine wpList_plain hgd fun K hK => ?_
    have hrun := runAppendNil w base n _ v c hown
    obtain ⟨A', c', rfl, hS, _⟩ := Sl.of_own hown
    unfold Oper.wp
    simp [execOp, ho, hty, resolve, invoke, builtin, hs, hx, hrun, Result.andThen]
    exact hK _ _ (h A' c' w ⟨by simpa using hown, by simpa using hS, World.grownBy.refl w _⟩)
  | some ad =>
    refine wpList_append_own w hgd s x 23 ho base 2 i0 (.int .i64 0) 1 8 Try.underlying23 hi hz0 hz1 hz2 rfl (by decide) v n _ hs hown ad m c (ys.map (Value.int .i64)) hx (by simpa using hr.len) ?_ (ints_oneCell _ _) (by unfold maxLen; omega) (by omega) hbase ?_
    · intro j u hj
      have hjn : j < m := by
        have := (List.getElem?_eq_some_iff.1 hj).1
        simp at this
        rw [hr.len] at this
        exact this
      obtain ⟨b, o, hA, hlt, hc⟩ := hr.at_ hjn
      simp only [Option.some.injEq] at hA
      subst hA
      rw [map_getD (by rw [hr.len]; exact hjn)] at hj
      rw [Addr.add_lit, hc, hj]
    · intro v' w' hown' hg _
      have hown2 : w'.ownsRow base 2 1 v' (n + m) ((xs ++ ys).map (Value.int .i64)) := by simpa using hown'
      obtain ⟨A', c', rfl, hS, _⟩ := Sl.of_own hown2
      exact h A' c' w' ⟨hown2, hS, hg⟩

/-- The empty row that '[]int64{}' lays. -/
theorem ownEmpty (w : World) (base B : Nat) (hB : w.heap.size = B) (hb : base ≤ w.heap.size) : (w.alloc (.cells #[] 2)).ownsRow base 2 1 (.slice (some ⟨B, 0, none⟩) 0 0) 0 (([] : List Int).map (Value.int .i64)) := by
  subst hB
  exact World.ownsRow_made w #[] 0 hb (Nat.zero_le _) (by simp)
theorem Grew.below {w0 w w' : World} {base n c : Nat} {v : Value} {xs : List Int} {A : Option Addr} (h : Grew w w' base v n xs A c) (hb : Below w0.heap.size w0 w) (hv : ∀ k, v.ownBlock = some k → w0.heap.size ≤ k) : Below w0.heap.size w0 w' :=
  hb.grown h.2.2 hb.size hv
theorem Grew.from {w w' : World} {base n c : Nat} {v : Value} {xs : List Int} {A : Option Addr} (h : Grew w w' base v n xs A c) : ∀ b o s, A = some ⟨b, o, s⟩ → base ≤ b := by
  intro b o s hA
  subst hA
  rcases h.1.2 with ⟨h1, _⟩ | ⟨g, cap, cur, h1, hb, _⟩
  · cases h1
  · simp only [Value.slice.injEq, Option.some.injEq, Addr.mk.injEq] at h1
    omega
theorem Grew.new {w0 w w' : World} {n c : Nat} {v : Value} {xs : List Int} {A : Option Addr} (h : Grew w w' w0.heap.size v n xs A c) : New w0 A := New.of_own h.1
end Go.Proofs.Ytfbloddffhafdaa

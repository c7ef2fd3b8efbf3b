/-
  The reference's encoded: a rune in UTF-8.
-/
import Derived.Test.YtimpdfafodaadaaDoorStr
import Derived.Test.YtimpdfafodaadaaDoorTxr
namespace Go.Proofs.YtimpdfafodaadaaDoor
open Go.RowKit
attribute [local go_sem] Oper.semAt_some

/-! ### append of a row of bytes onto a row of bytes -/
theorem infoU8 : (Tryd.prog.info? 5).map (fun i => (i.zero, i.size, i.bytes)) = some (some (.int .u8 0), 1, 1) := by kernel_rfl
theorem runAppendNil8 (w : World) (base n : Nat) (xs : List Value) (v : Value) (c : Nat) (hown : w.ownsRow base 5 1 v n xs) :
    (Builtin.append_ #[56, 56] 56 #[v, .slice none 0 c]).run Tryd.prog w = .ok v w := by
  obtain ⟨i0, hi, hz0, hz1, hz2⟩ := info_parts infoU8
  have ht := Tryd.underlying56
  rcases hown.2 with ⟨rfl, rfl⟩ | ⟨g, cap, cur, rfl, _, _, hnc, _⟩
  · simp [Builtin.append_, run_underlying ht, sizeOf, typeInfo, hi, Builtin.lenOf, Builtin.firstCells]
  · simp [Builtin.append_, run_underlying ht, sizeOf, typeInfo, hi, Builtin.lenOf, Builtin.firstCells, hnc, storeCells]
theorem wpList_append_u8 {ops : Array Oper} {rest : List Oper} {o : Oper} {a : Act} {w : World} {Q : Exit → Act → World → Prop} (hgd : o.guard = none) (s x : Operand)
    (ho : o.op = .call { callee := .builtin .append, args := #[s, x], argTypes := #[56, 56] }) (hty : o.type = 56)
    (base : Nat) (v : Value) (n : Nat) (zs : List Int) (hs : a.eval s = v) (hown : w.ownsRow base 5 1 v n (zs.map (Value.int .u8)))
    (base2 : Nat) (A : Option Addr) (m c : Nat) (ys : List Int) (hx : a.eval x = .slice A m c) (hr : w.ownsRow base2 5 1 (.slice A m c) m (ys.map (Value.int .u8))) (hbig : n + m ≤ 10000000) (hbase : base ≤ w.heap.size)
    (h : ∀ A' c' w', w'.ownsRow base 5 1 (.slice A' (n + m) c') (n + m) ((zs ++ ys).map (Value.int .u8)) → w.grownBy w' v.ownBlock → wpList Tryd.prog ops Q rest (a.put o.dst (.slice A' (n + m) c')) w') : wpList Tryd.prog ops Q (o :: rest) a w := by
  obtain ⟨i0, hi, hz0, hz1, hz2⟩ := info_parts infoU8
  have hl : ys.length = m := by have := hr.1; simpa using this
  rcases hr.2 with ⟨h1, hx0⟩ | ⟨g, cap, cur, h1, hb, hg, hn, hm, hsz, ht⟩
  · simp only [Value.slice.injEq] at h1
    obtain ⟨rfl, rfl, rfl⟩ := h1
    obtain rfl : ys = [] := List.length_eq_zero_iff.1 hl
    refine wpList_plain hgd fun K hK => ?_
    have hrun := runAppendNil8 w base n _ v 0 hown
    obtain ⟨A', c', rfl⟩ := own_slice hown
    unfold Oper.wp
    simp [execOp, ho, hty, resolve, invoke, builtin, hs, hx, hrun, Result.andThen]
    exact hK _ _ (h A' c' w (by simpa using hown) (World.grownBy.refl w _))
  · simp only [Value.slice.injEq] at h1
    obtain ⟨rfl, _, rfl⟩ := h1
    refine wpList_append_own w hgd s x 56 ho base 5 i0 (.int .u8 0) 1 1 Tryd.underlying56 hi hz0 hz1 hz2 rfl (by decide) v n _ hs hown ⟨g, 0, none⟩ m c (ys.map (Value.int .u8)) hx (by simpa using hl) ?_ (ints_oneCell _ _) (by unfold maxLen; omega) (by omega) hbase ?_
    · intro j u hj
      have hjn : j < m := by
        have := (List.getElem?_eq_some_iff.1 hj).1
        simp at this
        omega
      rw [← ht, Nat.mul_one, List.getElem?_take, if_pos hjn] at hj
      rw [Addr.add_lit, Nat.zero_add, Bx.cell (w := w) (cs := cur) hg]
      simpa using hj
    · intro v' w' hown' hg' _
      have hown2 : w'.ownsRow base 5 1 v' (n + m) ((zs ++ ys).map (Value.int .u8)) := by simpa using hown'
      obtain ⟨A', c', rfl⟩ := own_slice hown2
      exact h A' c' w' hown2 hg'
/-- The literal of one byte. -/
theorem ownByte (w : World) (base : Nat) (x : Int) (hb : base ≤ w.heap.size) : (w.alloc (.cells #[.int .u8 x] 5)).ownsRow base 5 1 (.slice (some ⟨w.heap.size, 0, none⟩) 1 1) 1 ([x].map (Value.int .u8)) :=
  World.ownsRow_lit w #[.int .u8 x] 1 hb (by unfold maxLen; omega) rfl

/-! ### The rounds -/
def encI : Nat → Int × List Int → Int × List Int
  | 0, s => s
  | g + 1, s => encI g (s.1 / 64, (128 + s.1 % 64) :: s.2)
def firstB (N : Nat) : Int := if N = 3 then 224 else if N = 4 then 240 else 192
theorem enc_fin {c : Int} (hc : isRune c = true) {N : Nat} (hN : sizeI c = (N : Int)) (h2 : 2 ≤ N) : N ≤ 4 ∧ 0 ≤ (encI (N - 1) (c, [])).1 ∧ firstB N + (encI (N - 1) (c, [])).1 ≤ 255 ∧ Lib.encodeRuneZ c = (firstB N + (encI (N - 1) (c, [])).1) :: (encI (N - 1) (c, [])).2 := by
  obtain ⟨h0, h1, hs⟩ := isRune_b hc
  unfold sizeI at hN
  split at hN
  · omega
  · split at hN
    · obtain rfl : N = 2 := by omega
      rw [Lib.encodeRuneZ_two (by omega) (by omega)]
      simp [encI, firstB]
      omega
    · split at hN
      · obtain rfl : N = 3 := by omega
        rw [Lib.encodeRuneZ_three (by omega)]
        simp [encI, firstB]
        omega
      · obtain rfl : N = 4 := by omega
        rw [Lib.encodeRuneZ_four (by omega) (by omega)]
        simp [encI, firstB]
        omega
end Go.Proofs.YtimpdfafodaadaaDoor

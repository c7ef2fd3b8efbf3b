/-
  A call's return with two lengths that lie in a block of the call's own.
-/
import Derived.Test.YtimpdfafodaadaaDoorRchk
import Derived.Test.YtimpdfafodaadaaDoorS5
namespace Go.Proofs.YtimpdfafodaadaaDoor
open Go.RowKit
theorem Bx.dr {w : World} {B : Nat} {cs : Array Value} {T : TypeId} (h : Bx w B cs T) : Bx w.drew B cs T := h
theorem set2_heap (w : World) (B : Nat) (v0 v1 : Value) {b : Nat} (h : b ≠ B) : ((w.setCell ⟨B, 0, none⟩ v0).setCell ⟨B, 1, none⟩ v1).heap[b]? = w.heap[b]? := by
  rw [Below.heap_setCell _ _ _ _ h, Below.heap_setCell _ _ _ _ h]
theorem Bx.set2 {w : World} {B : Nat} {u0 u1 : Value} {T : TypeId} (h : Bx w B #[u0, u1] T) (v0 v1 : Value) : Bx ((w.setCell ⟨B, 0, none⟩ v0).setCell ⟨B, 1, none⟩ v1) B #[v0, v1] T := by
  have := (h.set_ 0 v0).set_ 1 v1
  simpa using this
theorem Bx.past2 {w : World} {b : Nat} {cs : Array Value} {T : TypeId} (h : Bx w b cs T) {B : Nat} (v0 v1 : Value) (hb : b ≠ B) : Bx ((w.setCell ⟨B, 0, none⟩ v0).setCell ⟨B, 1, none⟩ v1) b cs T :=
  (set2_heap w B v0 v1 hb).trans h
theorem below_set2 {w0 w : World} (h : Below w0.heap.size w0 w) {B : Nat} (hB : w0.heap.size ≤ B) (v0 v1 : Value) : Below w0.heap.size w0 ((w.setCell ⟨B, 0, none⟩ v0).setCell ⟨B, 1, none⟩ v1) :=
  bsc (bsc h hB _) hB _
theorem retLE {fn : Func} {tB t : Tmp} {a : Act} {w : World} {R : Ending → World → Prop} {B : Nat} {x y ec : Int}
    (hres : fn.results = #[.cell tB 22, .tmp t]) (hd : a.defers = []) (hp : a.tmps.getD tB undef = .pointer (some ⟨B, 0, none⟩)) (he : a.tmps.getD t undef = .int .i64 ec)
    (hb : Bx w B #[.int .i64 x, .int .i64 y] 22) (hR : R (.returned (.tuple #[.agg #[.int .i64 x, .int .i64 y], .int .i64 ec])) w) : bodyPost Tryd.prog fn R .ret a w := by
  have g := hb.cell
  rw [Array.getD_eq_getD_getElem?] at hp he
  refine bodyPost_ret (v := .tuple #[.agg #[.int .i64 x, .int .i64 y], .int .i64 ec]) ?_ hd hR
  simp [results, hres, hp, he, go_sem, g]
theorem retRLE {fn : Func} {tr tB t : Tmp} {a : Act} {w : World} {R : Ending → World → Prop} {B : Nat} {r x y ec : Int}
    (hres : fn.results = #[.tmp tr, .cell tB 22, .tmp t]) (hd : a.defers = []) (hr : a.tmps.getD tr undef = .int .i64 r) (hp : a.tmps.getD tB undef = .pointer (some ⟨B, 0, none⟩)) (he : a.tmps.getD t undef = .int .i64 ec)
    (hb : Bx w B #[.int .i64 x, .int .i64 y] 22) (hR : R (.returned (.tuple #[.int .i64 r, .agg #[.int .i64 x, .int .i64 y], .int .i64 ec])) w) : bodyPost Tryd.prog fn R .ret a w := by
  have g := hb.cell
  rw [Array.getD_eq_getD_getElem?] at hp he hr
  refine bodyPost_ret (v := .tuple #[.int .i64 r, .agg #[.int .i64 x, .int .i64 y], .int .i64 ec]) ?_ hd hR
  simp [results, hres, hp, he, hr, go_sem, g]
end Go.Proofs.YtimpdfafodaadaaDoor

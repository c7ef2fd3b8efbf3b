/-
  Words and small laws that all texts of this seat use: a slice of integers that reads as a list, worlds that have only grown. No program in sight.
-/
import Derived.WalkKit
import Derived.WalkSpells
import Derived.WalkLawsBesides
import Derived.Deep.LoopGhost
import Derived.Deep.QuietTactic
import Derived.BigQuiet
import Derived.Lib.Hide
import Derived.Shelf.Abstract
namespace Go.Proofs.Ytfbloddffhafdaa
open Go.RowKit

/-! ### Worlds that have only grown -/
theorem bal {w0 w : World} (h : Below w0.heap.size w0 w) (o : Obj) : Below w0.heap.size w0 (w.alloc o) := h.alloc h.size o
theorem bdr {w0 w : World} (h : Below w0.heap.size w0 w) : Below w0.heap.size w0 w.drew := h.drew
theorem bdn {w0 w : World} (h : Below w0.heap.size w0 w) (n : Nat) : Below w0.heap.size w0 (w.drewN n) := ⟨h.os, h.tape, h.output, h.size, h.block⟩
theorem bst {w0 w w' : World} (h : Below w0.heap.size w0 w) (h' : Below w.heap.size w w') : Below w0.heap.size w0 w' := h.trans (h'.mono h.size)
theorem bsc {w0 w : World} (h : Below w0.heap.size w0 w) {p : Addr} (hp : w0.heap.size ≤ p.block) (u : Value) : Below w0.heap.size w0 (w.setCell p u) := h.setCell hp u

/-- A block of the call's own, known whole. -/
def Bx (w : World) (B : Nat) (cs : Array Value) (T : TypeId) : Prop := w.heap[B]? = some (.cells cs T (0, 0))
theorem Bx.new (w : World) (cs : Array Value) (T : TypeId) : Bx (w.alloc (.cells cs T)) w.heap.size cs T := heap_alloc_new w _
theorem Bx.lt {w : World} {B : Nat} {cs : Array Value} {T : TypeId} (h : Bx w B cs T) : B < w.heap.size := by
  rcases Nat.lt_or_ge B w.heap.size with hlt | hge
  · exact hlt
  · unfold Bx at h; rw [Array.getElem?_eq_none hge] at h; cases h
theorem Bx.step {w w' : World} {B : Nat} {cs : Array Value} {T : TypeId} (h : Bx w B cs T) (hb : Below w.heap.size w w') : Bx w' B cs T := (hb.block B h.lt).trans h
theorem Bx.alloc {w : World} {B : Nat} {cs : Array Value} {T : TypeId} (h : Bx w B cs T) (o : Obj) : Bx (w.alloc o) B cs T := (Below.heap_alloc w o B h.lt).trans h
theorem Bx.drewN {w : World} {B : Nat} {cs : Array Value} {T : TypeId} (h : Bx w B cs T) (n : Nat) : Bx (w.drewN n) B cs T := h
theorem Bx.far {w : World} {B : Nat} {cs : Array Value} {T : TypeId} (h : Bx w B cs T) {p : Addr} (hp : B ≠ p.block) (u : Value) : Bx (w.setCell p u) B cs T := (Below.heap_setCell w p u B hp).trans h
theorem Bx.set_ {w : World} {B : Nat} {cs : Array Value} {T : TypeId} (h : Bx w B cs T) (i : Nat) (u : Value) : Bx (w.setCell ⟨B, i, none⟩ u) B (cs.setIfInBounds i u) T := by
  unfold Bx at h ⊢
  simp [World.setCell, Array.getElem?_modify, h]
theorem Bx.cell {w : World} {B : Nat} {cs : Array Value} {T : TypeId} (h : Bx w B cs T) (i : Nat) : w.cell? ⟨B, i, none⟩ = cs[i]? := cell_of_row w B i cs T (0, 0) h
theorem Bx.frozen {w : World} {B : Nat} {cs : Array Value} {T : TypeId} (h : Bx w B cs T) (i : Nat) : w.frozen? ⟨B, i, none⟩ = false := by
  unfold Bx at h
  simp [World.frozen?, h]

/-! ### The boxes that a function lays ahead of a call, behind the call -/
theorem below1 (w : World) (o0 : Obj) : Below w.heap.size w (w.alloc o0) := bal (Below.refl _ _) _
theorem below2 (w : World) (o0 o1 : Obj) : Below w.heap.size w ((w.alloc o0).alloc o1) := bal (bal (Below.refl _ _) _) _
theorem below3 (w : World) (o0 o1 o2 : Obj) : Below w.heap.size w (((w.alloc o0).alloc o1).alloc o2) := bal (bal (bal (Below.refl _ _) _) _) _
theorem below4 (w : World) (o0 o1 o2 o3 : Obj) : Below w.heap.size w ((((w.alloc o0).alloc o1).alloc o2).alloc o3) := bal (bal (bal (bal (Below.refl _ _) _) _) _) _
theorem below5 (w : World) (o0 o1 o2 o3 o4 : Obj) : Below w.heap.size w (((((w.alloc o0).alloc o1).alloc o2).alloc o3).alloc o4) := bal (bal (bal (bal (bal (Below.refl _ _) _) _) _) _) _
theorem below6 (w : World) (o0 o1 o2 o3 o4 o5 : Obj) : Below w.heap.size w ((((((w.alloc o0).alloc o1).alloc o2).alloc o3).alloc o4).alloc o5) := bal (bal (bal (bal (bal (bal (Below.refl _ _) _) _) _) _) _) _
theorem below7 (w : World) (o0 o1 o2 o3 o4 o5 o6 : Obj) : Below w.heap.size w (((((((w.alloc o0).alloc o1).alloc o2).alloc o3).alloc o4).alloc o5).alloc o6) := bal (bal (bal (bal (bal (bal (bal (Below.refl _ _) _) _) _) _) _) _) _
theorem below8 (w : World) (o0 o1 o2 o3 o4 o5 o6 o7 : Obj) : Below w.heap.size w ((((((((w.alloc o0).alloc o1).alloc o2).alloc o3).alloc o4).alloc o5).alloc o6).alloc o7) := bal (bal (bal (bal (bal (bal (bal (bal (Below.refl _ _) _) _) _) _) _) _) _) _
theorem below9 (w : World) (o0 o1 o2 o3 o4 o5 o6 o7 o8 : Obj) : Below w.heap.size w (((((((((w.alloc o0).alloc o1).alloc o2).alloc o3).alloc o4).alloc o5).alloc o6).alloc o7).alloc o8) := bal (bal (bal (bal (bal (bal (bal (bal (bal (Below.refl _ _) _) _) _) _) _) _) _) _) _
theorem below10 (w : World) (o0 o1 o2 o3 o4 o5 o6 o7 o8 o9 : Obj) : Below w.heap.size w ((((((((((w.alloc o0).alloc o1).alloc o2).alloc o3).alloc o4).alloc o5).alloc o6).alloc o7).alloc o8).alloc o9) := bal (bal (bal (bal (bal (bal (bal (bal (bal (bal (Below.refl _ _) _) _) _) _) _) _) _) _) _) _
theorem below11 (w : World) (o0 o1 o2 o3 o4 o5 o6 o7 o8 o9 o10 : Obj) : Below w.heap.size w (((((((((((w.alloc o0).alloc o1).alloc o2).alloc o3).alloc o4).alloc o5).alloc o6).alloc o7).alloc o8).alloc o9).alloc o10) := bal (bal (bal (bal (bal (bal (bal (bal (bal (bal (bal (Below.refl _ _) _) _) _) _) _) _) _) _) _) _) _
theorem below12 (w : World) (o0 o1 o2 o3 o4 o5 o6 o7 o8 o9 o10 o11 : Obj) : Below w.heap.size w ((((((((((((w.alloc o0).alloc o1).alloc o2).alloc o3).alloc o4).alloc o5).alloc o6).alloc o7).alloc o8).alloc o9).alloc o10).alloc o11) := bal (bal (bal (bal (bal (bal (bal (bal (bal (bal (bal (bal (Below.refl _ _) _) _) _) _) _) _) _) _) _) _) _) _
theorem after1 {w w1 : World} {o0 : Obj} (h : Below (w.alloc o0).heap.size (w.alloc o0) w1) : w1.heap[w.heap.size]? = some o0 ∧ Below w.heap.size w w1 := by
  refine ⟨?_, bst (below1 w o0) h⟩
  exact (h.block _ (by simp)).trans (heap_alloc_new w o0)
theorem after2 {w w1 : World} {o0 o1 : Obj} (h : Below ((w.alloc o0).alloc o1).heap.size ((w.alloc o0).alloc o1) w1) : w1.heap[w.heap.size]? = some o0 ∧ w1.heap[w.heap.size + 1]? = some o1 ∧ Below w.heap.size w w1 := by
  have hp := after1 (bst (bal (Below.refl _ (w.alloc o0)) o1) h)
  obtain ⟨h0, hb⟩ := hp
  refine ⟨h0, ?_, hb⟩
  have e : (w.alloc o0).heap.size = w.heap.size + 1 := by simp
  have := (h.block (w.alloc o0).heap.size (by simp)).trans (heap_alloc_new (w.alloc o0) o1)
  rwa [e] at this
theorem after3 {w w1 : World} {o0 o1 o2 : Obj} (h : Below (((w.alloc o0).alloc o1).alloc o2).heap.size (((w.alloc o0).alloc o1).alloc o2) w1) : w1.heap[w.heap.size]? = some o0 ∧ w1.heap[w.heap.size + 1]? = some o1 ∧ w1.heap[w.heap.size + 1 + 1]? = some o2 ∧ Below w.heap.size w w1 := by
  have hp := after2 (bst (bal (Below.refl _ ((w.alloc o0).alloc o1)) o2) h)
  obtain ⟨h0, h1, hb⟩ := hp
  refine ⟨h0, h1, ?_, hb⟩
  have e : ((w.alloc o0).alloc o1).heap.size = w.heap.size + 1 + 1 := by simp
  have := (h.block ((w.alloc o0).alloc o1).heap.size (by simp)).trans (heap_alloc_new ((w.alloc o0).alloc o1) o2)
  rwa [e] at this
theorem after4 {w w1 : World} {o0 o1 o2 o3 : Obj} (h : Below ((((w.alloc o0).alloc o1).alloc o2).alloc o3).heap.size ((((w.alloc o0).alloc o1).alloc o2).alloc o3) w1) : w1.heap[w.heap.size]? = some o0 ∧ w1.heap[w.heap.size + 1]? = some o1 ∧ w1.heap[w.heap.size + 1 + 1]? = some o2 ∧ w1.heap[w.heap.size + 1 + 1 + 1]? = some o3 ∧ Below w.heap.size w w1 := by
  have hp := after3 (bst (bal (Below.refl _ (((w.alloc o0).alloc o1).alloc o2)) o3) h)
  obtain ⟨h0, h1, h2, hb⟩ := hp
  refine ⟨h0, h1, h2, ?_, hb⟩
  have e : (((w.alloc o0).alloc o1).alloc o2).heap.size = w.heap.size + 1 + 1 + 1 := by simp
  have := (h.block (((w.alloc o0).alloc o1).alloc o2).heap.size (by simp)).trans (heap_alloc_new (((w.alloc o0).alloc o1).alloc o2) o3)
  rwa [e] at this
theorem after5 {w w1 : World} {o0 o1 o2 o3 o4 : Obj} (h : Below (((((w.alloc o0).alloc o1).alloc o2).alloc o3).alloc o4).heap.size (((((w.alloc o0).alloc o1).alloc o2).alloc o3).alloc o4) w1) : w1.heap[w.heap.size]? = some o0 ∧ w1.heap[w.heap.size + 1]? = some o1 ∧ w1.heap[w.heap.size + 1 + 1]? = some o2 ∧ w1.heap[w.heap.size + 1 + 1 + 1]? = some o3 ∧ w1.heap[w.heap.size + 1 + 1 + 1 + 1]? = some o4 ∧ Below w.heap.size w w1 := by
  have hp := after4 (bst (bal (Below.refl _ ((((w.alloc o0).alloc o1).alloc o2).alloc o3)) o4) h)
  obtain ⟨h0, h1, h2, h3, hb⟩ := hp
  refine ⟨h0, h1, h2, h3, ?_, hb⟩
  have e : ((((w.alloc o0).alloc o1).alloc o2).alloc o3).heap.size = w.heap.size + 1 + 1 + 1 + 1 := by simp
  have := (h.block ((((w.alloc o0).alloc o1).alloc o2).alloc o3).heap.size (by simp)).trans (heap_alloc_new ((((w.alloc o0).alloc o1).alloc o2).alloc o3) o4)
  rwa [e] at this
theorem after6 {w w1 : World} {o0 o1 o2 o3 o4 o5 : Obj} (h : Below ((((((w.alloc o0).alloc o1).alloc o2).alloc o3).alloc o4).alloc o5).heap.size ((((((w.alloc o0).alloc o1).alloc o2).alloc o3).alloc o4).alloc o5) w1) : w1.heap[w.heap.size]? = some o0 ∧ w1.heap[w.heap.size + 1]? = some o1 ∧ w1.heap[w.heap.size + 1 + 1]? = some o2 ∧ w1.heap[w.heap.size + 1 + 1 + 1]? = some o3 ∧ w1.heap[w.heap.size + 1 + 1 + 1 + 1]? = some o4 ∧ w1.heap[w.heap.size + 1 + 1 + 1 + 1 + 1]? = some o5 ∧ Below w.heap.size w w1 := by
  have hp := after5 (bst (bal (Below.refl _ (((((w.alloc o0).alloc o1).alloc o2).alloc o3).alloc o4)) o5) h)
  obtain ⟨h0, h1, h2, h3, h4, hb⟩ := hp
  refine ⟨h0, h1, h2, h3, h4, ?_, hb⟩
  have e : (((((w.alloc o0).alloc o1).alloc o2).alloc o3).alloc o4).heap.size = w.heap.size + 1 + 1 + 1 + 1 + 1 := by simp
  have := (h.block (((((w.alloc o0).alloc o1).alloc o2).alloc o3).alloc o4).heap.size (by simp)).trans (heap_alloc_new (((((w.alloc o0).alloc o1).alloc o2).alloc o3).alloc o4) o5)
  rwa [e] at this
theorem after7 {w w1 : World} {o0 o1 o2 o3 o4 o5 o6 : Obj} (h : Below (((((((w.alloc o0).alloc o1).alloc o2).alloc o3).alloc o4).alloc o5).alloc o6).heap.size (((((((w.alloc o0).alloc o1).alloc o2).alloc o3).alloc o4).alloc o5).alloc o6) w1) : w1.heap[w.heap.size]? = some o0 ∧ w1.heap[w.heap.size + 1]? = some o1 ∧ w1.heap[w.heap.size + 1 + 1]? = some o2 ∧ w1.heap[w.heap.size + 1 + 1 + 1]? = some o3 ∧ w1.heap[w.heap.size + 1 + 1 + 1 + 1]? = some o4 ∧ w1.heap[w.heap.size + 1 + 1 + 1 + 1 + 1]? = some o5 ∧ w1.heap[w.heap.size + 1 + 1 + 1 + 1 + 1 + 1]? = some o6 ∧ Below w.heap.size w w1 := by
  have hp := after6 (bst (bal (Below.refl _ ((((((w.alloc o0).alloc o1).alloc o2).alloc o3).alloc o4).alloc o5)) o6) h)
  obtain ⟨h0, h1, h2, h3, h4, h5, hb⟩ := hp
  refine ⟨h0, h1, h2, h3, h4, h5, ?_, hb⟩
  have e : ((((((w.alloc o0).alloc o1).alloc o2).alloc o3).alloc o4).alloc o5).heap.size = w.heap.size + 1 + 1 + 1 + 1 + 1 + 1 := by simp
  have := (h.block ((((((w.alloc o0).alloc o1).alloc o2).alloc o3).alloc o4).alloc o5).heap.size (by simp)).trans (heap_alloc_new ((((((w.alloc o0).alloc o1).alloc o2).alloc o3).alloc o4).alloc o5) o6)
  rwa [e] at this
theorem after8 {w w1 : World} {o0 o1 o2 o3 o4 o5 o6 o7 : Obj} (h : Below ((((((((w.alloc o0).alloc o1).alloc o2).alloc o3).alloc o4).alloc o5).alloc o6).alloc o7).heap.size ((((((((w.alloc o0).alloc o1).alloc o2).alloc o3).alloc o4).alloc o5).alloc o6).alloc o7) w1) : w1.heap[w.heap.size]? = some o0 ∧ w1.heap[w.heap.size + 1]? = some o1 ∧ w1.heap[w.heap.size + 1 + 1]? = some o2 ∧ w1.heap[w.heap.size + 1 + 1 + 1]? = some o3 ∧ w1.heap[w.heap.size + 1 + 1 + 1 + 1]? = some o4 ∧ w1.heap[w.heap.size + 1 + 1 + 1 + 1 + 1]? = some o5 ∧ w1.heap[w.heap.size + 1 + 1 + 1 + 1 + 1 + 1]? = some o6 ∧ w1.heap[w.heap.size + 1 + 1 + 1 + 1 + 1 + 1 + 1]? = some o7 ∧ Below w.heap.size w w1 := by
  have hp := after7 (bst (bal (Below.refl _ (((((((w.alloc o0).alloc o1).alloc o2).alloc o3).alloc o4).alloc o5).alloc o6)) o7) h)
  obtain ⟨h0, h1, h2, h3, h4, h5, h6, hb⟩ := hp
  refine ⟨h0, h1, h2, h3, h4, h5, h6, ?_, hb⟩
  have e : (((((((w.alloc o0).alloc o1).alloc o2).alloc o3).alloc o4).alloc o5).alloc o6).heap.size = w.heap.size + 1 + 1 + 1 + 1 + 1 + 1 + 1 := by simp
  have := (h.block (((((((w.alloc o0).alloc o1).alloc o2).alloc o3).alloc o4).alloc o5).alloc o6).heap.size (by simp)).trans (heap_alloc_new (((((((w.alloc o0).alloc o1).alloc o2).alloc o3).alloc o4).alloc o5).alloc o6) o7)
  rwa [e] at this
theorem after9 {w w1 : World} {o0 o1 o2 o3 o4 o5 o6 o7 o8 : Obj} (h : Below (((((((((w.alloc o0).alloc o1).alloc o2).alloc o3).alloc o4).alloc o5).alloc o6).alloc o7).alloc o8).heap.size (((((((((w.alloc o0).alloc o1).alloc o2).alloc o3).alloc o4).alloc o5).alloc o6).alloc o7).alloc o8) w1) : w1.heap[w.heap.size]? = some o0 ∧ w1.heap[w.heap.size + 1]? = some o1 ∧ w1.heap[w.heap.size + 1 + 1]? = some o2 ∧ w1.heap[w.heap.size + 1 + 1 + 1]? = some o3 ∧ w1.heap[w.heap.size + 1 + 1 + 1 + 1]? = some o4 ∧ w1.heap[w.heap.size + 1 + 1 + 1 + 1 + 1]? = some o5 ∧ w1.heap[w.heap.size + 1 + 1 + 1 + 1 + 1 + 1]? = some o6 ∧ w1.heap[w.heap.size + 1 + 1 + 1 + 1 + 1 + 1 + 1]? = some o7 ∧ w1.heap[w.heap.size + 1 + 1 + 1 + 1 + 1 + 1 + 1 + 1]? = some o8 ∧ Below w.heap.size w w1 := by
  have hp := after8 (bst (bal (Below.refl _ ((((((((w.alloc o0).alloc o1).alloc o2).alloc o3).alloc o4).alloc o5).alloc o6).alloc o7)) o8) h)
  obtain ⟨h0, h1, h2, h3, h4, h5, h6, h7, hb⟩ := hp
  refine ⟨h0, h1, h2, h3, h4, h5, h6, h7, ?_, hb⟩
  have e : ((((((((w.alloc o0).alloc o1).alloc o2).alloc o3).alloc o4).alloc o5).alloc o6).alloc o7).heap.size = w.heap.size + 1 + 1 + 1 + 1 + 1 + 1 + 1 + 1 := by simp
  have := (h.block ((((((((w.alloc o0).alloc o1).alloc o2).alloc o3).alloc o4).alloc o5).alloc o6).alloc o7).heap.size (by simp)).trans (heap_alloc_new ((((((((w.alloc o0).alloc o1).alloc o2).alloc o3).alloc o4).alloc o5).alloc o6).alloc o7) o8)
  rwa [e] at this
theorem after10 {w w1 : World} {o0 o1 o2 o3 o4 o5 o6 o7 o8 o9 : Obj} (h : Below ((((((((((w.alloc o0).alloc o1).alloc o2).alloc o3).alloc o4).alloc o5).alloc o6).alloc o7).alloc o8).alloc o9).heap.size ((((((((((w.alloc o0).alloc o1).alloc o2).alloc o3).alloc o4).alloc o5).alloc o6).alloc o7).alloc o8).alloc o9) w1) : w1.heap[w.heap.size]? = some o0 ∧ w1.heap[w.heap.size + 1]? = some o1 ∧ w1.heap[w.heap.size + 1 + 1]? = some o2 ∧ w1.heap[w.heap.size + 1 + 1 + 1]? = some o3 ∧ w1.heap[w.heap.size + 1 + 1 + 1 + 1]? = some o4 ∧ w1.heap[w.heap.size + 1 + 1 + 1 + 1 + 1]? = some o5 ∧ w1.heap[w.heap.size + 1 + 1 + 1 + 1 + 1 + 1]? = some o6 ∧ w1.heap[w.heap.size + 1 + 1 + 1 + 1 + 1 + 1 + 1]? = some o7 ∧ w1.heap[w.heap.size + 1 + 1 + 1 + 1 + 1 + 1 + 1 + 1]? = some o8 ∧ w1.heap[w.heap.size + 1 + 1 + 1 + 1 + 1 + 1 + 1 + 1 + 1]? = some o9 ∧ Below w.heap.size w w1 := by
  have hp := after9 (bst (bal (Below.refl _ (((((((((w.alloc o0).alloc o1).alloc o2).alloc o3).alloc o4).alloc o5).alloc o6).alloc o7).alloc o8)) o9) h)
  obtain ⟨h0, h1, h2, h3, h4, h5, h6, h7, h8, hb⟩ := hp
  refine ⟨h0, h1, h2, h3, h4, h5, h6, h7, h8, ?_, hb⟩
  have e : (((((((((w.alloc o0).alloc o1).alloc o2).alloc o3).alloc o4).alloc o5).alloc o6).alloc o7).alloc o8).heap.size = w.heap.size + 1 + 1 + 1 + 1 + 1 + 1 + 1 + 1 + 1 := by simp
  have := (h.block (((((((((w.alloc o0).alloc o1).alloc o2).alloc o3).alloc o4).alloc o5).alloc o6).alloc o7).alloc o8).heap.size (by simp)).trans (heap_alloc_new (((((((((w.alloc o0).alloc o1).alloc o2).alloc o3).alloc o4).alloc o5).alloc o6).alloc o7).alloc o8) o9)
  rwa [e] at this
theorem after11 {w w1 : World} {o0 o1 o2 o3 o4 o5 o6 o7 o8 o9 o10 : Obj} (h : Below (((((((((((w.alloc o0).alloc o1).alloc o2).alloc o3).alloc o4).alloc o5).alloc o6).alloc o7).alloc o8).alloc o9).alloc o10).heap.size (((((((((((w.alloc o0).alloc o1).alloc o2).alloc o3).alloc o4).alloc o5).alloc o6).alloc o7).alloc o8).alloc o9).alloc o10) w1) : w1.heap[w.heap.size]? = some o0 ∧ w1.heap[w.heap.size + 1]? = some o1 ∧ w1.heap[w.heap.size + 1 + 1]? = some o2 ∧ w1.heap[w.heap.size + 1 + 1 + 1]? = some o3 ∧ w1.heap[w.heap.size + 1 + 1 + 1 + 1]? = some o4 ∧ w1.heap[w.heap.size + 1 + 1 + 1 + 1 + 1]? = some o5 ∧ w1.heap[w.heap.size + 1 + 1 + 1 + 1 + 1 + 1]? = some o6 ∧ w1.heap[w.heap.size + 1 + 1 + 1 + 1 + 1 + 1 + 1]? = some o7 ∧ w1.heap[w.heap.size + 1 + 1 + 1 + 1 + 1 + 1 + 1 + 1]? = some o8 ∧ w1.heap[w.heap.size + 1 + 1 + 1 + 1 + 1 + 1 + 1 + 1 + 1]? = some o9 ∧ w1.heap[w.heap.size + 1 + 1 + 1 + 1 + 1 + 1 + 1 + 1 + 1 + 1]? = some o10 ∧ Below w.heap.size w w1 := by
  have hp := after10 (bst (bal (Below.refl _ ((((((((((w.alloc o0).alloc o1).alloc o2).alloc o3).alloc o4).alloc o5).alloc o6).alloc o7).alloc o8).alloc o9)) o10) h)
  obtain ⟨h0, h1, h2, h3, h4, h5, h6, h7, h8, h9, hb⟩ := hp
  refine ⟨h0, h1, h2, h3, h4, h5, h6, h7, h8, h9, ?_, hb⟩
  have e : ((((((((((w.alloc o0).alloc o1).alloc o2).alloc o3).alloc o4).alloc o5).alloc o6).alloc o7).alloc o8).alloc o9).heap.size = w.heap.size + 1 + 1 + 1 + 1 + 1 + 1 + 1 + 1 + 1 + 1 := by simp
  have := (h.block ((((((((((w.alloc o0).alloc o1).alloc o2).alloc o3).alloc o4).alloc o5).alloc o6).alloc o7).alloc o8).alloc o9).heap.size (by simp)).trans (heap_alloc_new ((((((((((w.alloc o0).alloc o1).alloc o2).alloc o3).alloc o4).alloc o5).alloc o6).alloc o7).alloc o8).alloc o9) o10)
  rwa [e] at this
theorem after12 {w w1 : World} {o0 o1 o2 o3 o4 o5 o6 o7 o8 o9 o10 o11 : Obj} (h : Below ((((((((((((w.alloc o0).alloc o1).alloc o2).alloc o3).alloc o4).alloc o5).alloc o6).alloc o7).alloc o8).alloc o9).alloc o10).alloc o11).heap.size ((((((((((((w.alloc o0).alloc o1).alloc o2).alloc o3).alloc o4).alloc o5).alloc o6).alloc o7).alloc o8).alloc o9).alloc o10).alloc o11) w1) : w1.heap[w.heap.size]? = some o0 ∧ w1.heap[w.heap.size + 1]? = some o1 ∧ w1.heap[w.heap.size + 1 + 1]? = some o2 ∧ w1.heap[w.heap.size + 1 + 1 + 1]? = some o3 ∧ w1.heap[w.heap.size + 1 + 1 + 1 + 1]? = some o4 ∧ w1.heap[w.heap.size + 1 + 1 + 1 + 1 + 1]? = some o5 ∧ w1.heap[w.heap.size + 1 + 1 + 1 + 1 + 1 + 1]? = some o6 ∧ w1.heap[w.heap.size + 1 + 1 + 1 + 1 + 1 + 1 + 1]? = some o7 ∧ w1.heap[w.heap.size + 1 + 1 + 1 + 1 + 1 + 1 + 1 + 1]? = some o8 ∧ w1.heap[w.heap.size + 1 + 1 + 1 + 1 + 1 + 1 + 1 + 1 + 1]? = some o9 ∧ w1.heap[w.heap.size + 1 + 1 + 1 + 1 + 1 + 1 + 1 + 1 + 1 + 1]? = some o10 ∧ w1.heap[w.heap.size + 1 + 1 + 1 + 1 + 1 + 1 + 1 + 1 + 1 + 1 + 1]? = some o11 ∧ Below w.heap.size w w1 := by
  have hp := after11 (bst (bal (Below.refl _ (((((((((((w.alloc o0).alloc o1).alloc o2).alloc o3).alloc o4).alloc o5).alloc o6).alloc o7).alloc o8).alloc o9).alloc o10)) o11) h)
  obtain ⟨h0, h1, h2, h3, h4, h5, h6, h7, h8, h9, h10, hb⟩ := hp
  refine ⟨h0, h1, h2, h3, h4, h5, h6, h7, h8, h9, h10, ?_, hb⟩
  have e : (((((((((((w.alloc o0).alloc o1).alloc o2).alloc o3).alloc o4).alloc o5).alloc o6).alloc o7).alloc o8).alloc o9).alloc o10).heap.size = w.heap.size + 1 + 1 + 1 + 1 + 1 + 1 + 1 + 1 + 1 + 1 + 1 := by simp
  have := (h.block (((((((((((w.alloc o0).alloc o1).alloc o2).alloc o3).alloc o4).alloc o5).alloc o6).alloc o7).alloc o8).alloc o9).alloc o10).heap.size (by simp)).trans (heap_alloc_new (((((((((((w.alloc o0).alloc o1).alloc o2).alloc o3).alloc o4).alloc o5).alloc o6).alloc o7).alloc o8).alloc o9).alloc o10) o11)
  rwa [e] at this

/-! ### Slices of integers -/
theorem getD_get {xs : List Int} {j : Nat} (h : j < xs.length) : xs.getD j 0 = xs[j] := by simp [h]
theorem getD_mem {xs : List Int} {j : Nat} (h : j < xs.length) : xs.getD j 0 ∈ xs := by rw [getD_get h]; exact List.getElem_mem _

/-- The slice value '.slice A n c' reads, in w, as the integers xs. -/
def Sl (w : World) (A : Option Addr) (n c : Nat) (xs : List Int) : Prop :=
  xs.length = n ∧ n ≤ c ∧ c ≤ maxLen ∧ (0 < n → ∃ b o, A = some ⟨b, o, none⟩ ∧ b < w.heap.size ∧ ∀ j, j < n → w.cell? ⟨b, o + j, none⟩ = some (.int .i64 (xs.getD j 0)))
theorem Sl.len {w : World} {A : Option Addr} {n c : Nat} {xs : List Int} (h : Sl w A n c xs) : xs.length = n := h.1
theorem Sl.cap {w : World} {A : Option Addr} {n c : Nat} {xs : List Int} (h : Sl w A n c xs) : n ≤ c := h.2.1
theorem Sl.most {w : World} {A : Option Addr} {n c : Nat} {xs : List Int} (h : Sl w A n c xs) : c ≤ 9223372036854775807 := by have := h.2.2.1; unfold maxLen at this; omega
theorem Sl.nil (w : World) : Sl w none 0 0 [] := ⟨rfl, Nat.le_refl _, Nat.zero_le _, fun h => absurd h (Nat.lt_irrefl _)⟩
theorem Sl.step {w w' : World} {A : Option Addr} {n c : Nat} {xs : List Int} (h : Sl w A n c xs) (hb : Below w.heap.size w w') : Sl w' A n c xs := by
  obtain ⟨h1, h2, h3, h4⟩ := h
  refine ⟨h1, h2, h3, fun hn => ?_⟩
  obtain ⟨b, o, hA, hlt, hc⟩ := h4 hn
  exact ⟨b, o, hA, Nat.lt_of_lt_of_le hlt hb.size, fun j hj => (hb.cell (p := ⟨b, o + j, none⟩) hlt).trans (hc j hj)⟩
theorem Sl.at_ {w : World} {A : Option Addr} {n c : Nat} {xs : List Int} (h : Sl w A n c xs) {k : Nat} (hk : k < n) :
    ∃ b o, A = some ⟨b, o, none⟩ ∧ b < w.heap.size ∧ w.cell? ⟨b, o + k, none⟩ = some (.int .i64 (xs.getD k 0)) := by
  obtain ⟨b, o, hA, hlt, hc⟩ := h.2.2.2 (by omega)
  exact ⟨b, o, hA, hlt, hc k hk⟩
/-- A slice that begins at place o of a block that is known whole. -/
theorem Sl.of_box {w : World} {B o n c : Nat} {cs : Array Value} {T : TypeId} {xs : List Int} (h : Bx w B cs T) (hx : xs.length = n) (hc : n ≤ c) (hm : c ≤ maxLen)
    (hcs : ∀ j, j < n → cs[o + j]? = some (.int .i64 (xs.getD j 0))) : Sl w (some ⟨B, o, none⟩) n c xs :=
  ⟨hx, hc, hm, fun _ => ⟨B, o, rfl, h.lt, fun j hj => (h.cell (o + j)).trans (hcs j hj)⟩⟩
theorem Sl.empty (w : World) (A : Option Addr) (c : Nat) (hm : c ≤ maxLen) : Sl w A 0 c [] := ⟨rfl, Nat.zero_le _, hm, fun h => absurd h (Nat.lt_irrefl _)⟩

/-! ### Rows of the call's own -/
theorem map_getD {xs : List Int} {j : Nat} (h : j < xs.length) : (xs.map (Value.int .i64))[j]? = some (.int .i64 (xs.getD j 0)) := by
  rw [List.getElem?_map, List.getElem?_eq_getElem h, getD_get h]; rfl
theorem Sl.of_own {w : World} {base : Nat} {e : TypeId} {v : Value} {n : Nat} {xs : List Int} (h : w.ownsRow base e 1 v n (xs.map (Value.int .i64))) :
    ∃ A c, v = .slice A n c ∧ Sl w A n c xs ∧ (0 < n → ∃ g, A = some ⟨g, 0, none⟩ ∧ base ≤ g) := by
  have hl : xs.length = n := by have := h.1; simpa using this
  rcases h.2 with ⟨rfl, rfl⟩ | ⟨g, cap, cur, rfl, hb, hg, hn, hm, hs, ht⟩
  · obtain rfl : xs = [] := List.eq_nil_of_length_eq_zero hl
    exact ⟨_, _, rfl, Sl.nil w, fun h => absurd h (Nat.lt_irrefl _)⟩
  · refine ⟨_, _, rfl, ⟨hl, hn, hm, fun _ => ⟨g, 0, rfl, ?_, fun j hj => ?_⟩⟩, fun _ => ⟨g, rfl, hb⟩⟩
    · rcases Nat.lt_or_ge g w.heap.size with hlt | hge
      · exact hlt
      · rw [Array.getElem?_eq_none hge] at hg; cases hg
    · have h1 := h.cellAt j (by omega)
      rw [Nat.zero_add, h1]
      exact map_getD (by omega)
/-- A cut of a slice: s[i:j]. -/
theorem Sl.cells {w : World} {b o n c : Nat} {xs : List Int} (h : Sl w (some ⟨b, o, none⟩) n c xs) : ∀ j, j < n → w.cell? ⟨b, o + j, none⟩ = some (.int .i64 (xs.getD j 0)) := by
  intro j hj
  obtain ⟨b', o', hA, _, hc⟩ := h.at_ hj
  simp only [Option.some.injEq, Addr.mk.injEq, and_true] at hA
  obtain ⟨rfl, rfl⟩ := hA
  exact hc
end Go.Proofs.Ytfbloddffhafdaa

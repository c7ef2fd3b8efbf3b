/-
  moves.Ravel, moves.Fill, moves.Grid.
-/
import Derived.Test.YtoapgknkenlcgaaRep
import Derived.Deep.RegionHeld3
namespace Go.Proofs.Ytoapgknkenlcgaa
open Go.RowKit

theorem bx3 (w : World) (o0 o1 : Obj) (cs : Array Value) (T : TypeId) : Bx (((w.alloc o0).alloc o1).alloc (.cells cs T)) (w.heap.size + 1 + 1) cs T := by
  have := Bx.new ((w.alloc o0).alloc o1) cs T
  rwa [show ((w.alloc o0).alloc o1).heap.size = w.heap.size + 1 + 1 by simp] at this

set_option maxHeartbeats 4000000 in
theorem mRavel_any (k r l0 l1 : Int) (A : Option Addr) (n c : Nat) (xs : List Int) (R : Arr × Int) (w : World)
    (hs : Sl w A n c xs) (h : sRavel ⟨k, r, l0, l1, xs⟩ = R) :
    Calls Try.prog 31 #[.agg #[.int .i64 k, .int .i64 r, .int .i64 l0, .int .i64 l1, .slice A n c]] w (RetA w R) := by
  have HS := Lib.hid hs
  by_cases h0 : achk k r l0 l1 xs = 0
  · have hR : R = (⟨k, 1, n, 0, xs⟩, 0) := by
      rw [← h, ← hs.len]
      exact if_neg (fun h' => h' h0)
    have hn : n ≤ 400 := by have := achk_len h0; have := hs.len; omega
    have HR := Lib.hid hR
    have H0 := Lib.hid h0
    clear h h0 hs hR
    go_enter Try.func31, Try.ntmps31
    go_wp2_with fail
    refine (mcheck1 _ _ _ _ _ _ _ xs _ (w.heap.size + 1 + 1) _ (HS.out.step (below3 _ _ _ _)) H0.out (bx3 _ _ _ _ _)).mono ?_
    rintro e w1 ⟨rfl, hb1⟩
    obtain ⟨X0, X1, X2, b1⟩ := after3 hb1
    clear hb1 X2
    have q1 := Bx.lt X1
    have c0 : ∀ i, w1.cell? ⟨w.heap.size, i, none⟩ = _ := Bx.cell X0
    have c1 : ∀ i, w1.cell? ⟨w.heap.size + 1, i, none⟩ = _ := Bx.cell X1
    have f1 : ∀ i, w1.frozen? ⟨w.heap.size + 1, i, none⟩ = false := Bx.frozen X1
    go_wp2_with fail
    have d00 : w1.drew.cell? ⟨w.heap.size, 0, none⟩ = some (.int .i64 k) := c0 0
    have d04 : w1.drew.cell? ⟨w.heap.size, 4, none⟩ = some (.slice A n c) := c0 4
    have B0 : Below w1.heap.size w1 w1.drew := bdr (Below.refl _ _)
    go_region_held3 (fun w' => w'.cell? ⟨w.heap.size, 0, none⟩ = some (.int .i64 k) ∧ w'.cell? ⟨w.heap.size, 4, none⟩ = some (.slice A n c))
      (first | (with_reducible exact ⟨d00, d04⟩) | (with_reducible exact ⟨d30, d34⟩) | (with_reducible exact ⟨d40, d44⟩) | (with_reducible exact ⟨(set5_cell _ _ _ _ _ _ _ (by omega)).trans d40, (set5_cell _ _ _ _ _ _ _ (by omega)).trans d44⟩))
      (first
        | (go_at_call 54; (with_reducible refine (clone_any A n c xs _ (HS.out.step (bst b1 B0)) (by omega)).mono ?_); rintro e w3 ⟨⟨A3, c3, rfl, _, hS3, hN3⟩, hb3⟩; have B3 := bst B0 hb3; have d30 : w3.cell? ⟨w.heap.size, 0, none⟩ = some (.int .i64 k) := (Bx.step X0 B3).cell 0; have d34 : w3.cell? ⟨w.heap.size, 4, none⟩ = some (.slice A n c) := (Bx.step X0 B3).cell 4)
        | (go_at_call 43; (with_reducible refine (mvector_any k A3 n c3 _).mono ?_); rintro e w4 ⟨rfl, hb4⟩; have B4 := bst B3 hb4; have d40 : w4.cell? ⟨w.heap.size, 0, none⟩ = some (.int .i64 k) := (Bx.step X0 B4).cell 0; have d44 : w4.cell? ⟨w.heap.size, 4, none⟩ = some (.slice A n c) := (Bx.step X0 B4).cell 4; have g1 : ∀ i, w4.cell? ⟨w.heap.size + 1, i, none⟩ = _ := (Bx.step X1 B4).cell; have k1 : ∀ i, w4.frozen? ⟨w.heap.size + 1, i, none⟩ = false := (Bx.step X1 B4).frozen))
    go_wp2
    refine retAE (B := w.heap.size + 1) rfl rfl rfl rfl ((Bx.step X1 B4).set5 _ _ _ _ _) ?_
    have M3 : ∀ b o, A3 = some ⟨b, o, none⟩ → b ≠ w.heap.size + 1 := fun b o e => by have := hN3 b o none e; simp at this; omega
    exact RetA.mk HR.out ((hS3.step hb4).past5 _ _ _ _ _ M3) (hN3.mono (Nat.le_trans b1.size B0.size)) (below_set5 (bst b1 B4) (by omega) _ _ _ _ _)
  · have he : (zA, achk k r l0 l1 xs) = R := by
      rw [← h]; exact (if_pos h0).symm
    obtain ⟨ec, hec⟩ : ∃ ec, achk k r l0 l1 xs = ec := ⟨_, rfl⟩
    rw [hec] at h0 he
    have HEC := Lib.hid hec
    have HR := Lib.hid he
    have hne : (ec != 0) = true := by simpa using h0
    clear hec h0 he h hs
    go_enter Try.func31, Try.ntmps31
    go_wp2_with fail
    refine (mcheck1 _ _ _ _ _ _ _ xs _ (w.heap.size + 1 + 1) _ (HS.out.step (below3 _ _ _ _)) HEC.out (bx3 _ _ _ _ _)).mono ?_
    rintro e w1 ⟨rfl, hb1⟩
    obtain ⟨X0, X1, X2, b1⟩ := after3 hb1
    clear hb1 X2
    have q1 := Bx.lt X1
    have c0 : ∀ i, w1.cell? ⟨w.heap.size, i, none⟩ = _ := Bx.cell X0
    have c1 : ∀ i, w1.cell? ⟨w.heap.size + 1, i, none⟩ = _ := Bx.cell X1
    have f1 : ∀ i, w1.frozen? ⟨w.heap.size + 1, i, none⟩ = false := Bx.frozen X1
    go_wp2
    refine retAE (B := w.heap.size + 1) rfl rfl rfl rfl (Bx.set5 X1 _ _ _ _ _) ?_
    exact RetA.mk HR.out.symm (Sl.nil _) (fun _ _ _ h => by cases h) (below_set5 b1 (by omega) _ _ _ _ _)
end Go.Proofs.Ytoapgknkenlcgaa

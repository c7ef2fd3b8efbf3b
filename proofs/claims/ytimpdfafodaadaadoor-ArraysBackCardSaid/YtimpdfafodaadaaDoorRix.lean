/-
  The reference's Index.
-/
import Derived.Test.YtimpdfafodaadaaDoorRet2
import Derived.RegionTactic
import Derived.ChangeAlike
namespace Go.Proofs.YtimpdfafodaadaaDoor
open Go.RowKit


set_option maxHeartbeats 1000000 in
theorem rindex_err (r l0 l1 p ec : Int) (w : World) (hs : shp r l0 l1 = ec) (hne : ec ≠ 0) :
    Calls Tryd.prog 31 #[.int .i64 r, .agg #[.int .i64 l0, .int .i64 l1], .int .i64 p] w fun e w' => e = .returned (.tuple #[.agg #[.int .i64 0, .int .i64 0], .int .i64 ec]) ∧ Below w.heap.size w w' := by
  have HS := Lib.hid hs
  have HNE := Lib.hid hne
  have hne' : (ec != 0) = true := by simpa using hne
  have hne2 : (ec == 0) = false := by simpa using hne
  clear hs hne
  go_enter Tryd.func31, Tryd.ntmps31
  go_wp2_with fail
  refine (rcells_err r l0 l1 ec _ HS.out HNE.out).mono ?_
  rintro e w1 ⟨rfl, hb1⟩
  obtain ⟨X0, X1, b1⟩ := after2 hb1
  have q0 := Bx.lt X0
  have q1 := Bx.lt X1
  clear hb1
  have c0 : ∀ i, w1.cell? ⟨w.heap.size, i, none⟩ = _ := Bx.cell X0
  have c1 : ∀ i, w1.cell? ⟨w.heap.size + 1, i, none⟩ = _ := Bx.cell X1
  have f1 : ∀ i, w1.frozen? ⟨w.heap.size + 1, i, none⟩ = false := Bx.frozen X1
  go_wp2
  refine retLE (B := w.heap.size + 1) rfl rfl rfl rfl (Bx.set2 X1 _ _) ?_
  exact ⟨rfl, below_set2 b1 (by omega) _ _⟩
set_option maxHeartbeats 1000000 in
theorem rindex_none (r l0 l1 p : Int) (w : World) (hs : shp r l0 l1 = 0) (hp : p < 0 ∨ (0 ≤ p ∧ prodI r l0 l1 ≤ p)) :
    Calls Tryd.prog 31 #[.int .i64 r, .agg #[.int .i64 l0, .int .i64 l1], .int .i64 p] w fun e w' => e = .returned (.tuple #[.agg #[.int .i64 0, .int .i64 0], .int .i64 4]) ∧ Below w.heap.size w w' := by
  have HS := Lib.hid hs
  clear hs
  rcases hp with hp | ⟨hp, hq⟩
  · go_enter Tryd.func31, Tryd.ntmps31
    go_wp2_with fail
    refine (rcells_ok r l0 l1 _ HS.out).mono ?_
    rintro e w1 ⟨rfl, hb1⟩
    obtain ⟨X0, X1, b1⟩ := after2 hb1
    have q0 := Bx.lt X0
    have q1 := Bx.lt X1
    clear hb1
    have c0 : ∀ i, w1.cell? ⟨w.heap.size, i, none⟩ = _ := Bx.cell X0
    have c1 : ∀ i, w1.cell? ⟨w.heap.size + 1, i, none⟩ = _ := Bx.cell X1
    have f1 : ∀ i, w1.frozen? ⟨w.heap.size + 1, i, none⟩ = false := Bx.frozen X1
    go_wp2
    refine retLE (B := w.heap.size + 1) rfl rfl rfl rfl (Bx.set2 X1 _ _) ?_
    exact ⟨rfl, below_set2 b1 (by omega) _ _⟩
  · go_enter Tryd.func31, Tryd.ntmps31
    go_wp2_with fail
    refine (rcells_ok r l0 l1 _ HS.out).mono ?_
    rintro e w1 ⟨rfl, hb1⟩
    obtain ⟨X0, X1, b1⟩ := after2 hb1
    have q0 := Bx.lt X0
    have q1 := Bx.lt X1
    clear hb1
    have c0 : ∀ i, w1.cell? ⟨w.heap.size, i, none⟩ = _ := Bx.cell X0
    have c1 : ∀ i, w1.cell? ⟨w.heap.size + 1, i, none⟩ = _ := Bx.cell X1
    have f1 : ∀ i, w1.frozen? ⟨w.heap.size + 1, i, none⟩ = false := Bx.frozen X1
    go_wp2
    refine retLE (B := w.heap.size + 1) rfl rfl rfl rfl (Bx.set2 X1 _ _) ?_
    exact ⟨rfl, below_set2 b1 (by omega) _ _⟩
set_option maxHeartbeats 1000000 in
theorem rindex_low (r l0 l1 p : Int) (w : World) (hs : shp r l0 l1 = 0) (hp : 0 ≤ p) (hq : p < prodI r l0 l1) (hr : r < 2) :
    Calls Tryd.prog 31 #[.int .i64 r, .agg #[.int .i64 l0, .int .i64 l1], .int .i64 p] w fun e w' => e = .returned (.tuple #[.agg #[.int .i64 p, .int .i64 0], .int .i64 0]) ∧ Below w.heap.size w w' := by
  have HS := Lib.hid hs
  have hr2 : (r == 2) = false := by simp; omega
  clear hs
  go_enter Tryd.func31, Tryd.ntmps31
  go_wp2_with fail
  refine (rcells_ok r l0 l1 _ HS.out).mono ?_
  rintro e w1 ⟨rfl, hb1⟩
  obtain ⟨X0, X1, b1⟩ := after2 hb1
  have q0 := Bx.lt X0
  have q1 := Bx.lt X1
  clear hb1
  have c0 : ∀ i, w1.cell? ⟨w.heap.size, i, none⟩ = _ := Bx.cell X0
  have c1 : ∀ i, w1.cell? ⟨w.heap.size + 1, i, none⟩ = _ := Bx.cell X1
  have f1 : ∀ i, w1.frozen? ⟨w.heap.size + 1, i, none⟩ = false := Bx.frozen X1
  go_wp2
  refine retLE (B := w.heap.size + 1) rfl rfl rfl rfl (Bx.set2 X1 _ _) ?_
  exact ⟨rfl, below_set2 b1 (by omega) _ _⟩
set_option maxHeartbeats 1000000 in
theorem rindex_two (l0 l1 p : Int) (w : World) (hs : shp 2 l0 l1 = 0) (hp : 0 ≤ p) (hq : p < prodI 2 l0 l1) (h1 : 0 < l1) (h2 : l1 ≤ 400) (h3 : p ≤ 400) :
    Calls Tryd.prog 31 #[.int .i64 2, .agg #[.int .i64 l0, .int .i64 l1], .int .i64 p] w fun e w' => e = .returned (.tuple #[.agg #[.int .i64 (p / l1), .int .i64 (p % l1)], .int .i64 0]) ∧ Below w.heap.size w w' := by
  have HS := Lib.hid hs
  have hl1 : l1 ≠ 0 := by omega
  have hl2 : (l1 == 0) = false := by simpa using hl1
  clear hs
  go_enter Tryd.func31, Tryd.ntmps31
  go_wp2_with fail
  refine (rcells_ok 2 l0 l1 _ HS.out).mono ?_
  rintro e w1 ⟨rfl, hb1⟩
  obtain ⟨X0, X1, b1⟩ := after2 hb1
  have q0 := Bx.lt X0
  have q1 := Bx.lt X1
  clear hb1
  have c0 : ∀ i, w1.cell? ⟨w.heap.size, i, none⟩ = _ := Bx.cell X0
  have c1 : ∀ i, w1.cell? ⟨w.heap.size + 1, i, none⟩ = _ := Bx.cell X1
  have f1 : ∀ i, w1.frozen? ⟨w.heap.size + 1, i, none⟩ = false := Bx.frozen X1
  go_wp2
  go_region
  go_wp2
  refine retLE (B := w.heap.size + 1) rfl rfl rfl rfl (Bx.dr (Bx.set2 X1 _ _)) ?_
  exact ⟨rfl, bdr (below_set2 b1 (by omega) _ _)⟩
theorem rindex_any (r l0 l1 p a b ec : Int) (w : World) (h : sIndex r l0 l1 p = (a, b, ec)) :
    Calls Tryd.prog 31 #[.int .i64 r, .agg #[.int .i64 l0, .int .i64 l1], .int .i64 p] w fun e w' => e = .returned (.tuple #[.agg #[.int .i64 a, .int .i64 b], .int .i64 ec]) ∧ Below w.heap.size w w' := by
  unfold sIndex at h
  split at h
  · rename_i hs
    simp only [Prod.mk.injEq] at h
    obtain ⟨rfl, rfl, rfl⟩ := h
    exact rindex_err r l0 l1 p _ w rfl hs
  · rename_i hs
    have hs := Decidable.not_not.1 hs
    split at h
    · rename_i hp
      simp only [Prod.mk.injEq] at h
      obtain ⟨rfl, rfl, rfl⟩ := h
      exact rindex_none r l0 l1 p w hs (by omega)
    · rename_i hp
      split at h
      · rename_i hr
        simp only [Prod.mk.injEq] at h
        obtain ⟨rfl, rfl, rfl⟩ := h
        exact rindex_low r l0 l1 p w hs (by omega) (by omega) hr
      · rename_i hr
        simp only [Prod.mk.injEq] at h
        obtain ⟨rfl, rfl, rfl⟩ := h
        have hb := prodI_bounds hs
        rcases shp_ok hs with ⟨rfl, _⟩ | ⟨rfl, _⟩ | ⟨rfl, h1, h2, h3, h4, h5⟩
        · omega
        · omega
        · have h0 : l1 ≠ 0 := by
            intro h
            subst h
            simp [prodI] at hp
            omega
          exact rindex_two l0 l1 p w hs (by omega) (by omega) (by omega) h4 (by omega)

end Go.Proofs.YtimpdfafodaadaaDoor

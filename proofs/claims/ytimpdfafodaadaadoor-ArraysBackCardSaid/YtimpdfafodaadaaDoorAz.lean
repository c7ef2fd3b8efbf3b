/-
  arrays.Zero, arrays.Int and the reference's.
-/
import Derived.Test.YtimpdfafodaadaaDoorAdef
import Derived.Test.YtimpdfafodaadaaDoorRet
namespace Go.Proofs.YtimpdfafodaadaaDoor
open Go.RowKit

set_option maxHeartbeats 400000 in
theorem aInt_any (x : Int) (w : World) : Calls Tryd.prog 20 #[.int .i64 x] w (RetV w 1 0 0 0 [x]) := by
  go_enter Tryd.func20, Tryd.ntmps20
  go_wp2
  refine retA (B := w.heap.size) rfl rfl rfl ((Bx.new _ _ _).alloc _) ?_
  refine ⟨⟨_, _, _, rfl, ?_, fun b o s e => by cases e; omega⟩, below2 _ _ _⟩
  have := Bx.new (w.alloc (.cells #[.int .i64 1, .int .i64 0, .int .i64 0, .int .i64 0, .slice (some ⟨w.heap.size + 1, 0, none⟩) 1 1] 25)) #[.int .i64 x] 2
  rw [World.size_alloc] at this
  exact Sl.of_box this rfl (by omega) (by decide) (fun j hj => by
    obtain rfl : j = 0 := by omega
    rfl)
set_option maxHeartbeats 400000 in
theorem rInt_any (x : Int) (w : World) : Calls Tryd.prog 21 #[.int .i64 x] w (RetV w 1 0 0 0 [x]) := by
  go_enter Tryd.func21, Tryd.ntmps21
  go_wp2
  refine retA (B := w.heap.size) rfl rfl rfl ((Bx.new _ _ _).alloc _) ?_
  refine ⟨⟨_, _, _, rfl, ?_, fun b o s e => by cases e; omega⟩, below2 _ _ _⟩
  have := Bx.new (w.alloc (.cells #[.int .i64 1, .int .i64 0, .int .i64 0, .int .i64 0, .slice (some ⟨w.heap.size + 1, 0, none⟩) 1 1] 25)) #[.int .i64 x] 2
  rw [World.size_alloc] at this
  exact Sl.of_box this rfl (by omega) (by decide) (fun j hj => by
    obtain rfl : j = 0 := by omega
    rfl)

theorem slZero {w : World} {o : Obj} : Sl ((w.alloc o).alloc (.cells #[.int .i64 0] 2)) (some ⟨w.heap.size + 1, 0, none⟩) 1 1 [0] := by
  have := Bx.new (w.alloc o) #[.int .i64 0] 2
  rw [World.size_alloc] at this
  exact Sl.of_box this rfl (by omega) (by decide) (fun j hj => by
    obtain rfl : j = 0 := by omega
    rfl)
theorem slZero' {w : World} {o o' : Obj} : Sl (((w.alloc o).alloc o').alloc (.cells #[.int .i64 0] 2)) (some ⟨w.heap.size + 1 + 1, 0, none⟩) 1 1 [0] := by
  have := slZero (w := w.alloc o) (o := o')
  rwa [World.size_alloc] at this
set_option maxHeartbeats 1000000 in
theorem aZero_any (k r : Int) (R : Arr × Int) (w : World) (h : sZero k r = R) : Calls Tryd.prog 33 #[.int .i64 k, .int .i64 r] w (RetA w R) := by
  unfold sZero at h
  by_cases hk : k ≠ 1 ∧ k ≠ 2
  · rw [if_pos hk] at h
    have HR := Lib.hid h
    have h1 : (k != 1) = true := by simpa using hk.1
    have h2 : (k != 2) = true := by simpa using hk.2
    clear h hk
    go_enter Tryd.func33, Tryd.ntmps33
    go_wp2
    refine retAE (B := w.heap.size) rfl rfl rfl rfl (Bx.new _ _ _) ?_
    exact RetA.mk HR.out.symm (Sl.nil _) (fun _ _ _ h => by cases h) (below1 _ _)
  · rw [if_neg hk] at h
    have hk2 : k = 1 ∨ k = 2 := by omega
    clear hk
    by_cases hr : r < 0 ∨ 2 < r
    · rw [if_pos hr] at h
      have HR := Lib.hid h
      clear h
      rcases hk2 with rfl | rfl
      all_goals
        rcases hr with hr | hr
        all_goals
          go_enter Tryd.func33, Tryd.ntmps33
          go_wp2
          refine retAE (B := w.heap.size) rfl rfl rfl rfl (Bx.new _ _ _) ?_
          exact RetA.mk HR.out.symm (Sl.nil _) (fun _ _ _ h => by cases h) (below1 _ _)
    · rw [if_neg hr] at h
      by_cases h0 : r = 0
      · subst h0
        rw [if_pos rfl] at h
        have HR := Lib.hid h
        clear h
        rcases hk2 with rfl | rfl
        all_goals
          go_enter Tryd.func33, Tryd.ntmps33
          go_wp2
          first
            | (refine retAE (B := w.heap.size) rfl rfl rfl rfl ((Bx.new _ _ _).alloc _) ?_; exact RetA.mk HR.out.symm slZero (fun b o s e => by cases e; omega) (below2 _ _ _))
            | (refine retAE (B := w.heap.size) rfl rfl rfl rfl (((Bx.new _ _ _).alloc _).alloc _) ?_; exact RetA.mk HR.out.symm slZero' (fun b o s e => by cases e; omega) (below3 _ _ _ _))
      · rw [if_neg h0] at h
        have HR := Lib.hid h
        have h0' : (r == 0) = false := by simpa using h0
        clear h h0
        have hr0 : 0 ≤ r := by omega
        have hr1 : r ≤ 2 := by omega
        clear hr
        rcases hk2 with rfl | rfl
        all_goals
          go_enter Tryd.func33, Tryd.ntmps33
          go_wp2
          first
            | (refine retAE (B := w.heap.size) rfl rfl rfl rfl (Bx.new _ _ _) ?_; exact RetA.mk HR.out.symm (Sl.nil _) (fun b o s e => by cases e) (below1 _ _))
            | (refine retAE (B := w.heap.size) rfl rfl rfl rfl ((Bx.new _ _ _).alloc _) ?_; exact RetA.mk HR.out.symm (Sl.nil _) (fun b o s e => by cases e) (below2 _ _ _))
set_option maxHeartbeats 1000000 in
theorem rZero_any (k r : Int) (R : Arr × Int) (w : World) (h : sZero k r = R) : Calls Tryd.prog 41 #[.int .i64 k, .int .i64 r] w (RetA w R) := by
  unfold sZero at h
  by_cases hk : k ≠ 1 ∧ k ≠ 2
  · rw [if_pos hk] at h
    have HR := Lib.hid h
    have h1 : (k != 1) = true := by simpa using hk.1
    have h2 : (k != 2) = true := by simpa using hk.2
    clear h hk
    go_enter Tryd.func41, Tryd.ntmps41
    go_wp2
    refine retAE (B := w.heap.size) rfl rfl rfl rfl (Bx.new _ _ _) ?_
    exact RetA.mk HR.out.symm (Sl.nil _) (fun _ _ _ h => by cases h) (below1 _ _)
  · rw [if_neg hk] at h
    have hk2 : k = 1 ∨ k = 2 := by omega
    clear hk
    by_cases hr : r < 0 ∨ 2 < r
    · rw [if_pos hr] at h
      have HR := Lib.hid h
      clear h
      rcases hk2 with rfl | rfl
      all_goals
        rcases hr with hr | hr
        all_goals
          go_enter Tryd.func41, Tryd.ntmps41
          go_wp2
          refine retAE (B := w.heap.size) rfl rfl rfl rfl (Bx.new _ _ _) ?_
          exact RetA.mk HR.out.symm (Sl.nil _) (fun _ _ _ h => by cases h) (below1 _ _)
    · rw [if_neg hr] at h
      by_cases h0 : r = 0
      · subst h0
        rw [if_pos rfl] at h
        have HR := Lib.hid h
        clear h
        rcases hk2 with rfl | rfl
        all_goals
          go_enter Tryd.func41, Tryd.ntmps41
          go_wp2
          first
            | (refine retAE (B := w.heap.size) rfl rfl rfl rfl ((Bx.new _ _ _).alloc _) ?_; exact RetA.mk HR.out.symm slZero (fun b o s e => by cases e; omega) (below2 _ _ _))
            | (refine retAE (B := w.heap.size) rfl rfl rfl rfl (((Bx.new _ _ _).alloc _).alloc _) ?_; exact RetA.mk HR.out.symm slZero' (fun b o s e => by cases e; omega) (below3 _ _ _ _))
      · rw [if_neg h0] at h
        have HR := Lib.hid h
        have h0' : (r == 0) = false := by simpa using h0
        clear h h0
        have hr0 : 0 ≤ r := by omega
        have hr1 : r ≤ 2 := by omega
        clear hr
        rcases hk2 with rfl | rfl
        all_goals
          go_enter Tryd.func41, Tryd.ntmps41
          go_wp2
          first
            | (refine retAE (B := w.heap.size) rfl rfl rfl rfl (Bx.new _ _ _) ?_; exact RetA.mk HR.out.symm (Sl.nil _) (fun b o s e => by cases e) (below1 _ _))
            | (refine retAE (B := w.heap.size) rfl rfl rfl rfl ((Bx.new _ _ _).alloc _) ?_; exact RetA.mk HR.out.symm (Sl.nil _) (fun b o s e => by cases e) (below2 _ _ _))
end Go.Proofs.YtimpdfafodaadaaDoor

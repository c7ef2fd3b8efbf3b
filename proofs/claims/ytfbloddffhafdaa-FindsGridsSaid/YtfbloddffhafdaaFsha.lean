/-
  finds.Shape, finds.Iota.
-/
import Derived.Test.YtfbloddffhafdaaFdef
import Derived.Test.YtfbloddffhafdaaFvec
import Derived.Test.YtfbloddffhafdaaMblk
import Derived.Deep.OwnRows
namespace Go.Proofs.Ytfbloddffhafdaa
open Go.RowKit

theorem made_ints (n : Nat) : madeCells #[Value.int .i64 0] n = ((List.replicate n (0 : Int)).map (Value.int .i64)).toArray := by
  apply Array.ext
  · simp [size_madeCells]
  · intro i h1 h2
    simp [madeCells, Nat.mod_one]
theorem bf_made (w : World) (n : Nat) : Bf (w.alloc (Obj.cells (madeCells #[Value.int IntKind.i64 0] n) 2)) w.heap.size n (fun _ => 0) :=
  ⟨_, Bx.new _ _ _, fun j hj => by rw [made_ints, List.getElem?_toArray, map_getD (by simpa using hj)]; simp [hj]⟩
/-- Behind a store the block is as it was, one cell further. -/
theorem Bf.fill {w : World} {g n j : Nat} {f : Nat → Int} (h : Bf w g n (fun p => if p < j then f p else 0)) {y : Int} (hy : y = f j) : Bf (w.setCell ⟨g, j, none⟩ (.int .i64 y)) g n (fun p => if p < j + 1 then f p else 0) := by
  refine (h.set j y).congr fun p _ => ?_
  by_cases e : p = j
  · subst e; rw [if_pos rfl, if_pos (by omega), hy]
  · rw [if_neg e]
    by_cases e2 : p < j
    · rw [if_pos e2, if_pos (by omega)]
    · rw [if_neg e2, if_neg (by omega)]
theorem Bf.full {w : World} {g n c : Nat} {f : Nat → Int} {xs : List Int} (h : Bf w g n (fun p => if p < n then f p else 0)) (hl : xs.length = n) (hf : ∀ p, p < n → f p = xs.getD p 0) (hc : n ≤ c) (hm : c ≤ maxLen) : Sl w (some ⟨g, 0, none⟩) n c xs :=
  Bf.sl (h.congr fun p hp => by rw [if_pos hp, hf p hp]) hl hc hm

set_option maxHeartbeats 1000000 in
theorem fshape_any (k r l0 l1 : Int) (A : Option Addr) (n c : Nat) (xs : List Int) (R : Arr × Int) (w : World) (hs : Sl w A n c xs) (h : sShape ⟨k, r, l0, l1, xs⟩ = R) :
    Calls Try.prog 13 #[.agg #[.int .i64 k, .int .i64 r, .int .i64 l0, .int .i64 l1, .slice A n c]] w (RetA w R) := by
  obtain ⟨ec, hec⟩ : ∃ ec, achk k r l0 l1 xs = ec := ⟨_, rfl⟩
  unfold sShape chkA at h
  simp only [hec] at h
  have HE := Lib.hid hec
  have HS := Lib.hid hs
  have Z0 : Bx (((w.alloc (.cells #[.int .i64 k, .int .i64 r, .int .i64 l0, .int .i64 l1, .slice A n c] 25)).alloc (.cells #[.int .i64 0, .int .i64 0, .int .i64 0, .int .i64 0, .slice none 0 0] 25)).alloc (.cells #[.int .i64 k, .int .i64 r, .int .i64 l0, .int .i64 l1, .slice A n c] 25)) (w.heap.size + 1 + 1) #[.int .i64 k, .int .i64 r, .int .i64 l0, .int .i64 l1, .slice A n c] 25 := by
    have := Bx.new ((w.alloc (.cells #[.int .i64 k, .int .i64 r, .int .i64 l0, .int .i64 l1, .slice A n c] 25)).alloc (.cells #[.int .i64 0, .int .i64 0, .int .i64 0, .int .i64 0, .slice none 0 0] 25)) #[.int .i64 k, .int .i64 r, .int .i64 l0, .int .i64 l1, .slice A n c] 25
    simpa [World.size_alloc] using this
  clear hs
  by_cases h0 : ec = 0
  · subst h0
    rw [if_neg (fun g => g rfl)] at h
    obtain ⟨i0, hi, hz0, hz1, hz2⟩ := info_parts infoI64
    have hsh := (achk_ok hec).2.1
    have HR := Lib.hid h
    clear hec h
    rcases shp_ok hsh with ⟨rfl, rfl, rfl⟩ | ⟨rfl, hl0, hl1, rfl⟩ | ⟨rfl, hl0, hl1, hl2, hl3, hl4⟩
    · clear hsh
      go_enter Try.func13, Try.ntmps13
      go_wp2_with fail
      refine (fcheck1 true true _ _ _ _ _ _ _ xs _ _ _ (HS.out.step (below3 _ _ _ _)) HE.out Z0).mono ?_
      rintro e w1 ⟨rfl, hb1⟩
      obtain ⟨X0, X1, X2, b1⟩ := after3 hb1
      clear hb1 Z0
      rw [fE_ok]
      have g0 : ∀ i, w1.cell? ⟨w.heap.size, i, none⟩ = _ := Bx.cell X0
      go_wp2_with (with_reducible refine wpList_make_row _ rfl _ _ 23 rfl 2 i0 (.int .i64 0) Try.underlying23 hi hz0 hz1 rfl .i64 .i64 0 rfl rfl (by rw [hz2]; omega) (by omega) ?_)
      have HB : Bf (w1.alloc (Obj.cells (madeCells #[Value.int IntKind.i64 0] 0) 2)) w1.heap.size 0 (fun _ => 0) := bf_made w1 0
      have b2 : Below w.heap.size w (w1.alloc (Obj.cells (madeCells #[Value.int IntKind.i64 0] 0) 2)) := bal b1 _
      have hn1 := Bx.lt X1
      replace X0 := Bx.alloc X0 (Obj.cells (madeCells #[Value.int IntKind.i64 0] 0) 2)
      replace X1 := Bx.alloc X1 (Obj.cells (madeCells #[Value.int IntKind.i64 0] 0) 2)
      obtain ⟨w2, hw2⟩ : ∃ w2, w1.alloc (Obj.cells (madeCells #[Value.int IntKind.i64 0] 0) 2) = w2 := ⟨_, rfl⟩
      rw [hw2] at HB b2 X0 X1
      rw [hw2]
      obtain ⟨B, hB⟩ : ∃ B, w1.heap.size = B := ⟨_, rfl⟩
      rw [hB] at HB hn1
      rw [hB]
      clear g0 hw2 hB
      have g0 : ∀ i, w2.cell? ⟨w.heap.size, i, none⟩ = _ := Bx.cell X0
      have HBl := HB.lt
      skip
      refine wp_loop_rounds 1 ?_
      rw [rounds_succ]
      go_wp2_with fail
      have HSl : Sl w2 (some ⟨B, 0, none⟩) 0 0 [] := Sl.empty _ _ _ (by decide)
      have b2' := b2
      have X1' := X1
      refine (fvec_any 1 _ 0 0 _).mono ?_
      rintro e w3 ⟨rfl, hb3⟩
      have b3 := bst b2' hb3
      replace X1 := Bx.step X1' hb3
      have S3 := Lib.hid (HSl.step hb3)
      have g1 : ∀ i, w3.cell? ⟨w.heap.size + 1, i, none⟩ = _ := Bx.cell X1
      have f1 : ∀ i, w3.frozen? ⟨w.heap.size + 1, i, none⟩ = false := Bx.frozen X1
      have q1 := Bx.lt X1
      clear g0
      go_wp2
      refine retAE (B := w.heap.size + 1) rfl rfl rfl rfl (Bx.set5 X1 _ _ _ _ _) ?_
      exact RetA.mk HR.out.symm (S3.out.past5 _ _ _ _ _ (fun b o e => by cases e; omega)) (fun b o s e => by cases e; omega) (below_set5 b3 (by omega) _ _ _ _ _)
    · clear hsh
      clear hl0 hl1
      go_enter Try.func13, Try.ntmps13
      go_wp2_with fail
      refine (fcheck1 true true _ _ _ _ _ _ _ xs _ _ _ (HS.out.step (below3 _ _ _ _)) HE.out Z0).mono ?_
      rintro e w1 ⟨rfl, hb1⟩
      obtain ⟨X0, X1, X2, b1⟩ := after3 hb1
      clear hb1 Z0
      rw [fE_ok]
      have g0 : ∀ i, w1.cell? ⟨w.heap.size, i, none⟩ = _ := Bx.cell X0
      go_wp2_with (with_reducible refine wpList_make_row _ rfl _ _ 23 rfl 2 i0 (.int .i64 0) Try.underlying23 hi hz0 hz1 rfl .i64 .i64 1 rfl rfl (by rw [hz2]; omega) (by omega) ?_)
      have HB : Bf (w1.alloc (Obj.cells (madeCells #[Value.int IntKind.i64 0] 1) 2)) w1.heap.size 1 (fun _ => 0) := bf_made w1 1
      have b2 : Below w.heap.size w (w1.alloc (Obj.cells (madeCells #[Value.int IntKind.i64 0] 1) 2)) := bal b1 _
      have hn1 := Bx.lt X1
      replace X0 := Bx.alloc X0 (Obj.cells (madeCells #[Value.int IntKind.i64 0] 1) 2)
      replace X1 := Bx.alloc X1 (Obj.cells (madeCells #[Value.int IntKind.i64 0] 1) 2)
      obtain ⟨w2, hw2⟩ : ∃ w2, w1.alloc (Obj.cells (madeCells #[Value.int IntKind.i64 0] 1) 2) = w2 := ⟨_, rfl⟩
      rw [hw2] at HB b2 X0 X1
      rw [hw2]
      obtain ⟨B, hB⟩ : ∃ B, w1.heap.size = B := ⟨_, rfl⟩
      rw [hB] at HB hn1
      rw [hB]
      clear g0 hw2 hB
      have g0 : ∀ i, w2.cell? ⟨w.heap.size, i, none⟩ = _ := Bx.cell X0
      have HBl := HB.lt
      skip
      refine wp_loop_rounds 2 ?_
      have d0 := HB.cell (j := 0) (by omega)
      have e0 := HB.frozen 0
      rw [rounds_succ]
      go_wp2
      rw [rounds_succ]
      go_wp2_with fail
      have HSl : Sl _ (some ⟨B, 0, none⟩) 1 1 [l0] := Bf.sl ((HB.set 0 l0).congr (f' := fun j => [l0].getD j 0) (fun j hj => by
        obtain rfl : j = 0 := by omega
        rfl)) rfl (Nat.le_refl _) (by decide)
      have b2' := bsc b2 (p := ⟨B, 0, none⟩) (by show _ ≤ B; omega) (.int .i64 l0)
      have X1' := Bx.far X1 (p := ⟨B, 0, none⟩) (by show _ ≠ B; omega) (.int .i64 l0)
      refine (fvec_any 1 _ 1 1 _).mono ?_
      rintro e w3 ⟨rfl, hb3⟩
      have b3 := bst b2' hb3
      replace X1 := Bx.step X1' hb3
      have S3 := Lib.hid (HSl.step hb3)
      have g1 : ∀ i, w3.cell? ⟨w.heap.size + 1, i, none⟩ = _ := Bx.cell X1
      have f1 : ∀ i, w3.frozen? ⟨w.heap.size + 1, i, none⟩ = false := Bx.frozen X1
      have q1 := Bx.lt X1
      clear g0
      go_wp2
      refine retAE (B := w.heap.size + 1) rfl rfl rfl rfl (Bx.set5 X1 _ _ _ _ _) ?_
      exact RetA.mk HR.out.symm (S3.out.past5 _ _ _ _ _ (fun b o e => by cases e; omega)) (fun b o s e => by cases e; omega) (below_set5 b3 (by omega) _ _ _ _ _)
    · clear hsh
      clear hl0 hl1 hl2 hl3 hl4
      go_enter Try.func13, Try.ntmps13
      go_wp2_with fail
      refine (fcheck1 true true _ _ _ _ _ _ _ xs _ _ _ (HS.out.step (below3 _ _ _ _)) HE.out Z0).mono ?_
      rintro e w1 ⟨rfl, hb1⟩
      obtain ⟨X0, X1, X2, b1⟩ := after3 hb1
      clear hb1 Z0
      rw [fE_ok]
      have g0 : ∀ i, w1.cell? ⟨w.heap.size, i, none⟩ = _ := Bx.cell X0
      go_wp2_with (with_reducible refine wpList_make_row _ rfl _ _ 23 rfl 2 i0 (.int .i64 0) Try.underlying23 hi hz0 hz1 rfl .i64 .i64 2 rfl rfl (by rw [hz2]; omega) (by omega) ?_)
      have HB : Bf (w1.alloc (Obj.cells (madeCells #[Value.int IntKind.i64 0] 2) 2)) w1.heap.size 2 (fun _ => 0) := bf_made w1 2
      have b2 : Below w.heap.size w (w1.alloc (Obj.cells (madeCells #[Value.int IntKind.i64 0] 2) 2)) := bal b1 _
      have hn1 := Bx.lt X1
      replace X0 := Bx.alloc X0 (Obj.cells (madeCells #[Value.int IntKind.i64 0] 2) 2)
      replace X1 := Bx.alloc X1 (Obj.cells (madeCells #[Value.int IntKind.i64 0] 2) 2)
      obtain ⟨w2, hw2⟩ : ∃ w2, w1.alloc (Obj.cells (madeCells #[Value.int IntKind.i64 0] 2) 2) = w2 := ⟨_, rfl⟩
      rw [hw2] at HB b2 X0 X1
      rw [hw2]
      obtain ⟨B, hB⟩ : ∃ B, w1.heap.size = B := ⟨_, rfl⟩
      rw [hB] at HB hn1
      rw [hB]
      clear g0 hw2 hB
      have g0 : ∀ i, w2.cell? ⟨w.heap.size, i, none⟩ = _ := Bx.cell X0
      have HBl := HB.lt
      skip
      refine wp_loop_rounds 3 ?_
      have d0 := HB.cell (j := 0) (by omega)
      have e0 := HB.frozen 0
      have d1 := HB.cell (j := 1) (by omega)
      have e1 := HB.frozen 1
      rw [rounds_succ]
      go_wp2
      rw [rounds_succ]
      go_wp2
      rw [rounds_succ]
      go_wp2_with fail
      have HSl : Sl _ (some ⟨B, 0, none⟩) 2 2 [l0, l1] := Bf.sl (((HB.set 0 l0).set 1 l1).congr (f' := fun j => [l0, l1].getD j 0) (fun j hj => by
        rcases (show j = 0 ∨ j = 1 by omega) with rfl | rfl <;> rfl)) rfl (Nat.le_refl _) (by decide)
      have b2' := bsc (bsc b2 (p := ⟨B, 0, none⟩) (by show _ ≤ B; omega) (.int .i64 l0)) (p := ⟨B, 1, none⟩) (by show _ ≤ B; omega) (.int .i64 l1)
      have X1' := Bx.far (Bx.far X1 (p := ⟨B, 0, none⟩) (by show _ ≠ B; omega) (.int .i64 l0)) (p := ⟨B, 1, none⟩) (by show _ ≠ B; omega) (.int .i64 l1)
      refine (fvec_any 1 _ 2 2 _).mono ?_
      rintro e w3 ⟨rfl, hb3⟩
      have b3 := bst b2' hb3
      replace X1 := Bx.step X1' hb3
      have S3 := Lib.hid (HSl.step hb3)
      have g1 : ∀ i, w3.cell? ⟨w.heap.size + 1, i, none⟩ = _ := Bx.cell X1
      have f1 : ∀ i, w3.frozen? ⟨w.heap.size + 1, i, none⟩ = false := Bx.frozen X1
      have q1 := Bx.lt X1
      clear g0
      go_wp2
      refine retAE (B := w.heap.size + 1) rfl rfl rfl rfl (Bx.set5 X1 _ _ _ _ _) ?_
      exact RetA.mk HR.out.symm (S3.out.past5 _ _ _ _ _ (fun b o e => by cases e; omega)) (fun b o s e => by cases e; omega) (below_set5 b3 (by omega) _ _ _ _ _)
  · rw [if_pos h0] at h
    have HR := Lib.hid h
    have hne : (ec != 0) = true := by simpa using h0
    have HEC : Hid (fE true true ec = ec) := Lib.hid (by unfold fE; rw [if_pos h0])
    clear hec h h0
    go_enter Try.func13, Try.ntmps13
    go_wp2_with fail
    refine (fcheck1 true true _ _ _ _ _ _ _ xs _ _ _ (HS.out.step (below3 _ _ _ _)) HE.out Z0).mono ?_
    rintro e w1 ⟨rfl, hb1⟩
    obtain ⟨X0, X1, X2, b1⟩ := after3 hb1
    clear hb1
    rw [HEC.out]
    have g1 : ∀ i, w1.cell? ⟨w.heap.size + 1, i, none⟩ = _ := Bx.cell X1
    have f1 : ∀ i, w1.frozen? ⟨w.heap.size + 1, i, none⟩ = false := Bx.frozen X1
    have q1 := Bx.lt X1
    go_wp2
    refine retAE (B := w.heap.size + 1) rfl rfl rfl rfl (Bx.set5 X1 _ _ _ _ _) ?_
    exact RetA.mk HR.out.symm (Sl.nil _) (fun _ _ _ h => by cases h) (below_set5 b1 (by omega) _ _ _ _ _)
end Go.Proofs.Ytfbloddffhafdaa

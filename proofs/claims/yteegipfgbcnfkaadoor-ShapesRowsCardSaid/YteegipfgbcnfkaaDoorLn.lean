/-
  shapes.Lens and the reference's.
-/
import Derived.Test.YteegipfgbcnfkaaDoorRet2
import Derived.Laws.CopyOwn
namespace Go.Proofs.YteegipfgbcnfkaaDoor
open Go.RowKit
attribute [local go_sem] Oper.semAt_some

theorem infoInt : (Tryd.prog.info? 3).map (fun i => i.size) = some 1 := by kernel_rfl

set_option maxHeartbeats 1000000 in
theorem lens_range (r : Int) (A : Option Addr) (n c : Nat) (w : World) (hr : r < 0 ∨ (0 ≤ r ∧ 2 < r)) :
    Calls Tryd.prog 25 #[.int .i64 r, .slice A n c] w fun e w' => e = .returned (.tuple #[.agg #[.int .i64 0, .int .i64 0], .int .i64 7]) ∧ Below w.heap.size w w' := by
  have X0 : Bx (w.alloc (.cells #[.int .i64 0, .int .i64 0] 22)) w.heap.size #[.int .i64 0, .int .i64 0] 22 := Bx.new _ _ _
  rcases hr with h | ⟨h1, h⟩
  all_goals
    go_enter Tryd.func25, Tryd.ntmps25
    go_wp2
    refine retLE (B := w.heap.size) rfl rfl rfl rfl X0 ?_
    exact ⟨rfl, bal (Below.refl _ _) _⟩
set_option maxHeartbeats 1000000 in
theorem lens_form (r : Int) (A : Option Addr) (n c : Nat) (w : World) (h0 : 0 ≤ r) (h1 : r ≤ 2) (_hn : n ≤ 9223372036854775807) (hr : (n : Int) ≠ r) :
    Calls Tryd.prog 25 #[.int .i64 r, .slice A n c] w fun e w' => e = .returned (.tuple #[.agg #[.int .i64 0, .int .i64 0], .int .i64 6]) ∧ Below w.heap.size w w' := by
  have X0 : Bx (w.alloc (.cells #[.int .i64 0, .int .i64 0] 22)) w.heap.size #[.int .i64 0, .int .i64 0] 22 := Bx.new _ _ _
  have hr2 : ((n : Int) != r) = true := by simpa using hr
  clear hr
  go_enter Tryd.func25, Tryd.ntmps25
  go_wp2
  refine retLE (B := w.heap.size) rfl rfl rfl rfl X0 ?_
  exact ⟨rfl, bal (Below.refl _ _) _⟩

set_option maxHeartbeats 1000000 in
theorem lens_0 (A : Option Addr) (c : Nat) ( ec : Int) (w : World) (hs : Sl w A 0 c []) (hec : shp 0 0 0 = ec) :
    Calls Tryd.prog 25 #[.int .i64 0, .slice A 0 c] w fun e w' => e = .returned (.tuple #[.agg #[.int .i64 0, .int .i64 0], .int .i64 ec]) ∧ Below w.heap.size w w' := by
  have HE := Lib.hid hec
  have hsz := infoInt
  have hG : (w.alloc (.cells #[.int .i64 0, .int .i64 0] 22)).heap[w.heap.size]? = some (.cells ([.int .i64 0, .int .i64 0] : List Value).toArray 22 (0, 0)) := heap_alloc_new w _
  have HG := Lib.hid hG
  have hb0 : Below w.heap.size w (w.alloc (.cells #[.int .i64 0, .int .i64 0] 22)) := bal (Below.refl _ _) _
  have hP : 0 < ([] : List Value).length → (some (⟨w.heap.size, 0, none⟩ : Addr)) = some ⟨w.heap.size, 0, none⟩ ∧ ∃ ad, A = some ad ∧ ∀ j v, ([] : List Value)[j]? = some v → (w.alloc (.cells #[.int .i64 0, .int .i64 0] 22)).cell? (ad.add j) = some v := by
    intro h
    obtain ⟨b, o, rfl, hbl, hc⟩ := hs.2.2.2 (by simp at h)
    refine ⟨rfl, _, rfl, fun j v hj => ?_⟩
    rw [Addr.add_lit, World.cell?_alloc_lt _ _ _ hbl]
    simp at hj
  have HP := Lib.hid hP
  have hF : 0 + ([] : List Value).length ≤ ([.int .i64 0, .int .i64 0] : List Value).length := by simp
  have h1c : ∀ v ∈ ([] : List Value), v.oneCell' = true := by simp
  have H1 := Lib.hid h1c
  have HF := Lib.hid hF
  have HM := Lib.hid (show ([] : List Value).length = Nat.min 0 2 from rfl)
  have HS := Lib.hid hs
  clear hec hG hP h1c hs hF
  by_cases he : ec = 0
  · subst he
    go_enter Tryd.func25, Tryd.ntmps25
    go_wp2_with (((with_reducible refine wpList_copy_splice (o := ⟨some 23, _, _, _, _, _⟩) rfl _ _ 45 45 rfl 3 Tryd.underlying45 hsz (some ⟨w.heap.size, 0, none⟩) A 2 2 0 c rfl rfl w.heap.size 0 [.int .i64 0, .int .i64 0] 22 HG.out [] HM.out HP.out HF.out H1.out w.heap.size w hb0 (Nat.le_refl _) ?_); intro w1 HG1 hb1; have X1 : Bx w1 w.heap.size #[.int .i64 0, .int .i64 0] 22 := HG1.out; have c1 : ∀ i, w1.cell? ⟨w.heap.size, i, none⟩ = _ := Bx.cell X1; clear HG1))
    go_wp2_with fail
    refine (check_any 0 0 0 0 _ HE.out).mono ?_
    rintro e w2 ⟨rfl, hb2⟩
    have X2 := Bx.step X1 hb2
    have b2 := bst hb1 hb2
    have q2 := Bx.lt X2
    clear c1 X1 hb1 hb2
    have c2 : ∀ i, w2.cell? ⟨w.heap.size, i, none⟩ = _ := Bx.cell X2
    have f2 : ∀ i, w2.frozen? ⟨w.heap.size, i, none⟩ = false := Bx.frozen X2
    go_wp2
    refine retLE (B := w.heap.size) rfl rfl rfl rfl (Bx.set2 X2 _ _) ?_
    exact ⟨rfl, below_set2 b2 (Nat.le_refl _) _ _⟩
  · have hne : (ec != 0) = true := by simpa using he
    skip
    clear he
    go_enter Tryd.func25, Tryd.ntmps25
    go_wp2_with (((with_reducible refine wpList_copy_splice (o := ⟨some 23, _, _, _, _, _⟩) rfl _ _ 45 45 rfl 3 Tryd.underlying45 hsz (some ⟨w.heap.size, 0, none⟩) A 2 2 0 c rfl rfl w.heap.size 0 [.int .i64 0, .int .i64 0] 22 HG.out [] HM.out HP.out HF.out H1.out w.heap.size w hb0 (Nat.le_refl _) ?_); intro w1 HG1 hb1; have X1 : Bx w1 w.heap.size #[.int .i64 0, .int .i64 0] 22 := HG1.out; have c1 : ∀ i, w1.cell? ⟨w.heap.size, i, none⟩ = _ := Bx.cell X1; clear HG1))
    go_wp2_with fail
    refine (check_any 0 0 0 ec _ HE.out).mono ?_
    rintro e w2 ⟨rfl, hb2⟩
    have X2 := Bx.step X1 hb2
    have b2 := bst hb1 hb2
    have q2 := Bx.lt X2
    clear c1 X1 hb1 hb2
    have c2 : ∀ i, w2.cell? ⟨w.heap.size, i, none⟩ = _ := Bx.cell X2
    have f2 : ∀ i, w2.frozen? ⟨w.heap.size, i, none⟩ = false := Bx.frozen X2
    go_wp2
    refine retLE (B := w.heap.size) rfl rfl rfl rfl (Bx.set2 X2 _ _) ?_
    exact ⟨rfl, below_set2 b2 (Nat.le_refl _) _ _⟩

set_option maxHeartbeats 1000000 in
theorem lens_1 (A : Option Addr) (c : Nat) (x0 ec : Int) (w : World) (hs : Sl w A 1 c [x0]) (hec : shp 1 x0 0 = ec) :
    Calls Tryd.prog 25 #[.int .i64 1, .slice A 1 c] w fun e w' => e = .returned (.tuple #[.agg #[.int .i64 (if ec = 0 then x0 else 0), .int .i64 0], .int .i64 ec]) ∧ Below w.heap.size w w' := by
  have HE := Lib.hid hec
  have hsz := infoInt
  have hG : (w.alloc (.cells #[.int .i64 0, .int .i64 0] 22)).heap[w.heap.size]? = some (.cells ([.int .i64 0, .int .i64 0] : List Value).toArray 22 (0, 0)) := heap_alloc_new w _
  have HG := Lib.hid hG
  have hb0 : Below w.heap.size w (w.alloc (.cells #[.int .i64 0, .int .i64 0] 22)) := bal (Below.refl _ _) _
  have hP : 0 < ([.int .i64 x0] : List Value).length → (some (⟨w.heap.size, 0, none⟩ : Addr)) = some ⟨w.heap.size, 0, none⟩ ∧ ∃ ad, A = some ad ∧ ∀ j v, ([.int .i64 x0] : List Value)[j]? = some v → (w.alloc (.cells #[.int .i64 0, .int .i64 0] 22)).cell? (ad.add j) = some v := by
    intro h
    obtain ⟨b, o, rfl, hbl, hc⟩ := hs.2.2.2 (by simp)
    refine ⟨rfl, _, rfl, fun j v hj => ?_⟩
    rw [Addr.add_lit, World.cell?_alloc_lt _ _ _ hbl]
    match j, hj with
    | 0, hj => exact (hc 0 (by omega)).trans (by simpa using hj)
  have HP := Lib.hid hP
  have hF : 0 + ([.int .i64 x0] : List Value).length ≤ ([.int .i64 0, .int .i64 0] : List Value).length := by simp
  have h1c : ∀ v ∈ ([.int .i64 x0] : List Value), v.oneCell' = true := by simp [Value.oneCell']
  have H1 := Lib.hid h1c
  have HF := Lib.hid hF
  have HM := Lib.hid (show ([.int .i64 x0] : List Value).length = Nat.min 1 2 from rfl)
  have HS := Lib.hid hs
  clear hec hG hP h1c hs hF
  by_cases he : ec = 0
  · subst he
    go_enter Tryd.func25, Tryd.ntmps25
    go_wp2_with (((with_reducible refine wpList_copy_splice (o := ⟨some 23, _, _, _, _, _⟩) rfl _ _ 45 45 rfl 3 Tryd.underlying45 hsz (some ⟨w.heap.size, 0, none⟩) A 2 2 1 c rfl rfl w.heap.size 0 [.int .i64 0, .int .i64 0] 22 HG.out [.int .i64 x0] HM.out HP.out HF.out H1.out w.heap.size w hb0 (Nat.le_refl _) ?_); intro w1 HG1 hb1; have X1 : Bx w1 w.heap.size #[.int .i64 x0, .int .i64 0] 22 := HG1.out; have c1 : ∀ i, w1.cell? ⟨w.heap.size, i, none⟩ = _ := Bx.cell X1; clear HG1))
    go_wp2_with fail
    refine (check_any 1 x0 0 0 _ HE.out).mono ?_
    rintro e w2 ⟨rfl, hb2⟩
    have X2 := Bx.step X1 hb2
    have b2 := bst hb1 hb2
    have q2 := Bx.lt X2
    clear c1 X1 hb1 hb2
    have c2 : ∀ i, w2.cell? ⟨w.heap.size, i, none⟩ = _ := Bx.cell X2
    have f2 : ∀ i, w2.frozen? ⟨w.heap.size, i, none⟩ = false := Bx.frozen X2
    go_wp2
    refine retLE (B := w.heap.size) rfl rfl rfl rfl (Bx.set2 X2 _ _) ?_
    exact ⟨rfl, below_set2 b2 (Nat.le_refl _) _ _⟩
  · have hne : (ec != 0) = true := by simpa using he
    rw [if_neg he]
    clear he
    go_enter Tryd.func25, Tryd.ntmps25
    go_wp2_with (((with_reducible refine wpList_copy_splice (o := ⟨some 23, _, _, _, _, _⟩) rfl _ _ 45 45 rfl 3 Tryd.underlying45 hsz (some ⟨w.heap.size, 0, none⟩) A 2 2 1 c rfl rfl w.heap.size 0 [.int .i64 0, .int .i64 0] 22 HG.out [.int .i64 x0] HM.out HP.out HF.out H1.out w.heap.size w hb0 (Nat.le_refl _) ?_); intro w1 HG1 hb1; have X1 : Bx w1 w.heap.size #[.int .i64 x0, .int .i64 0] 22 := HG1.out; have c1 : ∀ i, w1.cell? ⟨w.heap.size, i, none⟩ = _ := Bx.cell X1; clear HG1))
    go_wp2_with fail
    refine (check_any 1 x0 0 ec _ HE.out).mono ?_
    rintro e w2 ⟨rfl, hb2⟩
    have X2 := Bx.step X1 hb2
    have b2 := bst hb1 hb2
    have q2 := Bx.lt X2
    clear c1 X1 hb1 hb2
    have c2 : ∀ i, w2.cell? ⟨w.heap.size, i, none⟩ = _ := Bx.cell X2
    have f2 : ∀ i, w2.frozen? ⟨w.heap.size, i, none⟩ = false := Bx.frozen X2
    go_wp2
    refine retLE (B := w.heap.size) rfl rfl rfl rfl (Bx.set2 X2 _ _) ?_
    exact ⟨rfl, below_set2 b2 (Nat.le_refl _) _ _⟩

set_option maxHeartbeats 1000000 in
theorem lens_2 (A : Option Addr) (c : Nat) (x0 x1 ec : Int) (w : World) (hs : Sl w A 2 c [x0, x1]) (hec : shp 2 x0 x1 = ec) :
    Calls Tryd.prog 25 #[.int .i64 2, .slice A 2 c] w fun e w' => e = .returned (.tuple #[.agg #[.int .i64 (if ec = 0 then x0 else 0), .int .i64 (if ec = 0 then x1 else 0)], .int .i64 ec]) ∧ Below w.heap.size w w' := by
  have HE := Lib.hid hec
  have hsz := infoInt
  have hG : (w.alloc (.cells #[.int .i64 0, .int .i64 0] 22)).heap[w.heap.size]? = some (.cells ([.int .i64 0, .int .i64 0] : List Value).toArray 22 (0, 0)) := heap_alloc_new w _
  have HG := Lib.hid hG
  have hb0 : Below w.heap.size w (w.alloc (.cells #[.int .i64 0, .int .i64 0] 22)) := bal (Below.refl _ _) _
  have hP : 0 < ([.int .i64 x0, .int .i64 x1] : List Value).length → (some (⟨w.heap.size, 0, none⟩ : Addr)) = some ⟨w.heap.size, 0, none⟩ ∧ ∃ ad, A = some ad ∧ ∀ j v, ([.int .i64 x0, .int .i64 x1] : List Value)[j]? = some v → (w.alloc (.cells #[.int .i64 0, .int .i64 0] 22)).cell? (ad.add j) = some v := by
    intro h
    obtain ⟨b, o, rfl, hbl, hc⟩ := hs.2.2.2 (by simp)
    refine ⟨rfl, _, rfl, fun j v hj => ?_⟩
    rw [Addr.add_lit, World.cell?_alloc_lt _ _ _ hbl]
    match j, hj with
    | 0, hj => exact (hc 0 (by omega)).trans (by simpa using hj)
    | 1, hj => exact (hc 1 (by omega)).trans (by simpa using hj)
  have HP := Lib.hid hP
  have hF : 0 + ([.int .i64 x0, .int .i64 x1] : List Value).length ≤ ([.int .i64 0, .int .i64 0] : List Value).length := by simp
  have h1c : ∀ v ∈ ([.int .i64 x0, .int .i64 x1] : List Value), v.oneCell' = true := by simp [Value.oneCell']
  have H1 := Lib.hid h1c
  have HF := Lib.hid hF
  have HM := Lib.hid (show ([.int .i64 x0, .int .i64 x1] : List Value).length = Nat.min 2 2 from rfl)
  have HS := Lib.hid hs
  clear hec hG hP h1c hs hF
  by_cases he : ec = 0
  · subst he
    go_enter Tryd.func25, Tryd.ntmps25
    go_wp2_with (((with_reducible refine wpList_copy_splice (o := ⟨some 23, _, _, _, _, _⟩) rfl _ _ 45 45 rfl 3 Tryd.underlying45 hsz (some ⟨w.heap.size, 0, none⟩) A 2 2 2 c rfl rfl w.heap.size 0 [.int .i64 0, .int .i64 0] 22 HG.out [.int .i64 x0, .int .i64 x1] HM.out HP.out HF.out H1.out w.heap.size w hb0 (Nat.le_refl _) ?_); intro w1 HG1 hb1; have X1 : Bx w1 w.heap.size #[.int .i64 x0, .int .i64 x1] 22 := HG1.out; have c1 : ∀ i, w1.cell? ⟨w.heap.size, i, none⟩ = _ := Bx.cell X1; clear HG1))
    go_wp2_with fail
    refine (check_any 2 x0 x1 0 _ HE.out).mono ?_
    rintro e w2 ⟨rfl, hb2⟩
    have X2 := Bx.step X1 hb2
    have b2 := bst hb1 hb2
    have q2 := Bx.lt X2
    clear c1 X1 hb1 hb2
    have c2 : ∀ i, w2.cell? ⟨w.heap.size, i, none⟩ = _ := Bx.cell X2
    have f2 : ∀ i, w2.frozen? ⟨w.heap.size, i, none⟩ = false := Bx.frozen X2
    go_wp2
    refine retLE (B := w.heap.size) rfl rfl rfl rfl (Bx.set2 X2 _ _) ?_
    exact ⟨rfl, below_set2 b2 (Nat.le_refl _) _ _⟩
  · have hne : (ec != 0) = true := by simpa using he
    rw [if_neg he, if_neg he]
    clear he
    go_enter Tryd.func25, Tryd.ntmps25
    go_wp2_with (((with_reducible refine wpList_copy_splice (o := ⟨some 23, _, _, _, _, _⟩) rfl _ _ 45 45 rfl 3 Tryd.underlying45 hsz (some ⟨w.heap.size, 0, none⟩) A 2 2 2 c rfl rfl w.heap.size 0 [.int .i64 0, .int .i64 0] 22 HG.out [.int .i64 x0, .int .i64 x1] HM.out HP.out HF.out H1.out w.heap.size w hb0 (Nat.le_refl _) ?_); intro w1 HG1 hb1; have X1 : Bx w1 w.heap.size #[.int .i64 x0, .int .i64 x1] 22 := HG1.out; have c1 : ∀ i, w1.cell? ⟨w.heap.size, i, none⟩ = _ := Bx.cell X1; clear HG1))
    go_wp2_with fail
    refine (check_any 2 x0 x1 ec _ HE.out).mono ?_
    rintro e w2 ⟨rfl, hb2⟩
    have X2 := Bx.step X1 hb2
    have b2 := bst hb1 hb2
    have q2 := Bx.lt X2
    clear c1 X1 hb1 hb2
    have c2 : ∀ i, w2.cell? ⟨w.heap.size, i, none⟩ = _ := Bx.cell X2
    have f2 : ∀ i, w2.frozen? ⟨w.heap.size, i, none⟩ = false := Bx.frozen X2
    go_wp2
    refine retLE (B := w.heap.size) rfl rfl rfl rfl (Bx.set2 X2 _ _) ?_
    exact ⟨rfl, below_set2 b2 (Nat.le_refl _) _ _⟩

set_option maxHeartbeats 1000000 in
theorem rlens_range (r : Int) (A : Option Addr) (n c : Nat) (w : World) (hr : r < 0 ∨ (0 ≤ r ∧ 2 < r)) :
    Calls Tryd.prog 26 #[.int .i64 r, .slice A n c] w fun e w' => e = .returned (.tuple #[.agg #[.int .i64 0, .int .i64 0], .int .i64 7]) ∧ Below w.heap.size w w' := by
  have X0 : Bx (w.alloc (.cells #[.int .i64 0, .int .i64 0] 22)) w.heap.size #[.int .i64 0, .int .i64 0] 22 := Bx.new _ _ _
  rcases hr with h | ⟨h1, h⟩
  all_goals
    go_enter Tryd.func26, Tryd.ntmps26
    go_wp2
    refine retLE (B := w.heap.size) rfl rfl rfl rfl X0 ?_
    exact ⟨rfl, bal (Below.refl _ _) _⟩
set_option maxHeartbeats 1000000 in
theorem rlens_form (r : Int) (A : Option Addr) (n c : Nat) (w : World) (h0 : 0 ≤ r) (h1 : r ≤ 2) (_hn : n ≤ 9223372036854775807) (hr : (n : Int) ≠ r) :
    Calls Tryd.prog 26 #[.int .i64 r, .slice A n c] w fun e w' => e = .returned (.tuple #[.agg #[.int .i64 0, .int .i64 0], .int .i64 6]) ∧ Below w.heap.size w w' := by
  have X0 : Bx (w.alloc (.cells #[.int .i64 0, .int .i64 0] 22)) w.heap.size #[.int .i64 0, .int .i64 0] 22 := Bx.new _ _ _
  have hr2 : ((n : Int) != r) = true := by simpa using hr
  clear hr
  go_enter Tryd.func26, Tryd.ntmps26
  go_wp2
  refine retLE (B := w.heap.size) rfl rfl rfl rfl X0 ?_
  exact ⟨rfl, bal (Below.refl _ _) _⟩

set_option maxHeartbeats 1000000 in
theorem rlens_0 (A : Option Addr) (c : Nat) ( ec : Int) (w : World) (_hs : Sl w A 0 c []) (hec : shp 0 0 0 = ec) :
    Calls Tryd.prog 26 #[.int .i64 0, .slice A 0 c] w fun e w' => e = .returned (.tuple #[.agg #[.int .i64 0, .int .i64 0], .int .i64 ec]) ∧ Below w.heap.size w w' := by
  have HE := Lib.hid hec
  clear hec
  by_cases he : ec = 0
  · subst he
    go_enter Tryd.func26, Tryd.ntmps26
    go_wp2
    refine wp_loop_rounds 1 ?_
    rw [rounds_succ]
    go_wp2_with fail
    refine (rcheck_any 0 0 0 0 _ HE.out).mono ?_
    rintro e w2 ⟨rfl, hb2⟩
    obtain ⟨X0, X1, b2⟩ := after2 hb2
    have q0 := Bx.lt X0
    have q1 := Bx.lt X1
    clear hb2
    have c0 : ∀ i, w2.cell? ⟨w.heap.size, i, none⟩ = _ := Bx.cell X0
    have f0 : ∀ i, w2.frozen? ⟨w.heap.size, i, none⟩ = false := Bx.frozen X0
    have c1 : ∀ i, w2.cell? ⟨w.heap.size + 1, i, none⟩ = _ := Bx.cell X1
    go_wp2
    refine retLE (B := w.heap.size) rfl rfl rfl rfl (Bx.set2 X0 _ _) ?_
    exact ⟨rfl, below_set2 b2 (Nat.le_refl _) _ _⟩
  · have hne : (ec != 0) = true := by simpa using he
    skip
    clear he
    go_enter Tryd.func26, Tryd.ntmps26
    go_wp2
    refine wp_loop_rounds 1 ?_
    rw [rounds_succ]
    go_wp2_with fail
    refine (rcheck_any 0 0 0 ec _ HE.out).mono ?_
    rintro e w2 ⟨rfl, hb2⟩
    obtain ⟨X0, X1, b2⟩ := after2 hb2
    have q0 := Bx.lt X0
    have q1 := Bx.lt X1
    clear hb2
    have c0 : ∀ i, w2.cell? ⟨w.heap.size, i, none⟩ = _ := Bx.cell X0
    have f0 : ∀ i, w2.frozen? ⟨w.heap.size, i, none⟩ = false := Bx.frozen X0
    have c1 : ∀ i, w2.cell? ⟨w.heap.size + 1, i, none⟩ = _ := Bx.cell X1
    go_wp2
    refine retLE (B := w.heap.size) rfl rfl rfl rfl (Bx.set2 X0 _ _) ?_
    exact ⟨rfl, below_set2 b2 (Nat.le_refl _) _ _⟩

set_option maxHeartbeats 1000000 in
theorem rlens_1 (A : Option Addr) (c : Nat) (x0 ec : Int) (w : World) (hs : Sl w A 1 c [x0]) (hec : shp 1 x0 0 = ec) :
    Calls Tryd.prog 26 #[.int .i64 1, .slice A 1 c] w fun e w' => e = .returned (.tuple #[.agg #[.int .i64 (if ec = 0 then x0 else 0), .int .i64 0], .int .i64 ec]) ∧ Below w.heap.size w w' := by
  have HE := Lib.hid hec
  obtain ⟨b, o, rfl, hbl, _⟩ := hs.at_ (k := 0) (by omega)
  have s0 : w.cell? ⟨b, o, none⟩ = some (.int .i64 x0) := hs.cells 0 (by omega)
  have n0 : b ≠ w.heap.size := by omega
  have n1 : b ≠ w.heap.size + 1 := by omega
  have n2 : b < w.heap.size + 1 := by omega
  have n3 : b < w.heap.size + 1 + 1 := by omega
  have hc1 := hs.cap
  have hc2 := hs.most
  clear hec hs
  by_cases he : ec = 0
  · subst he
    go_enter Tryd.func26, Tryd.ntmps26
    go_wp2
    refine wp_loop_rounds 2 ?_
    rw [rounds_succ]
    go_wp2
    rw [rounds_succ]
    go_wp2_with fail
    refine (rcheck_any 1 x0 0 0 _ HE.out).mono ?_
    rintro e w2 ⟨rfl, hb2⟩
    obtain ⟨X0, X1, b2⟩ := after2 hb2
    have q0 := Bx.lt X0
    have q1 := Bx.lt X1
    clear hb2
    have c0 : ∀ i, w2.cell? ⟨w.heap.size, i, none⟩ = _ := Bx.cell X0
    have f0 : ∀ i, w2.frozen? ⟨w.heap.size, i, none⟩ = false := Bx.frozen X0
    have c1 : ∀ i, w2.cell? ⟨w.heap.size + 1, i, none⟩ = _ := Bx.cell X1
    go_wp2
    refine retLE (B := w.heap.size) rfl rfl rfl rfl (Bx.set2 X0 _ _) ?_
    exact ⟨rfl, below_set2 b2 (Nat.le_refl _) _ _⟩
  · have hne : (ec != 0) = true := by simpa using he
    rw [if_neg he]
    clear he
    go_enter Tryd.func26, Tryd.ntmps26
    go_wp2
    refine wp_loop_rounds 2 ?_
    rw [rounds_succ]
    go_wp2
    rw [rounds_succ]
    go_wp2_with fail
    refine (rcheck_any 1 x0 0 ec _ HE.out).mono ?_
    rintro e w2 ⟨rfl, hb2⟩
    obtain ⟨X0, X1, b2⟩ := after2 hb2
    have q0 := Bx.lt X0
    have q1 := Bx.lt X1
    clear hb2
    have c0 : ∀ i, w2.cell? ⟨w.heap.size, i, none⟩ = _ := Bx.cell X0
    have f0 : ∀ i, w2.frozen? ⟨w.heap.size, i, none⟩ = false := Bx.frozen X0
    have c1 : ∀ i, w2.cell? ⟨w.heap.size + 1, i, none⟩ = _ := Bx.cell X1
    go_wp2
    refine retLE (B := w.heap.size) rfl rfl rfl rfl (Bx.set2 X0 _ _) ?_
    exact ⟨rfl, below_set2 b2 (Nat.le_refl _) _ _⟩

set_option maxHeartbeats 1000000 in
theorem rlens_2 (A : Option Addr) (c : Nat) (x0 x1 ec : Int) (w : World) (hs : Sl w A 2 c [x0, x1]) (hec : shp 2 x0 x1 = ec) :
    Calls Tryd.prog 26 #[.int .i64 2, .slice A 2 c] w fun e w' => e = .returned (.tuple #[.agg #[.int .i64 (if ec = 0 then x0 else 0), .int .i64 (if ec = 0 then x1 else 0)], .int .i64 ec]) ∧ Below w.heap.size w w' := by
  have HE := Lib.hid hec
  obtain ⟨b, o, rfl, hbl, _⟩ := hs.at_ (k := 0) (by omega)
  have s0 : w.cell? ⟨b, o, none⟩ = some (.int .i64 x0) := hs.cells 0 (by omega)
  have s1 : w.cell? ⟨b, o + 1, none⟩ = some (.int .i64 x1) := hs.cells 1 (by omega)
  have n0 : b ≠ w.heap.size := by omega
  have n1 : b ≠ w.heap.size + 1 := by omega
  have n2 : b < w.heap.size + 1 := by omega
  have n3 : b < w.heap.size + 1 + 1 := by omega
  have hc1 := hs.cap
  have hc2 := hs.most
  clear hec hs
  by_cases he : ec = 0
  · subst he
    go_enter Tryd.func26, Tryd.ntmps26
    go_wp2
    refine wp_loop_rounds 3 ?_
    rw [rounds_succ]
    go_wp2
    rw [rounds_succ]
    go_wp2
    rw [rounds_succ]
    go_wp2_with fail
    refine (rcheck_any 2 x0 x1 0 _ HE.out).mono ?_
    rintro e w2 ⟨rfl, hb2⟩
    obtain ⟨X0, X1, b2⟩ := after2 hb2
    have q0 := Bx.lt X0
    have q1 := Bx.lt X1
    clear hb2
    have c0 : ∀ i, w2.cell? ⟨w.heap.size, i, none⟩ = _ := Bx.cell X0
    have f0 : ∀ i, w2.frozen? ⟨w.heap.size, i, none⟩ = false := Bx.frozen X0
    have c1 : ∀ i, w2.cell? ⟨w.heap.size + 1, i, none⟩ = _ := Bx.cell X1
    go_wp2
    refine retLE (B := w.heap.size) rfl rfl rfl rfl (Bx.set2 X0 _ _) ?_
    exact ⟨rfl, below_set2 b2 (Nat.le_refl _) _ _⟩
  · have hne : (ec != 0) = true := by simpa using he
    rw [if_neg he, if_neg he]
    clear he
    go_enter Tryd.func26, Tryd.ntmps26
    go_wp2
    refine wp_loop_rounds 3 ?_
    rw [rounds_succ]
    go_wp2
    rw [rounds_succ]
    go_wp2
    rw [rounds_succ]
    go_wp2_with fail
    refine (rcheck_any 2 x0 x1 ec _ HE.out).mono ?_
    rintro e w2 ⟨rfl, hb2⟩
    obtain ⟨X0, X1, b2⟩ := after2 hb2
    have q0 := Bx.lt X0
    have q1 := Bx.lt X1
    clear hb2
    have c0 : ∀ i, w2.cell? ⟨w.heap.size, i, none⟩ = _ := Bx.cell X0
    have f0 : ∀ i, w2.frozen? ⟨w.heap.size, i, none⟩ = false := Bx.frozen X0
    have c1 : ∀ i, w2.cell? ⟨w.heap.size + 1, i, none⟩ = _ := Bx.cell X1
    go_wp2
    refine retLE (B := w.heap.size) rfl rfl rfl rfl (Bx.set2 X0 _ _) ?_
    exact ⟨rfl, below_set2 b2 (Nat.le_refl _) _ _⟩

theorem lens_any (r : Int) (A : Option Addr) (n c : Nat) (xs : List Int) (a b ec : Int) (w : World) (hs : Sl w A n c xs) (h : sLens r xs = (a, b, ec)) :
    Calls Tryd.prog 25 #[.int .i64 r, .slice A n c] w fun e w' => e = .returned (.tuple #[.agg #[.int .i64 a, .int .i64 b], .int .i64 ec]) ∧ Below w.heap.size w w' := by
  have hl := hs.len
  have hm := hs.most
  have hc := hs.cap
  unfold sLens at h
  split at h
  · rename_i hr
    simp only [Prod.mk.injEq] at h
    obtain ⟨rfl, rfl, rfl⟩ := h
    exact lens_range r A n c w (by omega)
  rename_i hr
  split at h
  · rename_i hn
    simp only [Prod.mk.injEq] at h
    obtain ⟨rfl, rfl, rfl⟩ := h
    exact lens_form r A n c w (by omega) (by omega) (by omega) (by omega)
  rename_i hn
  have hr3 : r = 0 ∨ r = 1 ∨ r = 2 := by omega
  rcases hr3 with rfl | rfl | rfl
  · obtain rfl : n = 0 := by omega
    obtain rfl : xs = [] := List.eq_nil_of_length_eq_zero hl
    have h2 := lens_0 A c _ w hs rfl
    have hz : shp 0 0 0 = 0 := rfl
    simp only [List.getD_nil, hz, ne_eq, not_true_eq_false, if_false, Prod.mk.injEq] at h
    obtain ⟨rfl, rfl, rfl⟩ := h
    exact h2
  · obtain rfl : n = 1 := by omega
    obtain ⟨x, rfl⟩ : ∃ x, xs = [x] := List.length_eq_one_iff.1 hl
    have h2 := lens_1 A c x _ w hs rfl
    split at h
    · rename_i he
      simp only [Prod.mk.injEq] at h
      obtain ⟨rfl, rfl, rfl⟩ := h
      simp only [List.getD_cons_zero, List.getD_cons_succ, List.getD_nil] at he
      rw [if_neg he] at h2
      exact h2
    · rename_i he
      have he := Decidable.not_not.1 he
      simp only [Prod.mk.injEq] at h
      obtain ⟨rfl, rfl, rfl⟩ := h
      simp only [List.getD_cons_zero, List.getD_cons_succ, List.getD_nil] at he
      rw [he, if_pos rfl] at h2
      exact h2
  · obtain rfl : n = 2 := by omega
    obtain ⟨x, y, rfl⟩ : ∃ x y, xs = [x, y] := by
      match xs, hl with
      | [x, y], _ => exact ⟨x, y, rfl⟩
    have h2 := lens_2 A c x y _ w hs rfl
    split at h
    · rename_i he
      simp only [Prod.mk.injEq] at h
      obtain ⟨rfl, rfl, rfl⟩ := h
      simp only [List.getD_cons_zero, List.getD_cons_succ] at he
      rw [if_neg he, if_neg he] at h2
      exact h2
    · rename_i he
      have he := Decidable.not_not.1 he
      simp only [Prod.mk.injEq] at h
      obtain ⟨rfl, rfl, rfl⟩ := h
      simp only [List.getD_cons_zero, List.getD_cons_succ] at he
      rw [he, if_pos rfl, if_pos rfl] at h2
      exact h2

theorem rlens_any (r : Int) (A : Option Addr) (n c : Nat) (xs : List Int) (a b ec : Int) (w : World) (hs : Sl w A n c xs) (h : sLens r xs = (a, b, ec)) :
    Calls Tryd.prog 26 #[.int .i64 r, .slice A n c] w fun e w' => e = .returned (.tuple #[.agg #[.int .i64 a, .int .i64 b], .int .i64 ec]) ∧ Below w.heap.size w w' := by
  have hl := hs.len
  have hm := hs.most
  have hc := hs.cap
  unfold sLens at h
  split at h
  · rename_i hr
    simp only [Prod.mk.injEq] at h
    obtain ⟨rfl, rfl, rfl⟩ := h
    exact rlens_range r A n c w (by omega)
  rename_i hr
  split at h
  · rename_i hn
    simp only [Prod.mk.injEq] at h
    obtain ⟨rfl, rfl, rfl⟩ := h
    exact rlens_form r A n c w (by omega) (by omega) (by omega) (by omega)
  rename_i hn
  have hr3 : r = 0 ∨ r = 1 ∨ r = 2 := by omega
  rcases hr3 with rfl | rfl | rfl
  · obtain rfl : n = 0 := by omega
    obtain rfl : xs = [] := List.eq_nil_of_length_eq_zero hl
    have h2 := rlens_0 A c _ w hs rfl
    have hz : shp 0 0 0 = 0 := rfl
    simp only [List.getD_nil, hz, ne_eq, not_true_eq_false, if_false, Prod.mk.injEq] at h
    obtain ⟨rfl, rfl, rfl⟩ := h
    exact h2
  · obtain rfl : n = 1 := by omega
    obtain ⟨x, rfl⟩ : ∃ x, xs = [x] := List.length_eq_one_iff.1 hl
    have h2 := rlens_1 A c x _ w hs rfl
    split at h
    · rename_i he
      simp only [Prod.mk.injEq] at h
      obtain ⟨rfl, rfl, rfl⟩ := h
      simp only [List.getD_cons_zero, List.getD_cons_succ, List.getD_nil] at he
      rw [if_neg he] at h2
      exact h2
    · rename_i he
      have he := Decidable.not_not.1 he
      simp only [Prod.mk.injEq] at h
      obtain ⟨rfl, rfl, rfl⟩ := h
      simp only [List.getD_cons_zero, List.getD_cons_succ, List.getD_nil] at he
      rw [he, if_pos rfl] at h2
      exact h2
  · obtain rfl : n = 2 := by omega
    obtain ⟨x, y, rfl⟩ : ∃ x y, xs = [x, y] := by
      match xs, hl with
      | [x, y], _ => exact ⟨x, y, rfl⟩
    have h2 := rlens_2 A c x y _ w hs rfl
    split at h
    · rename_i he
      simp only [Prod.mk.injEq] at h
      obtain ⟨rfl, rfl, rfl⟩ := h
      simp only [List.getD_cons_zero, List.getD_cons_succ] at he
      rw [if_neg he, if_neg he] at h2
      exact h2
    · rename_i he
      have he := Decidable.not_not.1 he
      simp only [Prod.mk.injEq] at h
      obtain ⟨rfl, rfl, rfl⟩ := h
      simp only [List.getD_cons_zero, List.getD_cons_succ] at he
      rw [he, if_pos rfl, if_pos rfl] at h2
      exact h2

end Go.Proofs.YteegipfgbcnfkaaDoor

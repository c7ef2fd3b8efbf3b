/-
  shapes.Print and the reference's.
-/
import Derived.Test.YteegipfgbcnfkaaDoorDg5
namespace Go.Proofs.YteegipfgbcnfkaaDoor
open Go.RowKit
attribute [local go_sem] Oper.semAt_some

def txScalar : ByteArray := ⟨#[115, 99, 97, 108, 97, 114]⟩
def txCross : ByteArray := ⟨#[120]⟩
def sPrint (r l0 l1 : Int) : ByteArray × Int :=
  if shp r l0 l1 ≠ 0 then (⟨#[]⟩, shp r l0 l1)
  else if r = 0 then (txScalar, 0)
  else if r = 1 then (digs l0.toNat, 0)
  else (digs l0.toNat ++ (txCross ++ digs l1.toNat), 0)

set_option maxHeartbeats 1000000 in
theorem print_err (r l0 l1 ec : Int) (w : World) (hs : shp r l0 l1 = ec) (hne : ec ≠ 0) :
    Calls Tryd.prog 13 #[.int .i64 r, .agg #[.int .i64 l0, .int .i64 l1]] w fun e w' => e = .returned (.tuple #[.string ⟨#[]⟩, .int .i64 ec]) ∧ Below w.heap.size w w' := by
  have HS := Lib.hid hs
  have hne' : (ec != 0) = true := by simpa using hne
  clear hs hne
  go_enter Tryd.func13, Tryd.ntmps13
  go_wp2_with fail
  refine (check_any r l0 l1 ec _ HS.out).mono ?_
  rintro e w1 ⟨rfl, hb1⟩
  obtain ⟨X0, b1⟩ := after1 hb1
  have q0 := Bx.lt X0
  clear hb1
  have c0 : ∀ i, w1.cell? ⟨w.heap.size, i, none⟩ = _ := Bx.cell X0
  go_wp2
  go_ret2
  exact ⟨rfl, b1⟩
set_option maxHeartbeats 1000000 in
theorem rprint_err (r l0 l1 ec : Int) (w : World) (hs : shp r l0 l1 = ec) (hne : ec ≠ 0) :
    Calls Tryd.prog 14 #[.int .i64 r, .agg #[.int .i64 l0, .int .i64 l1]] w fun e w' => e = .returned (.tuple #[.string ⟨#[]⟩, .int .i64 ec]) ∧ Below w.heap.size w w' := by
  have HS := Lib.hid hs
  have hne' : (ec != 0) = true := by simpa using hne
  clear hs hne
  go_enter Tryd.func14, Tryd.ntmps14
  go_wp2_with fail
  refine (rcheck_any r l0 l1 ec _ HS.out).mono ?_
  rintro e w1 ⟨rfl, hb1⟩
  obtain ⟨X0, b1⟩ := after1 hb1
  have q0 := Bx.lt X0
  clear hb1
  have c0 : ∀ i, w1.cell? ⟨w.heap.size, i, none⟩ = _ := Bx.cell X0
  go_wp2
  go_ret2
  exact ⟨rfl, b1⟩
set_option maxHeartbeats 1000000 in
theorem print_0 (l0 l1 : Int) (w : World) (hs : shp 0 l0 l1 = 0) :
    Calls Tryd.prog 13 #[.int .i64 0, .agg #[.int .i64 l0, .int .i64 l1]] w fun e w' => e = .returned (.tuple #[.string txScalar, .int .i64 0]) ∧ Below w.heap.size w w' := by
  have HS := Lib.hid hs
  clear hs
  go_enter Tryd.func13, Tryd.ntmps13
  go_wp2_with fail
  refine (check_any 0 l0 l1 0 _ HS.out).mono ?_
  rintro e w1 ⟨rfl, hb1⟩
  obtain ⟨X0, b1⟩ := after1 hb1
  have q0 := Bx.lt X0
  clear hb1
  have c0 : ∀ i, w1.cell? ⟨w.heap.size, i, none⟩ = _ := Bx.cell X0
  go_wp2
  refine wp_loop_rounds 1 ?_
  rw [rounds_succ]
  go_wp2
  go_ret2
  exact ⟨rfl, b1⟩
set_option maxHeartbeats 1000000 in
theorem rprint_0 (l0 l1 : Int) (w : World) (hs : shp 0 l0 l1 = 0) :
    Calls Tryd.prog 14 #[.int .i64 0, .agg #[.int .i64 l0, .int .i64 l1]] w fun e w' => e = .returned (.tuple #[.string txScalar, .int .i64 0]) ∧ Below w.heap.size w w' := by
  have HS := Lib.hid hs
  clear hs
  go_enter Tryd.func14, Tryd.ntmps14
  go_wp2_with fail
  refine (rcheck_any 0 l0 l1 0 _ HS.out).mono ?_
  rintro e w1 ⟨rfl, hb1⟩
  obtain ⟨X0, b1⟩ := after1 hb1
  have q0 := Bx.lt X0
  clear hb1
  have c0 : ∀ i, w1.cell? ⟨w.heap.size, i, none⟩ = _ := Bx.cell X0
  go_wp2
  go_ret2
  exact ⟨rfl, b1⟩
set_option maxHeartbeats 1000000 in
theorem print_1 (n : Nat) (l1 : Int) (w : World) (hs : shp 1 n l1 = 0) (hn : n ≤ 400) (hT : Tab w) :
    Calls Tryd.prog 13 #[.int .i64 1, .agg #[.int .i64 (n : Int), .int .i64 l1]] w fun e w' => e = .returned (.tuple #[.string (digs n), .int .i64 0]) ∧ Below w.heap.size w w' := by
  have HS := Lib.hid hs
  have HT := Lib.hid hT
  clear hs hT
  go_enter Tryd.func13, Tryd.ntmps13
  go_wp2_with fail
  refine (check_any 1 n l1 0 _ HS.out).mono ?_
  rintro e w1 ⟨rfl, hb1⟩
  obtain ⟨X0, b1⟩ := after1 hb1
  have q0 := Bx.lt X0
  clear hb1
  have c0 : ∀ i, w1.cell? ⟨w.heap.size, i, none⟩ = _ := Bx.cell X0
  go_wp2
  refine wp_loop_rounds 2 ?_
  rw [rounds_succ]
  go_wp2_with fail
  refine (digits_any n (by omega) _ (HT.out.on b1)).mono ?_
  rintro e w2 ⟨rfl, hb2⟩
  replace X0 := Bx.step X0 hb2
  have b2 := bst b1 hb2
  clear c0 q0 hb2
  have q0 := Bx.lt X0
  have c0 : ∀ i, w2.cell? ⟨w.heap.size, i, none⟩ = _ := Bx.cell X0
  go_wp2
  rw [rounds_succ]
  go_wp2
  go_ret2
  exact ⟨rfl, b2⟩
set_option maxHeartbeats 1000000 in
theorem rprint_1 (n : Nat) (l1 : Int) (w : World) (hs : shp 1 n l1 = 0) (hn : n ≤ 400) :
    Calls Tryd.prog 14 #[.int .i64 1, .agg #[.int .i64 (n : Int), .int .i64 l1]] w fun e w' => e = .returned (.tuple #[.string (digs n), .int .i64 0]) ∧ Below w.heap.size w w' := by
  have HS := Lib.hid hs
  clear hs
  go_enter Tryd.func14, Tryd.ntmps14
  go_wp2_with fail
  refine (rcheck_any 1 n l1 0 _ HS.out).mono ?_
  rintro e w1 ⟨rfl, hb1⟩
  obtain ⟨X0, b1⟩ := after1 hb1
  have q0 := Bx.lt X0
  clear hb1
  have c0 : ∀ i, w1.cell? ⟨w.heap.size, i, none⟩ = _ := Bx.cell X0
  go_wp2_with fail
  refine (rdig_any n (by omega) _).mono ?_
  rintro e w2 ⟨rfl, hb2⟩
  replace X0 := Bx.step X0 hb2
  have b2 := bst b1 hb2
  clear c0 q0 hb2
  have q0 := Bx.lt X0
  have c0 : ∀ i, w2.cell? ⟨w.heap.size, i, none⟩ = _ := Bx.cell X0
  go_wp2
  go_ret2
  exact ⟨rfl, b2⟩
set_option maxHeartbeats 1000000 in
theorem print_2 (n m : Nat) (w : World) (hs : shp 2 n m = 0) (hn : n ≤ 400) (hm : m ≤ 400) (hT : Tab w) :
    Calls Tryd.prog 13 #[.int .i64 2, .agg #[.int .i64 (n : Int), .int .i64 (m : Int)]] w fun e w' => e = .returned (.tuple #[.string (digs n ++ (txCross ++ digs m)), .int .i64 0]) ∧ Below w.heap.size w w' := by
  have HS := Lib.hid hs
  have HT := Lib.hid hT
  clear hs hT
  have a1 : ∀ w : World, (Op.stringOp .add ⟨#[120]⟩ (digs m)).run Tryd.prog w = .ok (.string (txCross ++ digs m)) w := fun w => run_string_add_sum w _ _ (by have := digs_size m; simp only [ByteArray.size]; simp; omega)
  have a2 : ∀ w : World, (Op.stringOp .add (digs n) (txCross ++ digs m)).run Tryd.prog w = .ok (.string (digs n ++ (txCross ++ digs m))) w := fun w => run_string_add_sum w _ _ (by have := digs_size m; have := digs_size n; have : txCross.size = 1 := rfl; rw [ByteArray.size_append]; omega)
  go_enter Tryd.func13, Tryd.ntmps13
  go_wp2_with fail
  refine (check_any 2 n m 0 _ HS.out).mono ?_
  rintro e w1 ⟨rfl, hb1⟩
  obtain ⟨X0, b1⟩ := after1 hb1
  have q0 := Bx.lt X0
  clear hb1
  have c0 : ∀ i, w1.cell? ⟨w.heap.size, i, none⟩ = _ := Bx.cell X0
  go_wp2
  refine wp_loop_rounds 3 ?_
  rw [rounds_succ]
  go_wp2_with fail
  refine (digits_any n (by omega) _ (HT.out.on b1)).mono ?_
  rintro e w2 ⟨rfl, hb2⟩
  replace X0 := Bx.step X0 hb2
  have b2 := bst b1 hb2
  clear c0 q0 hb2
  have q0 := Bx.lt X0
  have c0 : ∀ i, w2.cell? ⟨w.heap.size, i, none⟩ = _ := Bx.cell X0
  go_wp2
  rw [rounds_succ]
  go_wp2_with fail
  refine (digits_any m (by omega) _ (HT.out.on b2)).mono ?_
  rintro e w3 ⟨rfl, hb2⟩
  replace X0 := Bx.step X0 hb2
  have b3 := bst b2 hb2
  clear c0 q0 hb2
  have q0 := Bx.lt X0
  have c0 : ∀ i, w3.cell? ⟨w.heap.size, i, none⟩ = _ := Bx.cell X0
  go_wp2
  rw [rounds_succ]
  go_wp2
  go_ret2
  exact ⟨rfl, b3⟩
set_option maxHeartbeats 1000000 in
theorem rprint_2 (n m : Nat) (w : World) (hs : shp 2 n m = 0) (hn : n ≤ 400) (hm : m ≤ 400) :
    Calls Tryd.prog 14 #[.int .i64 2, .agg #[.int .i64 (n : Int), .int .i64 (m : Int)]] w fun e w' => e = .returned (.tuple #[.string (digs n ++ (txCross ++ digs m)), .int .i64 0]) ∧ Below w.heap.size w w' := by
  have HS := Lib.hid hs
  clear hs
  have a1 : ∀ w : World, (Op.stringOp .add (digs n) ⟨#[120]⟩).run Tryd.prog w = .ok (.string (digs n ++ txCross)) w := fun w => run_string_add_sum w _ _ (by have := digs_size n; simp only [ByteArray.size]; simp; omega)
  have a2 : ∀ w : World, (Op.stringOp .add (digs n ++ txCross) (digs m)).run Tryd.prog w = .ok (.string (digs n ++ (txCross ++ digs m))) w := fun w => by
    rw [run_string_add_sum w _ _ (by have := digs_size m; have := digs_size n; have : txCross.size = 1 := rfl; rw [ByteArray.size_append]; omega), ByteArray.append_assoc]
  go_enter Tryd.func14, Tryd.ntmps14
  go_wp2_with fail
  refine (rcheck_any 2 n m 0 _ HS.out).mono ?_
  rintro e w1 ⟨rfl, hb1⟩
  obtain ⟨X0, b1⟩ := after1 hb1
  have q0 := Bx.lt X0
  clear hb1
  have c0 : ∀ i, w1.cell? ⟨w.heap.size, i, none⟩ = _ := Bx.cell X0
  go_wp2_with fail
  refine (rdig_any n (by omega) _).mono ?_
  rintro e w2 ⟨rfl, hb2⟩
  replace X0 := Bx.step X0 hb2
  have b2 := bst b1 hb2
  clear c0 q0 hb2
  have q0 := Bx.lt X0
  have c0 : ∀ i, w2.cell? ⟨w.heap.size, i, none⟩ = _ := Bx.cell X0
  go_wp2_with fail
  refine (rdig_any m (by omega) _).mono ?_
  rintro e w3 ⟨rfl, hb2⟩
  replace X0 := Bx.step X0 hb2
  have b3 := bst b2 hb2
  clear c0 q0 hb2
  have q0 := Bx.lt X0
  have c0 : ∀ i, w3.cell? ⟨w.heap.size, i, none⟩ = _ := Bx.cell X0
  go_wp2
  go_ret2
  exact ⟨rfl, b3⟩
theorem print_any (r l0 l1 : Int) (s : ByteArray) (ec : Int) (w : World) (hT : Tab w) (h : sPrint r l0 l1 = (s, ec)) :
    Calls Tryd.prog 13 #[.int .i64 r, .agg #[.int .i64 l0, .int .i64 l1]] w fun e w' => e = .returned (.tuple #[.string s, .int .i64 ec]) ∧ Below w.heap.size w w' := by
  unfold sPrint at h
  split at h
  · rename_i hs
    simp only [Prod.mk.injEq] at h
    obtain ⟨rfl, rfl⟩ := h
    exact print_err r l0 l1 _ w rfl hs
  rename_i hs
  have hs := Decidable.not_not.1 hs
  rcases shp_ok hs with ⟨rfl, h1, h2⟩ | ⟨rfl, h1, h2, h3⟩ | ⟨rfl, h1, h2, h3, h4, h5⟩
  · rw [if_pos rfl] at h
    simp only [Prod.mk.injEq] at h
    obtain ⟨rfl, rfl⟩ := h
    exact print_0 l0 l1 w hs
  · rw [if_neg (by decide), if_pos rfl] at h
    simp only [Prod.mk.injEq] at h
    obtain ⟨rfl, rfl⟩ := h
    obtain ⟨n, rfl⟩ : ∃ n : Nat, l0 = n := ⟨l0.toNat, by omega⟩
    exact print_1 n l1 w hs (by omega) hT
  · rw [if_neg (by decide), if_neg (by decide)] at h
    simp only [Prod.mk.injEq] at h
    obtain ⟨rfl, rfl⟩ := h
    obtain ⟨n, rfl⟩ : ∃ n : Nat, l0 = n := ⟨l0.toNat, by omega⟩
    obtain ⟨m, rfl⟩ : ∃ m : Nat, l1 = m := ⟨l1.toNat, by omega⟩
    exact print_2 n m w hs (by omega) (by omega) hT
theorem rprint_any (r l0 l1 : Int) (s : ByteArray) (ec : Int) (w : World)  (h : sPrint r l0 l1 = (s, ec)) :
    Calls Tryd.prog 14 #[.int .i64 r, .agg #[.int .i64 l0, .int .i64 l1]] w fun e w' => e = .returned (.tuple #[.string s, .int .i64 ec]) ∧ Below w.heap.size w w' := by
  unfold sPrint at h
  split at h
  · rename_i hs
    simp only [Prod.mk.injEq] at h
    obtain ⟨rfl, rfl⟩ := h
    exact rprint_err r l0 l1 _ w rfl hs
  rename_i hs
  have hs := Decidable.not_not.1 hs
  rcases shp_ok hs with ⟨rfl, h1, h2⟩ | ⟨rfl, h1, h2, h3⟩ | ⟨rfl, h1, h2, h3, h4, h5⟩
  · rw [if_pos rfl] at h
    simp only [Prod.mk.injEq] at h
    obtain ⟨rfl, rfl⟩ := h
    exact rprint_0 l0 l1 w hs
  · rw [if_neg (by decide), if_pos rfl] at h
    simp only [Prod.mk.injEq] at h
    obtain ⟨rfl, rfl⟩ := h
    obtain ⟨n, rfl⟩ : ∃ n : Nat, l0 = n := ⟨l0.toNat, by omega⟩
    exact rprint_1 n l1 w hs (by omega)
  · rw [if_neg (by decide), if_neg (by decide)] at h
    simp only [Prod.mk.injEq] at h
    obtain ⟨rfl, rfl⟩ := h
    obtain ⟨n, rfl⟩ : ∃ n : Nat, l0 = n := ⟨l0.toNat, by omega⟩
    obtain ⟨m, rfl⟩ : ∃ m : Nat, l1 = m := ⟨l1.toNat, by omega⟩
    exact rprint_2 n m w hs (by omega) (by omega)
end Go.Proofs.YteegipfgbcnfkaaDoor

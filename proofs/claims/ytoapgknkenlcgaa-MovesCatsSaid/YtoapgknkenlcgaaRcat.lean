/-
  The reference's Cat.
-/
import Derived.Test.YtoapgknkenlcgaaMjoin
import Derived.Test.YtoapgknkenlcgaaRflip
namespace Go.Proofs.Ytoapgknkenlcgaa
open Go.RowKit

set_option maxHeartbeats 8000000 in
theorem rCat_early (k r l0 l1 : Int) (A : Option Addr) (n c : Nat) (xs : List Int) (k' r' l0' l1' : Int) (A' : Option Addr) (n' c' : Nat) (ys : List Int) (e1 e2 : Int) (R : Arr × Int) (w : World)
    (hs : Sl w A n c xs) (hs' : Sl w A' n' c' ys) (h1 : achk k r l0 l1 xs = e1) (h2 : achk k' r' l0' l1' ys = e2)
    (h : (e1 ≠ 0 ∧ R = (zA, e1)) ∨ (e1 = 0 ∧ e2 ≠ 0 ∧ R = (zA, e2)) ∨ (e1 = 0 ∧ e2 = 0 ∧ k ≠ k' ∧ R = (zA, 21)) ∨ (e1 = 0 ∧ e2 = 0 ∧ k = k' ∧ (r ≠ r' ∨ r = 0) ∧ R = (zA, 22)) ∨
      (e1 = 0 ∧ e2 = 0 ∧ k = k' ∧ r = r' ∧ r = 2 ∧ l0 ≠ l0' ∧ R = (zA, 11))) :
    Calls Try.prog 23 #[.agg #[.int .i64 k, .int .i64 r, .int .i64 l0, .int .i64 l1, .slice A n c], .agg #[.int .i64 k', .int .i64 r', .int .i64 l0', .int .i64 l1', .slice A' n' c']] w (RetA w R) := by
  have HS := Lib.hid hs
  have HS' := Lib.hid hs'
  have H1 := Lib.hid h1
  have H2 := Lib.hid h2
  clear hs hs' h1 h2
  rcases h with ⟨he, hR⟩ | ⟨rfl, he, hR⟩ | ⟨rfl, rfl, hk, hR⟩ | ⟨rfl, rfl, rfl, hr, hR⟩ | ⟨rfl, rfl, rfl, rfl, rfl, hl, hR⟩
  · have hne : (e1 != 0) = true := by simpa using he
    have hne' : (e1 == 0) = false := by simpa using he
    have HR := Lib.hid hR.symm
    clear he hR
    go_enter Try.func23, Try.ntmps23
    go_wp2_with fail
    refine (racheck_any _ _ _ _ _ _ _ xs _ _ (HS.out.step (below3 _ _ _ _)) H1.out).mono ?_
    rintro e w1 ⟨rfl, hb1⟩
    obtain ⟨X0, X1, X2, b1⟩ := after3 hb1
    clear hb1
    have q2 := Bx.lt X2
    have c0 : ∀ i, w1.cell? ⟨w.heap.size, i, none⟩ = _ := Bx.cell X0
    have c1 : ∀ i, w1.cell? ⟨w.heap.size + 1, i, none⟩ = _ := Bx.cell X1
    have c2 : ∀ i, w1.cell? ⟨w.heap.size + 1 + 1, i, none⟩ = _ := Bx.cell X2
    have f2 : ∀ i, w1.frozen? ⟨w.heap.size + 1 + 1, i, none⟩ = false := Bx.frozen X2
    go_wp2
    refine retAE (B := w.heap.size + 1 + 1) rfl rfl rfl rfl (Bx.set5 X2 _ _ _ _ _) ?_
    exact RetA.mk HR.out.symm (Sl.nil _) (fun _ _ _ h => by cases h) (below_set5 b1 (by omega) _ _ _ _ _)
  · have hne : (e2 != 0) = true := by simpa using he
    have hne' : (e2 == 0) = false := by simpa using he
    have HR := Lib.hid hR.symm
    clear he hR
    go_enter Try.func23, Try.ntmps23
    go_wp2_with fail
    refine (racheck_any _ _ _ _ _ _ _ xs _ _ (HS.out.step (below3 _ _ _ _)) H1.out).mono ?_
    rintro e w1 ⟨rfl, hb1⟩
    obtain ⟨X0, X1, X2, b1⟩ := after3 hb1
    clear hb1
    have q2 := Bx.lt X2
    have c0 : ∀ i, w1.cell? ⟨w.heap.size, i, none⟩ = _ := Bx.cell X0
    have c1 : ∀ i, w1.cell? ⟨w.heap.size + 1, i, none⟩ = _ := Bx.cell X1
    have c2 : ∀ i, w1.cell? ⟨w.heap.size + 1 + 1, i, none⟩ = _ := Bx.cell X2
    have f2 : ∀ i, w1.frozen? ⟨w.heap.size + 1 + 1, i, none⟩ = false := Bx.frozen X2
    go_wp2_with fail
    refine (racheck_any _ _ _ _ _ _ _ ys _ _ (HS'.out.step b1) H2.out).mono ?_
    rintro e w2 ⟨rfl, hb2⟩
    have Y0 := Bx.step X0 hb2
    have Y1 := Bx.step X1 hb2
    have Y2 := Bx.step X2 hb2
    have b2 := bst b1 hb2
    have hs2 := hb2.size
    clear c0 c1 c2 f2 X0 X1 X2 b1 hb2
    have c0 : ∀ i, w2.cell? ⟨w.heap.size, i, none⟩ = _ := Bx.cell Y0
    have c1 : ∀ i, w2.cell? ⟨w.heap.size + 1, i, none⟩ = _ := Bx.cell Y1
    have c2 : ∀ i, w2.cell? ⟨w.heap.size + 1 + 1, i, none⟩ = _ := Bx.cell Y2
    have f2 : ∀ i, w2.frozen? ⟨w.heap.size + 1 + 1, i, none⟩ = false := Bx.frozen Y2
    go_wp2
    refine retAE (B := w.heap.size + 1 + 1) rfl rfl rfl rfl (Bx.set5 Y2 _ _ _ _ _) ?_
    exact RetA.mk HR.out.symm (Sl.nil _) (fun _ _ _ h => by cases h) (below_set5 b2 (by omega) _ _ _ _ _)
  · have hne : (k != k') = true := by simpa using hk
    have HR := Lib.hid hR.symm
    clear hk hR
    go_enter Try.func23, Try.ntmps23
    go_wp2_with fail
    refine (racheck_any _ _ _ _ _ _ _ xs _ _ (HS.out.step (below3 _ _ _ _)) H1.out).mono ?_
    rintro e w1 ⟨rfl, hb1⟩
    obtain ⟨X0, X1, X2, b1⟩ := after3 hb1
    clear hb1
    have q2 := Bx.lt X2
    have c0 : ∀ i, w1.cell? ⟨w.heap.size, i, none⟩ = _ := Bx.cell X0
    have c1 : ∀ i, w1.cell? ⟨w.heap.size + 1, i, none⟩ = _ := Bx.cell X1
    have c2 : ∀ i, w1.cell? ⟨w.heap.size + 1 + 1, i, none⟩ = _ := Bx.cell X2
    have f2 : ∀ i, w1.frozen? ⟨w.heap.size + 1 + 1, i, none⟩ = false := Bx.frozen X2
    go_wp2_with fail
    refine (racheck_any _ _ _ _ _ _ _ ys _ _ (HS'.out.step b1) H2.out).mono ?_
    rintro e w2 ⟨rfl, hb2⟩
    have Y0 := Bx.step X0 hb2
    have Y1 := Bx.step X1 hb2
    have Y2 := Bx.step X2 hb2
    have b2 := bst b1 hb2
    have hs2 := hb2.size
    clear c0 c1 c2 f2 X0 X1 X2 b1 hb2
    have c0 : ∀ i, w2.cell? ⟨w.heap.size, i, none⟩ = _ := Bx.cell Y0
    have c1 : ∀ i, w2.cell? ⟨w.heap.size + 1, i, none⟩ = _ := Bx.cell Y1
    have c2 : ∀ i, w2.cell? ⟨w.heap.size + 1 + 1, i, none⟩ = _ := Bx.cell Y2
    have f2 : ∀ i, w2.frozen? ⟨w.heap.size + 1 + 1, i, none⟩ = false := Bx.frozen Y2
    go_wp2
    refine retAE (B := w.heap.size + 1 + 1) rfl rfl rfl rfl (Bx.set5 Y2 _ _ _ _ _) ?_
    exact RetA.mk HR.out.symm (Sl.nil _) (fun _ _ _ h => by cases h) (below_set5 b2 (by omega) _ _ _ _ _)
  · have HR := Lib.hid hR.symm
    clear hR
    by_cases hr1 : r = r'
    · subst hr1
      obtain rfl : r = 0 := hr.resolve_left (fun h => h rfl)
      clear hr
      go_enter Try.func23, Try.ntmps23
      go_wp2_with fail
      refine (racheck_any _ _ _ _ _ _ _ xs _ _ (HS.out.step (below3 _ _ _ _)) H1.out).mono ?_
      rintro e w1 ⟨rfl, hb1⟩
      obtain ⟨X0, X1, X2, b1⟩ := after3 hb1
      clear hb1
      have q2 := Bx.lt X2
      have c0 : ∀ i, w1.cell? ⟨w.heap.size, i, none⟩ = _ := Bx.cell X0
      have c1 : ∀ i, w1.cell? ⟨w.heap.size + 1, i, none⟩ = _ := Bx.cell X1
      have c2 : ∀ i, w1.cell? ⟨w.heap.size + 1 + 1, i, none⟩ = _ := Bx.cell X2
      have f2 : ∀ i, w1.frozen? ⟨w.heap.size + 1 + 1, i, none⟩ = false := Bx.frozen X2
      go_wp2_with fail
      refine (racheck_any _ _ _ _ _ _ _ ys _ _ (HS'.out.step b1) H2.out).mono ?_
      rintro e w2 ⟨rfl, hb2⟩
      have Y0 := Bx.step X0 hb2
      have Y1 := Bx.step X1 hb2
      have Y2 := Bx.step X2 hb2
      have b2 := bst b1 hb2
      have hs2 := hb2.size
      clear c0 c1 c2 f2 X0 X1 X2 b1 hb2
      have c0 : ∀ i, w2.cell? ⟨w.heap.size, i, none⟩ = _ := Bx.cell Y0
      have c1 : ∀ i, w2.cell? ⟨w.heap.size + 1, i, none⟩ = _ := Bx.cell Y1
      have c2 : ∀ i, w2.cell? ⟨w.heap.size + 1 + 1, i, none⟩ = _ := Bx.cell Y2
      have f2 : ∀ i, w2.frozen? ⟨w.heap.size + 1 + 1, i, none⟩ = false := Bx.frozen Y2
      go_wp2
      refine retAE (B := w.heap.size + 1 + 1) rfl rfl rfl rfl (Bx.set5 Y2 _ _ _ _ _) ?_
      exact RetA.mk HR.out.symm (Sl.nil _) (fun _ _ _ h => by cases h) (below_set5 b2 (by omega) _ _ _ _ _)
    · have hne : (r != r') = true := by simpa using hr1
      clear hr hr1
      go_enter Try.func23, Try.ntmps23
      go_wp2_with fail
      refine (racheck_any _ _ _ _ _ _ _ xs _ _ (HS.out.step (below3 _ _ _ _)) H1.out).mono ?_
      rintro e w1 ⟨rfl, hb1⟩
      obtain ⟨X0, X1, X2, b1⟩ := after3 hb1
      clear hb1
      have q2 := Bx.lt X2
      have c0 : ∀ i, w1.cell? ⟨w.heap.size, i, none⟩ = _ := Bx.cell X0
      have c1 : ∀ i, w1.cell? ⟨w.heap.size + 1, i, none⟩ = _ := Bx.cell X1
      have c2 : ∀ i, w1.cell? ⟨w.heap.size + 1 + 1, i, none⟩ = _ := Bx.cell X2
      have f2 : ∀ i, w1.frozen? ⟨w.heap.size + 1 + 1, i, none⟩ = false := Bx.frozen X2
      go_wp2_with fail
      refine (racheck_any _ _ _ _ _ _ _ ys _ _ (HS'.out.step b1) H2.out).mono ?_
      rintro e w2 ⟨rfl, hb2⟩
      have Y0 := Bx.step X0 hb2
      have Y1 := Bx.step X1 hb2
      have Y2 := Bx.step X2 hb2
      have b2 := bst b1 hb2
      have hs2 := hb2.size
      clear c0 c1 c2 f2 X0 X1 X2 b1 hb2
      have c0 : ∀ i, w2.cell? ⟨w.heap.size, i, none⟩ = _ := Bx.cell Y0
      have c1 : ∀ i, w2.cell? ⟨w.heap.size + 1, i, none⟩ = _ := Bx.cell Y1
      have c2 : ∀ i, w2.cell? ⟨w.heap.size + 1 + 1, i, none⟩ = _ := Bx.cell Y2
      have f2 : ∀ i, w2.frozen? ⟨w.heap.size + 1 + 1, i, none⟩ = false := Bx.frozen Y2
      go_wp2
      refine retAE (B := w.heap.size + 1 + 1) rfl rfl rfl rfl (Bx.set5 Y2 _ _ _ _ _) ?_
      exact RetA.mk HR.out.symm (Sl.nil _) (fun _ _ _ h => by cases h) (below_set5 b2 (by omega) _ _ _ _ _)
  · have hne : (l0 != l0') = true := by simpa using hl
    have HR := Lib.hid hR.symm
    clear hl hR
    go_enter Try.func23, Try.ntmps23
    go_wp2_with fail
    refine (racheck_any _ _ _ _ _ _ _ xs _ _ (HS.out.step (below3 _ _ _ _)) H1.out).mono ?_
    rintro e w1 ⟨rfl, hb1⟩
    obtain ⟨X0, X1, X2, b1⟩ := after3 hb1
    clear hb1
    have q2 := Bx.lt X2
    have c0 : ∀ i, w1.cell? ⟨w.heap.size, i, none⟩ = _ := Bx.cell X0
    have c1 : ∀ i, w1.cell? ⟨w.heap.size + 1, i, none⟩ = _ := Bx.cell X1
    have c2 : ∀ i, w1.cell? ⟨w.heap.size + 1 + 1, i, none⟩ = _ := Bx.cell X2
    have f2 : ∀ i, w1.frozen? ⟨w.heap.size + 1 + 1, i, none⟩ = false := Bx.frozen X2
    go_wp2_with fail
    refine (racheck_any _ _ _ _ _ _ _ ys _ _ (HS'.out.step b1) H2.out).mono ?_
    rintro e w2 ⟨rfl, hb2⟩
    have Y0 := Bx.step X0 hb2
    have Y1 := Bx.step X1 hb2
    have Y2 := Bx.step X2 hb2
    have b2 := bst b1 hb2
    have hs2 := hb2.size
    clear c0 c1 c2 f2 X0 X1 X2 b1 hb2
    have c0 : ∀ i, w2.cell? ⟨w.heap.size, i, none⟩ = _ := Bx.cell Y0
    have c1 : ∀ i, w2.cell? ⟨w.heap.size + 1, i, none⟩ = _ := Bx.cell Y1
    have c2 : ∀ i, w2.cell? ⟨w.heap.size + 1 + 1, i, none⟩ = _ := Bx.cell Y2
    have f2 : ∀ i, w2.frozen? ⟨w.heap.size + 1 + 1, i, none⟩ = false := Bx.frozen Y2
    go_wp2
    refine retAE (B := w.heap.size + 1 + 1) rfl rfl rfl rfl (Bx.set5 Y2 _ _ _ _ _) ?_
    exact RetA.mk HR.out.symm (Sl.nil _) (fun _ _ _ h => by cases h) (below_set5 b2 (by omega) _ _ _ _ _)

set_option maxHeartbeats 8000000 in
theorem rCat_big (k r l0 l1 : Int) (A : Option Addr) (n c : Nat) (xs : List Int) (l0' l1' : Int) (A' : Option Addr) (n' c' : Nat) (ys : List Int) (R : Arr × Int) (w : World)
    (hs : Sl w A n c xs) (hs' : Sl w A' n' c' ys) (h1 : achk k r l0 l1 xs = 0) (h2 : achk k r l0' l1' ys = 0) (hr : (r == 0) = false)
    (hrl : (r == 2) = false ∨ ((r == 2) = true ∧ l0 = l0')) (hn : n ≤ 1000) (hn' : n' ≤ 1000) (hl1 : 0 ≤ l1 ∧ l1 ≤ 400) (hl1' : 0 ≤ l1' ∧ l1' ≤ 400)
    (hbig : 400 < n + n' ∨ (n + n' ≤ 400 ∧ 400 < l1 + l1')) (h : R = (zA, 15)) :
    Calls Try.prog 23 #[.agg #[.int .i64 k, .int .i64 r, .int .i64 l0, .int .i64 l1, .slice A n c], .agg #[.int .i64 k, .int .i64 r, .int .i64 l0', .int .i64 l1', .slice A' n' c']] w (RetA w R) := by
  have HS := Lib.hid hs
  have HS' := Lib.hid hs'
  have H1 := Lib.hid h1
  have H2 := Lib.hid h2
  have HR := Lib.hid h.symm
  have e1 : IntKind.i64.wrap ((n : Int) + (n' : Int)) = (n : Int) + (n' : Int) := IntWalk.i64_in _ (by omega)
  have e2 : IntKind.i64.wrap (l1 + l1') = l1 + l1' := IntWalk.i64_in _ (by omega)
  clear hs hs' h1 h2 h
  rcases hrl with hrl | ⟨hrl, rfl⟩
  · rcases hbig with hbig | ⟨hsm, hbig⟩
    · have hd : decide ((400 : Int) < (n : Int) + (n' : Int)) = true := decide_eq_true (by omega)
      go_enter Try.func23, Try.ntmps23
      go_wp2_with fail
      refine (racheck_any _ _ _ _ _ _ _ xs _ _ (HS.out.step (below3 _ _ _ _)) H1.out).mono ?_
      rintro e w1 ⟨rfl, hb1⟩
      obtain ⟨X0, X1, X2, b1⟩ := after3 hb1
      clear hb1
      have q2 := Bx.lt X2
      have c0 : ∀ i, w1.cell? ⟨w.heap.size, i, none⟩ = _ := Bx.cell X0
      have c1 : ∀ i, w1.cell? ⟨w.heap.size + 1, i, none⟩ = _ := Bx.cell X1
      have c2 : ∀ i, w1.cell? ⟨w.heap.size + 1 + 1, i, none⟩ = _ := Bx.cell X2
      have f2 : ∀ i, w1.frozen? ⟨w.heap.size + 1 + 1, i, none⟩ = false := Bx.frozen X2
      go_wp2_with fail
      refine (racheck_any _ _ _ _ _ _ _ ys _ _ (HS'.out.step b1) H2.out).mono ?_
      rintro e w2 ⟨rfl, hb2⟩
      have Y0 := Bx.step X0 hb2
      have Y1 := Bx.step X1 hb2
      have Y2 := Bx.step X2 hb2
      have b2 := bst b1 hb2
      have hs2 := hb2.size
      clear c0 c1 c2 f2 X0 X1 X2 b1 hb2
      have c0 : ∀ i, w2.cell? ⟨w.heap.size, i, none⟩ = _ := Bx.cell Y0
      have c1 : ∀ i, w2.cell? ⟨w.heap.size + 1, i, none⟩ = _ := Bx.cell Y1
      have c2 : ∀ i, w2.cell? ⟨w.heap.size + 1 + 1, i, none⟩ = _ := Bx.cell Y2
      have f2 : ∀ i, w2.frozen? ⟨w.heap.size + 1 + 1, i, none⟩ = false := Bx.frozen Y2
      go_wp2
      refine retAE (B := w.heap.size + 1 + 1) rfl rfl rfl rfl (Bx.set5 Y2 _ _ _ _ _) ?_
      exact RetA.mk HR.out.symm (Sl.nil _) (fun _ _ _ h => by cases h) (below_set5 b2 (by omega) _ _ _ _ _)
    · have hd : decide ((400 : Int) < (n : Int) + (n' : Int)) = false := decide_eq_false (by omega)
      have hd2 : decide ((400 : Int) < l1 + l1') = true := decide_eq_true (by omega)
      go_enter Try.func23, Try.ntmps23
      go_wp2_with fail
      refine (racheck_any _ _ _ _ _ _ _ xs _ _ (HS.out.step (below3 _ _ _ _)) H1.out).mono ?_
      rintro e w1 ⟨rfl, hb1⟩
      obtain ⟨X0, X1, X2, b1⟩ := after3 hb1
      clear hb1
      have q2 := Bx.lt X2
      have c0 : ∀ i, w1.cell? ⟨w.heap.size, i, none⟩ = _ := Bx.cell X0
      have c1 : ∀ i, w1.cell? ⟨w.heap.size + 1, i, none⟩ = _ := Bx.cell X1
      have c2 : ∀ i, w1.cell? ⟨w.heap.size + 1 + 1, i, none⟩ = _ := Bx.cell X2
      have f2 : ∀ i, w1.frozen? ⟨w.heap.size + 1 + 1, i, none⟩ = false := Bx.frozen X2
      go_wp2_with fail
      refine (racheck_any _ _ _ _ _ _ _ ys _ _ (HS'.out.step b1) H2.out).mono ?_
      rintro e w2 ⟨rfl, hb2⟩
      have Y0 := Bx.step X0 hb2
      have Y1 := Bx.step X1 hb2
      have Y2 := Bx.step X2 hb2
      have b2 := bst b1 hb2
      have hs2 := hb2.size
      clear c0 c1 c2 f2 X0 X1 X2 b1 hb2
      have c0 : ∀ i, w2.cell? ⟨w.heap.size, i, none⟩ = _ := Bx.cell Y0
      have c1 : ∀ i, w2.cell? ⟨w.heap.size + 1, i, none⟩ = _ := Bx.cell Y1
      have c2 : ∀ i, w2.cell? ⟨w.heap.size + 1 + 1, i, none⟩ = _ := Bx.cell Y2
      have f2 : ∀ i, w2.frozen? ⟨w.heap.size + 1 + 1, i, none⟩ = false := Bx.frozen Y2
      go_wp2
      refine retAE (B := w.heap.size + 1 + 1) rfl rfl rfl rfl (Bx.set5 Y2 _ _ _ _ _) ?_
      exact RetA.mk HR.out.symm (Sl.nil _) (fun _ _ _ h => by cases h) (below_set5 b2 (by omega) _ _ _ _ _)
  · rcases hbig with hbig | ⟨hsm, hbig⟩
    · have hd : decide ((400 : Int) < (n : Int) + (n' : Int)) = true := decide_eq_true (by omega)
      go_enter Try.func23, Try.ntmps23
      go_wp2_with fail
      refine (racheck_any _ _ _ _ _ _ _ xs _ _ (HS.out.step (below3 _ _ _ _)) H1.out).mono ?_
      rintro e w1 ⟨rfl, hb1⟩
      obtain ⟨X0, X1, X2, b1⟩ := after3 hb1
      clear hb1
      have q2 := Bx.lt X2
      have c0 : ∀ i, w1.cell? ⟨w.heap.size, i, none⟩ = _ := Bx.cell X0
      have c1 : ∀ i, w1.cell? ⟨w.heap.size + 1, i, none⟩ = _ := Bx.cell X1
      have c2 : ∀ i, w1.cell? ⟨w.heap.size + 1 + 1, i, none⟩ = _ := Bx.cell X2
      have f2 : ∀ i, w1.frozen? ⟨w.heap.size + 1 + 1, i, none⟩ = false := Bx.frozen X2
      go_wp2_with fail
      refine (racheck_any _ _ _ _ _ _ _ ys _ _ (HS'.out.step b1) H2.out).mono ?_
      rintro e w2 ⟨rfl, hb2⟩
      have Y0 := Bx.step X0 hb2
      have Y1 := Bx.step X1 hb2
      have Y2 := Bx.step X2 hb2
      have b2 := bst b1 hb2
      have hs2 := hb2.size
      clear c0 c1 c2 f2 X0 X1 X2 b1 hb2
      have c0 : ∀ i, w2.cell? ⟨w.heap.size, i, none⟩ = _ := Bx.cell Y0
      have c1 : ∀ i, w2.cell? ⟨w.heap.size + 1, i, none⟩ = _ := Bx.cell Y1
      have c2 : ∀ i, w2.cell? ⟨w.heap.size + 1 + 1, i, none⟩ = _ := Bx.cell Y2
      have f2 : ∀ i, w2.frozen? ⟨w.heap.size + 1 + 1, i, none⟩ = false := Bx.frozen Y2
      go_wp2
      refine retAE (B := w.heap.size + 1 + 1) rfl rfl rfl rfl (Bx.set5 Y2 _ _ _ _ _) ?_
      exact RetA.mk HR.out.symm (Sl.nil _) (fun _ _ _ h => by cases h) (below_set5 b2 (by omega) _ _ _ _ _)
    · have hd : decide ((400 : Int) < (n : Int) + (n' : Int)) = false := decide_eq_false (by omega)
      have hd2 : decide ((400 : Int) < l1 + l1') = true := decide_eq_true (by omega)
      go_enter Try.func23, Try.ntmps23
      go_wp2_with fail
      refine (racheck_any _ _ _ _ _ _ _ xs _ _ (HS.out.step (below3 _ _ _ _)) H1.out).mono ?_
      rintro e w1 ⟨rfl, hb1⟩
      obtain ⟨X0, X1, X2, b1⟩ := after3 hb1
      clear hb1
      have q2 := Bx.lt X2
      have c0 : ∀ i, w1.cell? ⟨w.heap.size, i, none⟩ = _ := Bx.cell X0
      have c1 : ∀ i, w1.cell? ⟨w.heap.size + 1, i, none⟩ = _ := Bx.cell X1
      have c2 : ∀ i, w1.cell? ⟨w.heap.size + 1 + 1, i, none⟩ = _ := Bx.cell X2
      have f2 : ∀ i, w1.frozen? ⟨w.heap.size + 1 + 1, i, none⟩ = false := Bx.frozen X2
      go_wp2_with fail
      refine (racheck_any _ _ _ _ _ _ _ ys _ _ (HS'.out.step b1) H2.out).mono ?_
      rintro e w2 ⟨rfl, hb2⟩
      have Y0 := Bx.step X0 hb2
      have Y1 := Bx.step X1 hb2
      have Y2 := Bx.step X2 hb2
      have b2 := bst b1 hb2
      have hs2 := hb2.size
      clear c0 c1 c2 f2 X0 X1 X2 b1 hb2
      have c0 : ∀ i, w2.cell? ⟨w.heap.size, i, none⟩ = _ := Bx.cell Y0
      have c1 : ∀ i, w2.cell? ⟨w.heap.size + 1, i, none⟩ = _ := Bx.cell Y1
      have c2 : ∀ i, w2.cell? ⟨w.heap.size + 1 + 1, i, none⟩ = _ := Bx.cell Y2
      have f2 : ∀ i, w2.frozen? ⟨w.heap.size + 1 + 1, i, none⟩ = false := Bx.frozen Y2
      go_wp2
      refine retAE (B := w.heap.size + 1 + 1) rfl rfl rfl rfl (Bx.set5 Y2 _ _ _ _ _) ?_
      exact RetA.mk HR.out.symm (Sl.nil _) (fun _ _ _ h => by cases h) (below_set5 b2 (by omega) _ _ _ _ _)
end Go.Proofs.Ytoapgknkenlcgaa

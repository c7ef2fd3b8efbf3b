/-
  moves.Take, moves.Drop.
-/
import Derived.Test.YtoapgknkenlcgaaMcut
import Derived.Test.YtoapgknkenlcgaaRet
namespace Go.Proofs.Ytoapgknkenlcgaa
open Go.RowKit

set_option maxHeartbeats 1000000 in
theorem cut_err (k r l0 l1 : Int) (A : Option Addr) (n c : Nat) (xs : List Int) (k' r' l0' l1' : Int) (A' : Option Addr) (n' c' : Nat) (ys : List Int) (ec : Int) (w : World)
    (hs : Sl w A n c xs) (hs' : Sl w A' n' c' ys) (h : twoE ⟨k, r, l0, l1, xs⟩ ⟨k', r', l0', l1', ys⟩ 0 1 = ec) (hne : ec ≠ 0) :
    Calls Try.prog 39 #[.agg #[.int .i64 k, .int .i64 r, .int .i64 l0, .int .i64 l1, .slice A n c], .agg #[.int .i64 k', .int .i64 r', .int .i64 l0', .int .i64 l1', .slice A' n' c']] w fun e w' => e = .returned (.tuple #[.agg #[.int .i64 0, .int .i64 0, .int .i64 0, .int .i64 0, .slice none 0 0], .agg #[.int .i64 0, .int .i64 0, .int .i64 0, .int .i64 0, .slice none 0 0], .int .i64 ec]) ∧ Below w.heap.size w w' := by
  have H := Lib.hid h
  have HS := Lib.hid hs
  have HS' := Lib.hid hs'
  have hne' : (ec != 0) = true := by simpa using hne
  clear h hs hs' hne
  go_enter Try.func39, Try.ntmps39
  go_wp2_with fail
  refine (two_any _ _ _ _ _ _ _ xs _ _ _ _ _ _ _ ys _ _ _ _ (HS.out.step (below4 _ _ _ _ _)) (HS'.out.step (below4 _ _ _ _ _)) H.out).mono ?_
  rintro e w1 ⟨rfl, hb1⟩
  obtain ⟨X0, X1, X2, X3, b1⟩ := after4 hb1
  clear hb1
  have c2 : ∀ i, w1.cell? ⟨w.heap.size + 1 + 1, i, none⟩ = _ := Bx.cell X2
  have c3 : ∀ i, w1.cell? ⟨w.heap.size + 1 + 1 + 1, i, none⟩ = _ := Bx.cell X3
  have f2 : ∀ i, w1.frozen? ⟨w.heap.size + 1 + 1, i, none⟩ = false := Bx.frozen X2
  have f3 : ∀ i, w1.frozen? ⟨w.heap.size + 1 + 1 + 1, i, none⟩ = false := Bx.frozen X3
  go_wp2
  refine bodyPost_ret (v := .tuple #[.agg #[.int .i64 0, .int .i64 0, .int .i64 0, .int .i64 0, .slice none 0 0], .agg #[.int .i64 0, .int .i64 0, .int .i64 0, .int .i64 0, .slice none 0 0], .int .i64 ec]) (by simp [results, Try.results39, go_sem, c2, c3]) rfl ?_
  exact ⟨rfl, below_set5 (below_set5 b1 (by omega) _ _ _ _ _) (by omega) _ _ _ _ _⟩

set_option maxHeartbeats 1000000 in
theorem mTake_any (k r l0 l1 : Int) (A : Option Addr) (n c : Nat) (xs : List Int) (k' r' l0' l1' : Int) (A' : Option Addr) (n' c' : Nat) (ys : List Int) (R : Arr × Int) (w : World)
    (hs : Sl w A n c xs) (hs' : Sl w A' n' c' ys) (hwf : ∀ x ∈ xs, -9223372036854775808 ≤ x ∧ x ≤ 9223372036854775807) (h : sTake ⟨k, r, l0, l1, xs⟩ ⟨k', r', l0', l1', ys⟩ = R) :
    Calls Try.prog 13 #[.agg #[.int .i64 k, .int .i64 r, .int .i64 l0, .int .i64 l1, .slice A n c], .agg #[.int .i64 k', .int .i64 r', .int .i64 l0', .int .i64 l1', .slice A' n' c']] w (RetA w R) := by
  have H := Lib.hid h
  have HS := Lib.hid hs
  have HS' := Lib.hid hs'
  have HW := Lib.hid hwf
  clear h hs hs' hwf
  by_cases h0 : twoE ⟨k, r, l0, l1, xs⟩ ⟨k', r', l0', l1', ys⟩ 0 1 = 0
  · have H0 := Lib.hid h0
    have hT : ∃ zs1 zs2, (sTake ⟨k, r, l0, l1, xs⟩ ⟨k', r', l0', l1', ys⟩).1.c = zs1 ∧ (sDrop ⟨k, r, l0, l1, xs⟩ ⟨k', r', l0', l1', ys⟩).1.c = zs2 := ⟨_, _, rfl, rfl⟩
    obtain ⟨zs1, zs2, hT1, hT2⟩ := hT
    have hR : ∃ m : Nat, R = (⟨k', 1, m, 0, (sTake ⟨k, r, l0, l1, xs⟩ ⟨k', r', l0', l1', ys⟩).1.c⟩, 0) ∧ m = (sTake ⟨k, r, l0, l1, xs⟩ ⟨k', r', l0', l1', ys⟩).1.c.length := by
      obtain ⟨ha, _, _, hr, _⟩ := twoE_ok h0
      obtain ⟨x, hx⟩ := scalar_one (xs := xs) ha hr
      rw [← H.out, sTake_ok (x := x) h0 hx]
      exact ⟨_, rfl, rfl⟩
    obtain ⟨m, hR, hm⟩ := hR
    have HR := Lib.hid hR
    have HM := Lib.hid hm
    have HT1 := Lib.hid hT1
    have HT2 := Lib.hid hT2
    clear hR hm hT1 hT2 h0
    go_enter Try.func13, Try.ntmps13
    go_wp2_with fail
    refine (cut_ok _ _ _ _ _ _ _ xs _ _ _ _ _ _ _ ys _ (HS.out.step (below3 _ _ _ _)) (HS'.out.step (below3 _ _ _ _)) HW.out H0.out).mono ?_
    rintro e w1 ⟨⟨A1, n1, c1, A2, n2, c2, rfl, hS1, hS2, hN1, hN2⟩, hb1⟩
    have S1 := Lib.hid hS1
    have S2 := Lib.hid hS2
    obtain ⟨X0, X1, X2, b1⟩ := after3 hb1
    have q2 := Bx.lt X2
    have q1 := Bx.lt X1
    have q0 := Bx.lt X0
    have N1 : New w A1 := hN1.mono (below3 _ _ _ _).size
    have N2 : New w A2 := hN2.mono (below3 _ _ _ _).size
    have M1 : ∀ b o, A1 = some ⟨b, o, none⟩ → b ≠ w.heap.size + 1 + 1 := fun b o e => by have := hN1 b o none e; simp at this; omega
    have M2 : ∀ b o, A2 = some ⟨b, o, none⟩ → b ≠ w.heap.size + 1 + 1 := fun b o e => by have := hN2 b o none e; simp at this; omega
    have HM1 := Lib.hid M1
    have HM2 := Lib.hid M2
    clear hb1 hS1 hS2 hN1 hN2 M1 M2
    have g2 : ∀ i, w1.cell? ⟨w.heap.size + 1 + 1, i, none⟩ = _ := Bx.cell X2
    have f2 : ∀ i, w1.frozen? ⟨w.heap.size + 1 + 1, i, none⟩ = false := Bx.frozen X2
    go_wp2
    have N := N1
    have M := HM1.out
    refine retAE (B := w.heap.size + 1 + 1) rfl rfl rfl rfl (((Bx.set5 X2 _ _ _ _ _).alloc _).alloc _) ?_
    have hS := S1.out
    have hm := HM.out
    have hl := hS.len
    rw [← hm] at hl
    subst hl
    exact RetA.mk HR.out (((hS.past5 _ _ _ _ _ M).step (bal (Below.refl _ _) _)).step (bal (Below.refl _ _) _)) N (bal (bal (below_set5 b1 (by omega) _ _ _ _ _) _) _)
  · have he := H.out
    rw [sTake_err h0] at he
    obtain ⟨ec, hec⟩ : ∃ ec, twoE ⟨k, r, l0, l1, xs⟩ ⟨k', r', l0', l1', ys⟩ 0 1 = ec := ⟨_, rfl⟩
    rw [hec] at h0 he
    have HEC := Lib.hid hec
    have H0 := Lib.hid h0
    have HR := Lib.hid he
    clear hec h0 he
    go_enter Try.func13, Try.ntmps13
    go_wp2_with fail
    refine (cut_err _ _ _ _ _ _ _ xs _ _ _ _ _ _ _ ys _ _ (HS.out.step (below3 _ _ _ _)) (HS'.out.step (below3 _ _ _ _)) HEC.out H0.out).mono ?_
    rintro e w1 ⟨rfl, hb1⟩
    obtain ⟨X0, X1, X2, b1⟩ := after3 hb1
    have q2 := Bx.lt X2
    have q1 := Bx.lt X1
    have q0 := Bx.lt X0
    clear hb1
    have g2 : ∀ i, w1.cell? ⟨w.heap.size + 1 + 1, i, none⟩ = _ := Bx.cell X2
    have f2 : ∀ i, w1.frozen? ⟨w.heap.size + 1 + 1, i, none⟩ = false := Bx.frozen X2
    go_wp2
    refine retAE (B := w.heap.size + 1 + 1) rfl rfl rfl rfl (((Bx.set5 X2 _ _ _ _ _).alloc _).alloc _) ?_
    exact RetA.mk HR.out.symm (Sl.nil _) (fun _ _ _ h => by cases h) (bal (bal (below_set5 b1 (by omega) _ _ _ _ _) _) _)

set_option maxHeartbeats 1000000 in
theorem mDrop_any (k r l0 l1 : Int) (A : Option Addr) (n c : Nat) (xs : List Int) (k' r' l0' l1' : Int) (A' : Option Addr) (n' c' : Nat) (ys : List Int) (R : Arr × Int) (w : World)
    (hs : Sl w A n c xs) (hs' : Sl w A' n' c' ys) (hwf : ∀ x ∈ xs, -9223372036854775808 ≤ x ∧ x ≤ 9223372036854775807) (h : sDrop ⟨k, r, l0, l1, xs⟩ ⟨k', r', l0', l1', ys⟩ = R) :
    Calls Try.prog 15 #[.agg #[.int .i64 k, .int .i64 r, .int .i64 l0, .int .i64 l1, .slice A n c], .agg #[.int .i64 k', .int .i64 r', .int .i64 l0', .int .i64 l1', .slice A' n' c']] w (RetA w R) := by
  have H := Lib.hid h
  have HS := Lib.hid hs
  have HS' := Lib.hid hs'
  have HW := Lib.hid hwf
  clear h hs hs' hwf
  by_cases h0 : twoE ⟨k, r, l0, l1, xs⟩ ⟨k', r', l0', l1', ys⟩ 0 1 = 0
  · have H0 := Lib.hid h0
    have hT : ∃ zs1 zs2, (sTake ⟨k, r, l0, l1, xs⟩ ⟨k', r', l0', l1', ys⟩).1.c = zs1 ∧ (sDrop ⟨k, r, l0, l1, xs⟩ ⟨k', r', l0', l1', ys⟩).1.c = zs2 := ⟨_, _, rfl, rfl⟩
    obtain ⟨zs1, zs2, hT1, hT2⟩ := hT
    have hR : ∃ m : Nat, R = (⟨k', 1, m, 0, (sDrop ⟨k, r, l0, l1, xs⟩ ⟨k', r', l0', l1', ys⟩).1.c⟩, 0) ∧ m = (sDrop ⟨k, r, l0, l1, xs⟩ ⟨k', r', l0', l1', ys⟩).1.c.length := by
      obtain ⟨ha, _, _, hr, _⟩ := twoE_ok h0
      obtain ⟨x, hx⟩ := scalar_one (xs := xs) ha hr
      rw [← H.out, sDrop_ok (x := x) h0 hx]
      exact ⟨_, rfl, rfl⟩
    obtain ⟨m, hR, hm⟩ := hR
    have HR := Lib.hid hR
    have HM := Lib.hid hm
    have HT1 := Lib.hid hT1
    have HT2 := Lib.hid hT2
    clear hR hm hT1 hT2 h0
    go_enter Try.func15, Try.ntmps15
    go_wp2_with fail
    refine (cut_ok _ _ _ _ _ _ _ xs _ _ _ _ _ _ _ ys _ (HS.out.step (below3 _ _ _ _)) (HS'.out.step (below3 _ _ _ _)) HW.out H0.out).mono ?_
    rintro e w1 ⟨⟨A1, n1, c1, A2, n2, c2, rfl, hS1, hS2, hN1, hN2⟩, hb1⟩
    have S1 := Lib.hid hS1
    have S2 := Lib.hid hS2
    obtain ⟨X0, X1, X2, b1⟩ := after3 hb1
    have q2 := Bx.lt X2
    have q1 := Bx.lt X1
    have q0 := Bx.lt X0
    have N1 : New w A1 := hN1.mono (below3 _ _ _ _).size
    have N2 : New w A2 := hN2.mono (below3 _ _ _ _).size
    have M1 : ∀ b o, A1 = some ⟨b, o, none⟩ → b ≠ w.heap.size + 1 + 1 := fun b o e => by have := hN1 b o none e; simp at this; omega
    have M2 : ∀ b o, A2 = some ⟨b, o, none⟩ → b ≠ w.heap.size + 1 + 1 := fun b o e => by have := hN2 b o none e; simp at this; omega
    have HM1 := Lib.hid M1
    have HM2 := Lib.hid M2
    clear hb1 hS1 hS2 hN1 hN2 M1 M2
    have g2 : ∀ i, w1.cell? ⟨w.heap.size + 1 + 1, i, none⟩ = _ := Bx.cell X2
    have f2 : ∀ i, w1.frozen? ⟨w.heap.size + 1 + 1, i, none⟩ = false := Bx.frozen X2
    go_wp2
    have N := N2
    have M := HM2.out
    refine retAE (B := w.heap.size + 1 + 1) rfl rfl rfl rfl (((Bx.set5 X2 _ _ _ _ _).alloc _).alloc _) ?_
    have hS := S2.out
    have hm := HM.out
    have hl := hS.len
    rw [← hm] at hl
    subst hl
    exact RetA.mk HR.out (((hS.past5 _ _ _ _ _ M).step (bal (Below.refl _ _) _)).step (bal (Below.refl _ _) _)) N (bal (bal (below_set5 b1 (by omega) _ _ _ _ _) _) _)
  · have he := H.out
    rw [sDrop_err h0] at he
    obtain ⟨ec, hec⟩ : ∃ ec, twoE ⟨k, r, l0, l1, xs⟩ ⟨k', r', l0', l1', ys⟩ 0 1 = ec := ⟨_, rfl⟩
    rw [hec] at h0 he
    have HEC := Lib.hid hec
    have H0 := Lib.hid h0
    have HR := Lib.hid he
    clear hec h0 he
    go_enter Try.func15, Try.ntmps15
    go_wp2_with fail
    refine (cut_err _ _ _ _ _ _ _ xs _ _ _ _ _ _ _ ys _ _ (HS.out.step (below3 _ _ _ _)) (HS'.out.step (below3 _ _ _ _)) HEC.out H0.out).mono ?_
    rintro e w1 ⟨rfl, hb1⟩
    obtain ⟨X0, X1, X2, b1⟩ := after3 hb1
    have q2 := Bx.lt X2
    have q1 := Bx.lt X1
    have q0 := Bx.lt X0
    clear hb1
    have g2 : ∀ i, w1.cell? ⟨w.heap.size + 1 + 1, i, none⟩ = _ := Bx.cell X2
    have f2 : ∀ i, w1.frozen? ⟨w.heap.size + 1 + 1, i, none⟩ = false := Bx.frozen X2
    go_wp2
    refine retAE (B := w.heap.size + 1 + 1) rfl rfl rfl rfl (((Bx.set5 X2 _ _ _ _ _).alloc _).alloc _) ?_
    exact RetA.mk HR.out.symm (Sl.nil _) (fun _ _ _ h => by cases h) (bal (bal (below_set5 b1 (by omega) _ _ _ _ _) _) _)

end Go.Proofs.Ytoapgknkenlcgaa

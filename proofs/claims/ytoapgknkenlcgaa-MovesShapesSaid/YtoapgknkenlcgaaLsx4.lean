/-
  The law MovesShapes: its walk.
-/
import Derived.Test.YtoapgknkenlcgaaMpart
import Derived.Deep.CutRange
namespace Go.Proofs.Ytoapgknkenlcgaa
open Go.RowKit

theorem take_one {xs : List Int} {h : Int} (hl : 0 < xs.length) (hh : xs.getD 0 0 = h) : xs.take 1 = [h] := by
  cases xs with
  | nil => cases hl
  | cons a l => simp at hh; simp [hh]
set_option maxRecDepth 100000 in
set_option maxHeartbeats 16000000 in
theorem shapeX_full (km rm um vm : Int) (Am : Option Addr) (nm cm : Nat) (xsm : List Int) (kv rv uv vv : Int) (Av : Option Addr) (nv cv : Nat) (xsv : List Int) (P Q : Nat) (w : World) (hsm : Sl w Am nm cm xsm) (hsv : Sl w Av nv cv xsv) (hfa : ¬ 405 < nm) (hfb : ¬ 405 < nv) (ecm : Int) (hM : achk km rm um vm xsm = ecm) (tv : Bool) (hT : (tv = false ∧ (ecm == 0) = false) ∨ (tv = false ∧ ecm = 0 ∧ (rm == 2) = false) ∨ (tv = true ∧ ecm = 0 ∧ rm = 2 ∧ sRavel ⟨km, 2, um, vm, xsm⟩ = (⟨km, 1, (nm : Int), 0, xsm⟩, 0) ∧ sGrid ⟨1, 1, 2, 0, [um, vm]⟩ ⟨km, 1, (nm : Int), 0, xsm⟩ = (⟨km, 2, um, vm, xsm⟩, 0))) (hV : achk kv rv uv vv xsv = 0) (hrv : (rv != 1) = false) (x y : Nat) (hP : Int.tmod (P : Int) 25 = (x : Int)) (hQ : Int.tmod (Q : Int) 25 = (y : Int)) (_hPb : P ≤ 255) (_hQb : Q ≤ 255) (hx : x ≤ 24) (hy : y ≤ 24) (N : Nat) (hN : IntKind.i64.wrap ((x : Int) * (y : Int)) = (N : Int)) (_hNb : N ≤ 576) (gs : List Int) (hG : sGrid ⟨1, 1, 2, 0, [(x : Int), (y : Int)]⟩ ⟨kv, rv, uv, vv, xsv⟩ = (⟨kv, 2, (x : Int), (y : Int), gs⟩, 0)) (hR : sRavel ⟨kv, 2, (x : Int), (y : Int), gs⟩ = (⟨kv, 1, (N : Int), 0, gs⟩, 0)) (hLN : gs.length = N) (hnv : 0 < nv) (hGS : ∀ j, j < N → gs.getD j 0 = xsv.getD (j % nv) 0) (hv : Int) (hhv : xsv.getD 0 0 = hv) (fs : List Int) (hF : sFill ⟨1, 0, 0, 0, [(y : Int)]⟩ ⟨kv, 0, 0, 0, [hv]⟩ = (⟨kv, 1, (y : Int), 0, fs⟩, 0)) (hG2 : sGrid ⟨1, 1, 2, 0, [1, (y : Int)]⟩ ⟨kv, 1, 1, 0, [hv]⟩ = (⟨kv, 2, 1, (y : Int), fs⟩, 0)) (hR2 : sRavel ⟨kv, 2, 1, (y : Int), fs⟩ = (⟨kv, 1, (y : Int), 0, fs⟩, 0)) (hYB : ∀ z ∈ [(y : Int)], -9223372036854775808 ≤ z ∧ z ≤ 9223372036854775807) :
    Calls Try.prog 10 #[.agg #[.int .i64 km, .int .i64 rm, .int .i64 um, .int .i64 vm, .slice Am nm cm], .agg #[.int .i64 kv, .int .i64 rv, .int .i64 uv, .int .i64 vv, .slice Av nv cv], .agg #[.int .u8 (P : Int), .int .u8 (Q : Int)]] w fun e w' => e = .returned (.bool true) ∧ Below w.heap.size w w' := by
  have Sm := Lib.hid hsm
  have Sv := Lib.hid hsv
  have HSV := Lib.hid hsv
  clear hsm hsv
  have HM := Lib.hid hM
  have HT := Lib.hid hT
  have HV := Lib.hid hV
  have HG := Lib.hid hG
  have HR := Lib.hid hR
  have HLN := Lib.hid hLN
  have HGS := Lib.hid hGS
  have Hhv := Lib.hid hhv
  have HF := Lib.hid hF
  have HG2 := Lib.hid hG2
  have HR2 := Lib.hid hR2
  have HYB := Lib.hid hYB
  clear hM hT hV hG hR hLN hGS hhv hF hG2 hR2 hYB
  obtain ⟨bv, ov, rfl, hbl, hc0⟩ := HSV.out.at_ (k := 0) hnv
  rw [Hhv.out, Nat.add_zero] at hc0
  have HC0 := Lib.hid hc0
  clear hc0
  have hnv0 : ((nv : Int) == 0) = false := by simpa using (show nv ≠ 0 by omega)
  have hnv1 : (1 : Int) ≤ (cv : Int) := by have := HSV.out.cap; omega
  have hnv2 : (0 : Int) < (nv : Int) := by omega
  have hnv3 : (nv : Int) ≠ 0 := by omega
  have hE : ∀ w, (Op.equalIn 10000 22 (.agg #[.int .i64 (x : Int), .int .i64 (y : Int)]) (.agg #[.int .i64 (x : Int), .int .i64 (y : Int)])).run Try.prog w = .ok true w := fun w => by rw [eqLens]; simp
  go_enter Try.func10, Try.ntmps10
  go_wp2_with fail
  refine (far_any _ _ _ _ _ _ _ _).mono ?_
  rintro e w1 ⟨rfl, hst⟩
  obtain ⟨Xm, Xv, Xl, hst⟩ := after3 hst
  replace Sm := Lib.hid (Sm.out.step hst)
  replace Sv := Lib.hid (Sv.out.step hst)
  have b : Below w.heap.size w w1 := hst
  clear hst
  rw [decide_eq_false hfa]
  have dXm : ∀ i, w1.cell? ⟨w.heap.size, i, none⟩ = _ := Bx.cell Xm
  have eXm : ∀ i, w1.frozen? ⟨w.heap.size, i, none⟩ = false := Bx.frozen Xm
  have qXm := Bx.lt Xm
  have dXv : ∀ i, w1.cell? ⟨w.heap.size + 1, i, none⟩ = _ := Bx.cell Xv
  have eXv : ∀ i, w1.frozen? ⟨w.heap.size + 1, i, none⟩ = false := Bx.frozen Xv
  have qXv := Bx.lt Xv
  have dXl : ∀ i, w1.cell? ⟨w.heap.size + 1 + 1, i, none⟩ = _ := Bx.cell Xl
  have eXl : ∀ i, w1.frozen? ⟨w.heap.size + 1 + 1, i, none⟩ = false := Bx.frozen Xl
  have qXl := Bx.lt Xl
  go_wp2_with fail
  refine (far_any _ _ _ _ _ _ _ _).mono ?_
  rintro e w2 ⟨rfl, hst⟩
  clear dXm eXm qXm dXv eXv qXv dXl eXl qXl
  replace Xm := Bx.step Xm hst
  replace Xv := Bx.step Xv hst
  replace Xl := Bx.step Xl hst
  replace Sm := Lib.hid (Sm.out.step hst)
  replace Sv := Lib.hid (Sv.out.step hst)
  replace b : Below w.heap.size w w2 := bst b hst
  clear hst
  rw [decide_eq_false hfb]
  have dXm : ∀ i, w2.cell? ⟨w.heap.size, i, none⟩ = _ := Bx.cell Xm
  have eXm : ∀ i, w2.frozen? ⟨w.heap.size, i, none⟩ = false := Bx.frozen Xm
  have qXm := Bx.lt Xm
  have dXv : ∀ i, w2.cell? ⟨w.heap.size + 1, i, none⟩ = _ := Bx.cell Xv
  have eXv : ∀ i, w2.frozen? ⟨w.heap.size + 1, i, none⟩ = false := Bx.frozen Xv
  have qXv := Bx.lt Xv
  have dXl : ∀ i, w2.cell? ⟨w.heap.size + 1 + 1, i, none⟩ = _ := Bx.cell Xl
  have eXl : ∀ i, w2.frozen? ⟨w.heap.size + 1 + 1, i, none⟩ = false := Bx.frozen Xl
  have qXl := Bx.lt Xl
  go_upto_region 3 with fail
  clear dXm eXm qXm dXv eXv qXv dXl eXl qXl
  go_cut [39] from 25 to 39 (fun t wx => t = .bool tv ∧ Below w2.heap.size w2 wx)
  case first =>
    rcases HT.out with ⟨rfl, h1⟩ | ⟨rfl, he, h1⟩ | ⟨rfl, he, h1, _, _⟩
    · have dXm : ∀ i, w2.cell? ⟨w.heap.size, i, none⟩ = _ := Bx.cell Xm
      have eXm : ∀ i, w2.frozen? ⟨w.heap.size, i, none⟩ = false := Bx.frozen Xm
      have qXm := Bx.lt Xm
      have dXv : ∀ i, w2.cell? ⟨w.heap.size + 1, i, none⟩ = _ := Bx.cell Xv
      have eXv : ∀ i, w2.frozen? ⟨w.heap.size + 1, i, none⟩ = false := Bx.frozen Xv
      have qXv := Bx.lt Xv
      have dXl : ∀ i, w2.cell? ⟨w.heap.size + 1 + 1, i, none⟩ = _ := Bx.cell Xl
      have eXl : ∀ i, w2.frozen? ⟨w.heap.size + 1 + 1, i, none⟩ = false := Bx.frozen Xl
      have qXl := Bx.lt Xl
      go_wp2_with fail
      refine (racheck_any _ _ _ _ _ _ _ xsm ecm _ Sm.out HM.out).mono ?_
      rintro e y ⟨rfl, hb_⟩
      have Y_ := Bx.step Xm hb_
      have dY_ : ∀ i, y.cell? ⟨w.heap.size, i, none⟩ = _ := Bx.cell Y_
      have qY_ := Bx.lt Y_
      clear dXm eXm qXm dXv eXv qXv dXl eXl qXl
      go_wp2_with fail
      go_meet
      exact ⟨rfl, hb_⟩
    · have HE_ := Lib.hid he
      have HM2 := Lib.hid (HM.out.trans HE_.out)
      clear he
      have dXm : ∀ i, w2.cell? ⟨w.heap.size, i, none⟩ = _ := Bx.cell Xm
      have eXm : ∀ i, w2.frozen? ⟨w.heap.size, i, none⟩ = false := Bx.frozen Xm
      have qXm := Bx.lt Xm
      have dXv : ∀ i, w2.cell? ⟨w.heap.size + 1, i, none⟩ = _ := Bx.cell Xv
      have eXv : ∀ i, w2.frozen? ⟨w.heap.size + 1, i, none⟩ = false := Bx.frozen Xv
      have qXv := Bx.lt Xv
      have dXl : ∀ i, w2.cell? ⟨w.heap.size + 1 + 1, i, none⟩ = _ := Bx.cell Xl
      have eXl : ∀ i, w2.frozen? ⟨w.heap.size + 1 + 1, i, none⟩ = false := Bx.frozen Xl
      have qXl := Bx.lt Xl
      go_wp2_with fail
      refine (racheck_any _ _ _ _ _ _ _ xsm 0 _ Sm.out HM2.out).mono ?_
      rintro e y ⟨rfl, hb_⟩
      have Y_ := Bx.step Xm hb_
      have dY_ : ∀ i, y.cell? ⟨w.heap.size, i, none⟩ = _ := Bx.cell Y_
      have qY_ := Bx.lt Y_
      clear dXm eXm qXm dXv eXv qXv dXl eXl qXl
      go_wp2_with fail
      go_meet
      exact ⟨rfl, hb_⟩
    · have HE_ := Lib.hid he
      have HM2 := Lib.hid (HM.out.trans HE_.out)
      clear he
      have h2_ : (rm == 2) = true := by simpa using h1
      clear h1
      have dXm : ∀ i, w2.cell? ⟨w.heap.size, i, none⟩ = _ := Bx.cell Xm
      have eXm : ∀ i, w2.frozen? ⟨w.heap.size, i, none⟩ = false := Bx.frozen Xm
      have qXm := Bx.lt Xm
      have dXv : ∀ i, w2.cell? ⟨w.heap.size + 1, i, none⟩ = _ := Bx.cell Xv
      have eXv : ∀ i, w2.frozen? ⟨w.heap.size + 1, i, none⟩ = false := Bx.frozen Xv
      have qXv := Bx.lt Xv
      have dXl : ∀ i, w2.cell? ⟨w.heap.size + 1 + 1, i, none⟩ = _ := Bx.cell Xl
      have eXl : ∀ i, w2.frozen? ⟨w.heap.size + 1 + 1, i, none⟩ = false := Bx.frozen Xl
      have qXl := Bx.lt Xl
      go_wp2_with fail
      refine (racheck_any _ _ _ _ _ _ _ xsm 0 _ Sm.out HM2.out).mono ?_
      rintro e y ⟨rfl, hb_⟩
      have Y_ := Bx.step Xm hb_
      have dY_ : ∀ i, y.cell? ⟨w.heap.size, i, none⟩ = _ := Bx.cell Y_
      have qY_ := Bx.lt Y_
      clear dXm eXm qXm dXv eXv qXv dXl eXl qXl
      go_wp2_with fail
      go_meet
      exact ⟨rfl, hb_⟩
  case rest =>
  obtain ⟨rfl, hst⟩ := hcut
  obtain ⟨w3, hw_⟩ : ∃ w3, wc = w3 := ⟨_, rfl⟩
  rw [hw_] at hst
  rw [hw_]
  clear hw_
  replace Xm := Bx.step Xm hst
  replace Xv := Bx.step Xv hst
  replace Xl := Bx.step Xl hst
  replace Sm := Lib.hid (Sm.out.step hst)
  replace Sv := Lib.hid (Sv.out.step hst)
  replace b := bst b hst
  clear hst
  go_upto_if 39 with fail
  go_cut [39] from 40 to 66 (fun _ wx => Below w3.heap.size w3 wx)
  case first =>
    rcases HT.out with ⟨rfl, h1⟩ | ⟨rfl, he, h1⟩ | ⟨rfl, he, h1, hR1, hG1⟩
    · go_wp2_with fail
      go_meet
      exact Below.refl _ _
    · go_wp2_with fail
      go_meet
      exact Below.refl _ _
    · have HR1 := Lib.hid hR1
      have HG1 := Lib.hid hG1
      clear he hR1 hG1
      obtain rfl := h1
      have bW : Below w3.heap.size w3 w3 := Below.refl _ _
      have dXm : ∀ i, w3.cell? ⟨w.heap.size, i, none⟩ = _ := Bx.cell Xm
      have eXm : ∀ i, w3.frozen? ⟨w.heap.size, i, none⟩ = false := Bx.frozen Xm
      have qXm := Bx.lt Xm
      have dXv : ∀ i, w3.cell? ⟨w.heap.size + 1, i, none⟩ = _ := Bx.cell Xv
      have eXv : ∀ i, w3.frozen? ⟨w.heap.size + 1, i, none⟩ = false := Bx.frozen Xv
      have qXv := Bx.lt Xv
      have dXl : ∀ i, w3.cell? ⟨w.heap.size + 1 + 1, i, none⟩ = _ := Bx.cell Xl
      have eXl : ∀ i, w3.frozen? ⟨w.heap.size + 1 + 1, i, none⟩ = false := Bx.frozen Xl
      have qXl := Bx.lt Xl
      go_wp2_with fail
      refine (mRavel_any _ _ _ _ _ _ _ xsm (⟨km, 1, (nm : Int), 0, xsm⟩, 0) _ Sm.out HR1.out).mono ?_
      intro e w4 hR
      obtain ⟨A4, n4, c4, rfl, hS4, hN4, hst⟩ := RetA.flat hR
      clear hR
      clear dXm eXm qXm dXv eXv qXv dXl eXl qXl
      replace Xm := Bx.step Xm hst
      replace Xv := Bx.step Xv hst
      replace Xl := Bx.step Xl hst
      replace Sm := Lib.hid (Sm.out.step hst)
      replace Sv := Lib.hid (Sv.out.step hst)
      replace bW : Below w3.heap.size w3 w4 := bst bW hst
      clear hst
      have SQ := Lib.hid hS4
      have NSQ := Lib.hid hN4
      clear hS4 hN4
      have dXm : ∀ i, w4.cell? ⟨w.heap.size, i, none⟩ = _ := Bx.cell Xm
      have eXm : ∀ i, w4.frozen? ⟨w.heap.size, i, none⟩ = false := Bx.frozen Xm
      have qXm := Bx.lt Xm
      have dXv : ∀ i, w4.cell? ⟨w.heap.size + 1, i, none⟩ = _ := Bx.cell Xv
      have eXv : ∀ i, w4.frozen? ⟨w.heap.size + 1, i, none⟩ = false := Bx.frozen Xv
      have qXv := Bx.lt Xv
      have dXl : ∀ i, w4.cell? ⟨w.heap.size + 1 + 1, i, none⟩ = _ := Bx.cell Xl
      have eXl : ∀ i, w4.frozen? ⟨w.heap.size + 1 + 1, i, none⟩ = false := Bx.frozen Xl
      have qXl := Bx.lt Xl
      go_wp2
      have XQ := Bx.new w4 #[.int .i64 km, .int .i64 1, .int .i64 (nm : Int), .int .i64 0, .slice A4 n4 c4] 25
      have hst := below1 w4 (.cells #[.int .i64 km, .int .i64 1, .int .i64 (nm : Int), .int .i64 0, .slice A4 n4 c4] 25)
      obtain ⟨w5, hw_⟩ : ∃ w5, w4.alloc (.cells #[.int .i64 km, .int .i64 1, .int .i64 (nm : Int), .int .i64 0, .slice A4 n4 c4] 25) = w5 := ⟨_, rfl⟩
      rw [hw_] at XQ hst
      rw [hw_]
      clear hw_
      clear dXm eXm qXm dXv eXv qXv dXl eXl qXl
      replace Xm := Bx.step Xm hst
      replace Xv := Bx.step Xv hst
      replace Xl := Bx.step Xl hst
      replace Sm := Lib.hid (Sm.out.step hst)
      replace Sv := Lib.hid (Sv.out.step hst)
      replace SQ := Lib.hid (SQ.out.step hst)
      replace bW := bst bW hst
      clear hst
      go_cut [9, 10] from 46 to 57 (fun p e wx => ∃ (B : Nat) (A : Option Addr) (n c : Nat), p = .pointer (some ⟨B, 0, none⟩) ∧ e = .int .i64 0 ∧ Below w5.heap.size w5 wx ∧ Hid (Bx wx B #[.int .i64 km, .int .i64 2, .int .i64 um, .int .i64 vm, .slice A n c] 25) ∧ Hid (Sl wx A n c xsm) ∧ w5.heap.size ≤ B ∧ Hid (New w5 A) ∧ Hid (0 < n → ∀ b o, A = some ⟨b, o, none⟩ → b ≠ B))
      case first =>
        have hS : ∀ u, Below w5.heap.size w5 u → (∀ i, u.cell? ⟨w.heap.size, i, none⟩ = #[.int .i64 km, .int .i64 2, .int .i64 um, .int .i64 vm, .slice Am nm cm][i]?) ∧ (∀ i, u.cell? ⟨w4.heap.size, i, none⟩ = #[.int .i64 km, .int .i64 1, .int .i64 (nm : Int), .int .i64 0, .slice A4 n4 c4][i]?) := fun u h => ⟨Bx.cell (Bx.step Xm h), Bx.cell (Bx.step XQ h)⟩
        have P0 : Below w5.heap.size w5 w5.drew := bdr (Below.refl _ _)
        have P1 : Below w5.heap.size w5 (w5.alloc (.cells #[.int .i64 0, .int .i64 0, .int .i64 0, .int .i64 0, .slice none 0 0] 25)).drew := bdr (bal (Below.refl _ _) _)
        have P2 : Below w5.heap.size w5 (w5.alloc (.cells #[.int .i64 um, .int .i64 vm] 2)).drew := bdr (bal (Below.refl _ _) _)
        have P3 : Below w5.heap.size w5 ((w5.alloc (.cells #[.int .i64 um, .int .i64 vm] 2)).alloc (.cells #[.int .i64 0, .int .i64 0, .int .i64 0, .int .i64 0, .slice none 0 0] 25)).drew := bdr (bal (bal (Below.refl _ _) _) _)
        have P4 : Below w5.heap.size w5 ((w5.alloc (.cells #[.int .i64 0, .int .i64 0, .int .i64 0, .int .i64 0, .slice none 0 0] 25)).alloc (.cells #[.int .i64 um, .int .i64 vm] 2)).drew := bdr (bal (bal (Below.refl _ _) _) _)
        have L2 := Lib.hid (show Sl (w5.alloc (.cells #[.int .i64 um, .int .i64 vm] 2)).drew (some ⟨w5.heap.size, 0, none⟩) 2 2 [um, vm] from slLit w5 _ 2 rfl (by omega))
        have L3 := Lib.hid (show Sl ((w5.alloc (.cells #[.int .i64 um, .int .i64 vm] 2)).alloc (.cells #[.int .i64 0, .int .i64 0, .int .i64 0, .int .i64 0, .slice none 0 0] 25)).drew (some ⟨w5.heap.size, 0, none⟩) 2 2 [um, vm] from Sl.step (w := w5.alloc (.cells #[.int .i64 um, .int .i64 vm] 2)) (slLit w5 _ 2 rfl (by omega)) (bdr (below1 _ _)))
        have h1_ : (w5.alloc (.cells #[.int .i64 0, .int .i64 0, .int .i64 0, .int .i64 0, .slice none 0 0] 25)).heap.size = w5.heap.size + 1 := by simp
        have h2_ : (w5.alloc (.cells #[.int .i64 um, .int .i64 vm] 2)).heap.size = w5.heap.size + 1 := by simp
        have L4 := Lib.hid (show Sl ((w5.alloc (.cells #[.int .i64 0, .int .i64 0, .int .i64 0, .int .i64 0, .slice none 0 0] 25)).alloc (.cells #[.int .i64 um, .int .i64 vm] 2)).drew (some ⟨w5.heap.size + 1, 0, none⟩) 2 2 [um, vm] by rw [← h1_]; exact slLit (w5.alloc (.cells #[.int .i64 0, .int .i64 0, .int .i64 0, .int .i64 0, .slice none 0 0] 25)) _ 2 rfl (by omega))
        have N3 : Bx ((w5.alloc (.cells #[.int .i64 um, .int .i64 vm] 2)).alloc (.cells #[.int .i64 0, .int .i64 0, .int .i64 0, .int .i64 0, .slice none 0 0] 25)).drew (w5.heap.size + 1) #[.int .i64 0, .int .i64 0, .int .i64 0, .int .i64 0, .slice none 0 0] 25 := by rw [← h2_]; exact Bx.new (w5.alloc (.cells #[.int .i64 um, .int .i64 vm] 2)) _ _
        have N4 : Bx ((w5.alloc (.cells #[.int .i64 0, .int .i64 0, .int .i64 0, .int .i64 0, .slice none 0 0] 25)).alloc (.cells #[.int .i64 um, .int .i64 vm] 2)).drew (w5.heap.size) #[.int .i64 0, .int .i64 0, .int .i64 0, .int .i64 0, .slice none 0 0] 25 := Bx.alloc (Bx.new w5 _ _) _
        clear h1_ h2_
        go_region_held3 (fun w' => (∀ i, w'.cell? ⟨w.heap.size, i, none⟩ = #[.int .i64 km, .int .i64 2, .int .i64 um, .int .i64 vm, .slice Am nm cm][i]?) ∧ (∀ i, w'.cell? ⟨w4.heap.size, i, none⟩ = #[.int .i64 km, .int .i64 1, .int .i64 (nm : Int), .int .i64 0, .slice A4 n4 c4][i]?))
          (with_reducible first | exact hS _ P0 | exact hS _ P1 | exact hS _ P2 | exact hS _ P3 | exact hS _ P4 | exact hS _ R1 | exact hS _ (bal R1 _) | exact hS _ R2 | exact hS _ (bal R2 _) | exact hS _ (below_set5' R2 (Nat.le_succ _) _ _ _ _ _) | exact hS _ (below_set5' R2 (Nat.le_refl _) _ _ _ _ _) | exact hS _ (below_set5' R2 R1.size _ _ _ _ _))
          (first
            | (go_at_call 35; (with_reducible first | refine (ints_any (some ⟨w5.heap.size, 0, none⟩) 2 2 [um, vm] ((w5.alloc (.cells #[.int .i64 um, .int .i64 vm] 2)).drew) L2.out (by omega)).mono ?_ | refine (ints_any (some ⟨w5.heap.size, 0, none⟩) 2 2 [um, vm] (((w5.alloc (.cells #[.int .i64 um, .int .i64 vm] 2)).alloc (.cells #[.int .i64 0, .int .i64 0, .int .i64 0, .int .i64 0, .slice none 0 0] 25)).drew) L3.out (by omega)).mono ?_ | refine (ints_any (some ⟨w5.heap.size + 1, 0, none⟩) 2 2 [um, vm] (((w5.alloc (.cells #[.int .i64 0, .int .i64 0, .int .i64 0, .int .i64 0, .slice none 0 0] 25)).alloc (.cells #[.int .i64 um, .int .i64 vm] 2)).drew) L4.out (by omega)).mono ?_); rintro e y1 ⟨⟨Ay1, ny1, cy1, rfl, hSy, hNy⟩, hb_⟩; have R1 : Below w5.heap.size w5 y1 := (by with_reducible first | exact bst P2 hb_ | exact bst P3 hb_ | exact bst P4 hb_); have ss1 := R1.size; have O1 : Below y1.heap.size y1 (y1.alloc (.cells #[.int .i64 0, .int .i64 0, .int .i64 0, .int .i64 0, .slice none 0 0] 25)) := below1 _ _; have NO1 : Bx (y1.alloc (.cells #[.int .i64 0, .int .i64 0, .int .i64 0, .int .i64 0, .slice none 0 0] 25)) (y1.heap.size) #[.int .i64 0, .int .i64 0, .int .i64 0, .int .i64 0, .slice none 0 0] 25 := Bx.new y1 _ _; have QSQ := Lib.hid (SQ.out.step R1); have T1 := Lib.hid hSy; clear hSy; (try (have M3 : Bx y1 (w5.heap.size + 1) #[.int .i64 0, .int .i64 0, .int .i64 0, .int .i64 0, .slice none 0 0] 25 := (by with_reducible exact Bx.step N3 hb_))); (try (have M4 : Bx y1 (w5.heap.size) #[.int .i64 0, .int .i64 0, .int .i64 0, .int .i64 0, .slice none 0 0] 25 := (by with_reducible exact Bx.step N4 hb_))); (try (have LM3 := Bx.lt M3)); (try (have LM4 := Bx.lt M4)))
            | (go_at_call 20; (with_reducible first | refine (mGrid_any _ _ _ _ _ _ _ [um, vm] _ _ _ _ _ _ _ xsm (⟨km, 2, um, vm, xsm⟩, 0) y1 T1.out QSQ.out HG1.out).mono ?_ | refine (mGrid_any _ _ _ _ _ _ _ [um, vm] _ _ _ _ _ _ _ xsm (⟨km, 2, um, vm, xsm⟩, 0) _ (T1.out.step O1) (QSQ.out.step O1) HG1.out).mono ?_); intro e y2 hR_; obtain ⟨Ay2, ny2, cy2, rfl, hSy, hNy, hb_⟩ := RetA.flat hR_; have R2 : Below w5.heap.size w5 y2 := (by with_reducible first | exact bst R1 hb_ | exact bst (bal R1 _) hb_); have ss2 := R2.size; have O2 : Below y2.heap.size y2 (y2.alloc (.cells #[.int .i64 0, .int .i64 0, .int .i64 0, .int .i64 0, .slice none 0 0] 25)) := below1 _ _; have NO2 : Bx (y2.alloc (.cells #[.int .i64 0, .int .i64 0, .int .i64 0, .int .i64 0, .slice none 0 0] 25)) (y2.heap.size) #[.int .i64 0, .int .i64 0, .int .i64 0, .int .i64 0, .slice none 0 0] 25 := Bx.new y2 _ _; have step_ : Below y1.heap.size y1 y2 := (by with_reducible first | exact hb_ | exact bst O1 hb_); have QSQ := Lib.hid (SQ.out.step R2); have T1 := Lib.hid (T1.out.step step_); (try (have M3 : Bx y2 (w5.heap.size + 1) #[.int .i64 0, .int .i64 0, .int .i64 0, .int .i64 0, .slice none 0 0] 25 := (by with_reducible exact Bx.step M3 hb_))); (try (have M4 : Bx y2 (w5.heap.size) #[.int .i64 0, .int .i64 0, .int .i64 0, .int .i64 0, .slice none 0 0] 25 := (by with_reducible exact Bx.step M4 hb_))); (try (have K1 : Bx y2 (y1.heap.size) #[.int .i64 0, .int .i64 0, .int .i64 0, .int .i64 0, .slice none 0 0] 25 := (by with_reducible exact Bx.step NO1 hb_))); (first | (have gB : ∀ i, y2.cell? ⟨(w5.heap.size + 1), i, none⟩ = _ := Bx.cell M3; have kB : ∀ i, y2.frozen? ⟨(w5.heap.size + 1), i, none⟩ = false := Bx.frozen M3) | (have gB : ∀ i, y2.cell? ⟨(w5.heap.size), i, none⟩ = _ := Bx.cell M4; have kB : ∀ i, y2.frozen? ⟨(w5.heap.size), i, none⟩ = false := Bx.frozen M4) | (have gB : ∀ i, y2.cell? ⟨(y1.heap.size), i, none⟩ = _ := Bx.cell K1; have kB : ∀ i, y2.frozen? ⟨(y1.heap.size), i, none⟩ = false := Bx.frozen K1) | skip)))
        all_goals go_wp2_with fail
        all_goals go_meet
        · exact ⟨y2.heap.size, Ay2, ny2, cy2, rfl, rfl, bal R2 _, Lib.hid (Bx.new y2 _ _), Lib.hid (hSy.step (below1 _ _)), R2.size, Lib.hid (hNy.mono ss1), Lib.hid (hSy.ne_lo (Nat.le_refl _))⟩
        · exact ⟨(y1.heap.size), Ay2, ny2, cy2, rfl, rfl, below_set5' R2 R1.size _ _ _ _ _, Lib.hid (Bx.set5 K1 _ _ _ _ _), Lib.hid (hSy.past5 _ _ _ _ _ fun b o e => by have h_ := hNy b o none e; rw [World.size_alloc] at h_; omega), R1.size, Lib.hid (hNy.mono (by rw [World.size_alloc]; omega)), Lib.hid (fun _ b o e => by have h_ := hNy b o none e; rw [World.size_alloc] at h_; omega)⟩
        · exact ⟨(w5.heap.size + 1), Ay2, ny2, cy2, rfl, rfl, below_set5' R2 (Nat.le_succ _) _ _ _ _ _, Lib.hid (Bx.set5 M3 _ _ _ _ _), Lib.hid (hSy.past5 _ _ _ _ _ fun b o e => by have h_ := hNy b o none e; have l_ := LM3; omega), (Nat.le_succ _), Lib.hid (hNy.mono ss1), Lib.hid (fun _ b o e => by have h_ := hNy b o none e; have l_ := LM3; omega)⟩
        · exact ⟨(w5.heap.size), Ay2, ny2, cy2, rfl, rfl, below_set5' R2 (Nat.le_refl _) _ _ _ _ _, Lib.hid (Bx.set5 M4 _ _ _ _ _), Lib.hid (hSy.past5 _ _ _ _ _ fun b o e => by have h_ := hNy b o none e; have l_ := LM4; omega), (Nat.le_refl _), Lib.hid (hNy.mono ss1), Lib.hid (fun _ b o e => by have h_ := hNy b o none e; have l_ := LM4; omega)⟩
      case rest =>
      obtain ⟨B6, A6, n6, c6, rfl, rfl, hst, HX_, HS_, hB6, NSH, ne_SH_XH⟩ := hcut
      obtain ⟨w6, hw6⟩ : ∃ w6, wc = w6 := ⟨_, rfl⟩
      rw [hw6] at hst HX_ HS_
      rw [hw6]
      clear hw6
      replace Xm := Bx.step Xm hst
      replace Xv := Bx.step Xv hst
      replace Xl := Bx.step Xl hst
      replace XQ := Bx.step XQ hst
      replace Sm := Lib.hid (Sm.out.step hst)
      replace Sv := Lib.hid (Sv.out.step hst)
      replace SQ := Lib.hid (SQ.out.step hst)
      replace bW := bst bW hst
      have XH := HX_.out
      have SH := HS_
      clear hst HX_ HS_
      have dXm : ∀ i, w6.cell? ⟨w.heap.size, i, none⟩ = _ := Bx.cell Xm
      have eXm : ∀ i, w6.frozen? ⟨w.heap.size, i, none⟩ = false := Bx.frozen Xm
      have qXm := Bx.lt Xm
      have dXv : ∀ i, w6.cell? ⟨w.heap.size + 1, i, none⟩ = _ := Bx.cell Xv
      have eXv : ∀ i, w6.frozen? ⟨w.heap.size + 1, i, none⟩ = false := Bx.frozen Xv
      have qXv := Bx.lt Xv
      have dXl : ∀ i, w6.cell? ⟨w.heap.size + 1 + 1, i, none⟩ = _ := Bx.cell Xl
      have eXl : ∀ i, w6.frozen? ⟨w.heap.size + 1 + 1, i, none⟩ = false := Bx.frozen Xl
      have qXl := Bx.lt Xl
      have dXQ : ∀ i, w6.cell? ⟨w4.heap.size, i, none⟩ = _ := Bx.cell XQ
      have eXQ : ∀ i, w6.frozen? ⟨w4.heap.size, i, none⟩ = false := Bx.frozen XQ
      have qXQ := Bx.lt XQ
      have dXH : ∀ i, w6.cell? ⟨B6, i, none⟩ = _ := Bx.cell XH
      have eXH : ∀ i, w6.frozen? ⟨B6, i, none⟩ = false := Bx.frozen XH
      have qXH := Bx.lt XH
      go_wp2_with fail
      refine (is_true _ _ _ _ _ _ _ xsm _ _ _ _ SH.out Sm.out).mono ?_
      rintro e w7 ⟨rfl, hst⟩
      clear dXm eXm qXm dXv eXv qXv dXl eXl qXl dXQ eXQ qXQ dXH eXH qXH
      replace Xm := Bx.step Xm hst
      replace Xv := Bx.step Xv hst
      replace Xl := Bx.step Xl hst
      replace XQ := Bx.step XQ hst
      replace XH := Bx.step XH hst
      replace Sm := Lib.hid (Sm.out.step hst)
      replace Sv := Lib.hid (Sv.out.step hst)
      replace SQ := Lib.hid (SQ.out.step hst)
      replace SH := Lib.hid (SH.out.step hst)
      replace bW : Below w3.heap.size w3 w7 := bst bW hst
      clear hst
      have dXm : ∀ i, w7.cell? ⟨w.heap.size, i, none⟩ = _ := Bx.cell Xm
      have eXm : ∀ i, w7.frozen? ⟨w.heap.size, i, none⟩ = false := Bx.frozen Xm
      have qXm := Bx.lt Xm
      have dXv : ∀ i, w7.cell? ⟨w.heap.size + 1, i, none⟩ = _ := Bx.cell Xv
      have eXv : ∀ i, w7.frozen? ⟨w.heap.size + 1, i, none⟩ = false := Bx.frozen Xv
      have qXv := Bx.lt Xv
      have dXl : ∀ i, w7.cell? ⟨w.heap.size + 1 + 1, i, none⟩ = _ := Bx.cell Xl
      have eXl : ∀ i, w7.frozen? ⟨w.heap.size + 1 + 1, i, none⟩ = false := Bx.frozen Xl
      have qXl := Bx.lt Xl
      have dXQ : ∀ i, w7.cell? ⟨w4.heap.size, i, none⟩ = _ := Bx.cell XQ
      have eXQ : ∀ i, w7.frozen? ⟨w4.heap.size, i, none⟩ = false := Bx.frozen XQ
      have qXQ := Bx.lt XQ
      have dXH : ∀ i, w7.cell? ⟨B6, i, none⟩ = _ := Bx.cell XH
      have eXH : ∀ i, w7.frozen? ⟨B6, i, none⟩ = false := Bx.frozen XH
      have qXH := Bx.lt XH
      go_wp2_with fail
      go_meet
      exact bW
  case rest =>
  have hst := hcut
  clear hcut
  obtain ⟨w4, hw_⟩ : ∃ w4, wc = w4 := ⟨_, rfl⟩
  rw [hw_] at hst
  rw [hw_]
  clear hw_
  replace Xm := Bx.step Xm hst
  replace Xv := Bx.step Xv hst
  replace Xl := Bx.step Xl hst
  replace Sm := Lib.hid (Sm.out.step hst)
  replace Sv := Lib.hid (Sv.out.step hst)
  replace b := bst b hst
  clear hst
  have dXm : ∀ i, w4.cell? ⟨w.heap.size, i, none⟩ = _ := Bx.cell Xm
  have eXm : ∀ i, w4.frozen? ⟨w.heap.size, i, none⟩ = false := Bx.frozen Xm
  have qXm := Bx.lt Xm
  have dXv : ∀ i, w4.cell? ⟨w.heap.size + 1, i, none⟩ = _ := Bx.cell Xv
  have eXv : ∀ i, w4.frozen? ⟨w.heap.size + 1, i, none⟩ = false := Bx.frozen Xv
  have qXv := Bx.lt Xv
  have dXl : ∀ i, w4.cell? ⟨w.heap.size + 1 + 1, i, none⟩ = _ := Bx.cell Xl
  have eXl : ∀ i, w4.frozen? ⟨w.heap.size + 1 + 1, i, none⟩ = false := Bx.frozen Xl
  have qXl := Bx.lt Xl
  go_wp2_with fail
  refine (racheck_any _ _ _ _ _ _ _ xsv 0 _ Sv.out HV.out).mono ?_
  rintro e w5 ⟨rfl, hst⟩
  clear dXm eXm qXm dXv eXv qXv dXl eXl qXl
  replace Xm := Bx.step Xm hst
  replace Xv := Bx.step Xv hst
  replace Xl := Bx.step Xl hst
  replace Sm := Lib.hid (Sm.out.step hst)
  replace Sv := Lib.hid (Sv.out.step hst)
  replace b : Below w.heap.size w w5 := bst b hst
  clear hst
  have dXm : ∀ i, w5.cell? ⟨w.heap.size, i, none⟩ = _ := Bx.cell Xm
  have eXm : ∀ i, w5.frozen? ⟨w.heap.size, i, none⟩ = false := Bx.frozen Xm
  have qXm := Bx.lt Xm
  have dXv : ∀ i, w5.cell? ⟨w.heap.size + 1, i, none⟩ = _ := Bx.cell Xv
  have eXv : ∀ i, w5.frozen? ⟨w.heap.size + 1, i, none⟩ = false := Bx.frozen Xv
  have qXv := Bx.lt Xv
  have dXl : ∀ i, w5.cell? ⟨w.heap.size + 1 + 1, i, none⟩ = _ := Bx.cell Xl
  have eXl : ∀ i, w5.frozen? ⟨w.heap.size + 1 + 1, i, none⟩ = false := Bx.frozen Xl
  have qXl := Bx.lt Xl
  go_wp2
  go_quiet (fail)
  obtain ⟨w6, hw_⟩ : ∃ w6, w5.drewN nq = w6 := ⟨_, rfl⟩
  rw [hw_]
  have hst : Below w5.heap.size w5 w6 := by rw [← hw_]; exact bdn (Below.refl _ _) _
  clear hw_
  clear dXm eXm qXm dXv eXv qXv dXl eXl qXl
  replace Xm := Bx.step Xm hst
  replace Xv := Bx.step Xv hst
  replace Xl := Bx.step Xl hst
  replace Sm := Lib.hid (Sm.out.step hst)
  replace Sv := Lib.hid (Sv.out.step hst)
  replace b := bst b hst
  clear hst
  have dXm : ∀ i, w6.cell? ⟨w.heap.size, i, none⟩ = _ := Bx.cell Xm
  have eXm : ∀ i, w6.frozen? ⟨w.heap.size, i, none⟩ = false := Bx.frozen Xm
  have qXm := Bx.lt Xm
  have dXv : ∀ i, w6.cell? ⟨w.heap.size + 1, i, none⟩ = _ := Bx.cell Xv
  have eXv : ∀ i, w6.frozen? ⟨w.heap.size + 1, i, none⟩ = false := Bx.frozen Xv
  have qXv := Bx.lt Xv
  have dXl : ∀ i, w6.cell? ⟨w.heap.size + 1 + 1, i, none⟩ = _ := Bx.cell Xl
  have eXl : ∀ i, w6.frozen? ⟨w.heap.size + 1 + 1, i, none⟩ = false := Bx.frozen Xl
  have qXl := Bx.lt Xl
  go_wp2_with fail
  clear dXm eXm qXm dXv eXv qXv dXl eXl qXl
  go_cut [13, 14] from 84 to 92 (fun p e wx => ∃ (B : Nat) (A : Option Addr) (n c : Nat), p = .pointer (some ⟨B, 0, none⟩) ∧ e = .int .i64 0 ∧ Below w6.heap.size w6 wx ∧ Hid (Bx wx B #[.int .i64 kv, .int .i64 2, .int .i64 (x : Int), .int .i64 (y : Int), .slice A n c] 25) ∧ Hid (Sl wx A n c gs) ∧ w6.heap.size ≤ B ∧ Hid (New w6 A) ∧ Hid (0 < n → ∀ b o, A = some ⟨b, o, none⟩ → b ≠ B))
  case first =>
    have hS : ∀ u, Below w6.heap.size w6 u → (∀ i, u.cell? ⟨w.heap.size + 1, i, none⟩ = #[.int .i64 kv, .int .i64 rv, .int .i64 uv, .int .i64 vv, .slice (some ⟨bv, ov, none⟩) nv cv][i]?) := fun u h => Bx.cell (Bx.step Xv h)
    have P0 : Below w6.heap.size w6 w6.drew := bdr (Below.refl _ _)
    have P1 : Below w6.heap.size w6 (w6.alloc (.cells #[.int .i64 0, .int .i64 0, .int .i64 0, .int .i64 0, .slice none 0 0] 25)).drew := bdr (bal (Below.refl _ _) _)
    have P2 : Below w6.heap.size w6 (w6.alloc (.cells #[.int .i64 (x : Int), .int .i64 (y : Int)] 2)).drew := bdr (bal (Below.refl _ _) _)
    have P3 : Below w6.heap.size w6 ((w6.alloc (.cells #[.int .i64 (x : Int), .int .i64 (y : Int)] 2)).alloc (.cells #[.int .i64 0, .int .i64 0, .int .i64 0, .int .i64 0, .slice none 0 0] 25)).drew := bdr (bal (bal (Below.refl _ _) _) _)
    have P4 : Below w6.heap.size w6 ((w6.alloc (.cells #[.int .i64 0, .int .i64 0, .int .i64 0, .int .i64 0, .slice none 0 0] 25)).alloc (.cells #[.int .i64 (x : Int), .int .i64 (y : Int)] 2)).drew := bdr (bal (bal (Below.refl _ _) _) _)
    have L2 := Lib.hid (show Sl (w6.alloc (.cells #[.int .i64 (x : Int), .int .i64 (y : Int)] 2)).drew (some ⟨w6.heap.size, 0, none⟩) 2 2 [(x : Int), (y : Int)] from slLit w6 _ 2 rfl (by omega))
    have L3 := Lib.hid (show Sl ((w6.alloc (.cells #[.int .i64 (x : Int), .int .i64 (y : Int)] 2)).alloc (.cells #[.int .i64 0, .int .i64 0, .int .i64 0, .int .i64 0, .slice none 0 0] 25)).drew (some ⟨w6.heap.size, 0, none⟩) 2 2 [(x : Int), (y : Int)] from Sl.step (w := w6.alloc (.cells #[.int .i64 (x : Int), .int .i64 (y : Int)] 2)) (slLit w6 _ 2 rfl (by omega)) (bdr (below1 _ _)))
    have h1_ : (w6.alloc (.cells #[.int .i64 0, .int .i64 0, .int .i64 0, .int .i64 0, .slice none 0 0] 25)).heap.size = w6.heap.size + 1 := by simp
    have h2_ : (w6.alloc (.cells #[.int .i64 (x : Int), .int .i64 (y : Int)] 2)).heap.size = w6.heap.size + 1 := by simp
    have L4 := Lib.hid (show Sl ((w6.alloc (.cells #[.int .i64 0, .int .i64 0, .int .i64 0, .int .i64 0, .slice none 0 0] 25)).alloc (.cells #[.int .i64 (x : Int), .int .i64 (y : Int)] 2)).drew (some ⟨w6.heap.size + 1, 0, none⟩) 2 2 [(x : Int), (y : Int)] by rw [← h1_]; exact slLit (w6.alloc (.cells #[.int .i64 0, .int .i64 0, .int .i64 0, .int .i64 0, .slice none 0 0] 25)) _ 2 rfl (by omega))
    have N3 : Bx ((w6.alloc (.cells #[.int .i64 (x : Int), .int .i64 (y : Int)] 2)).alloc (.cells #[.int .i64 0, .int .i64 0, .int .i64 0, .int .i64 0, .slice none 0 0] 25)).drew (w6.heap.size + 1) #[.int .i64 0, .int .i64 0, .int .i64 0, .int .i64 0, .slice none 0 0] 25 := by rw [← h2_]; exact Bx.new (w6.alloc (.cells #[.int .i64 (x : Int), .int .i64 (y : Int)] 2)) _ _
    have N4 : Bx ((w6.alloc (.cells #[.int .i64 0, .int .i64 0, .int .i64 0, .int .i64 0, .slice none 0 0] 25)).alloc (.cells #[.int .i64 (x : Int), .int .i64 (y : Int)] 2)).drew (w6.heap.size) #[.int .i64 0, .int .i64 0, .int .i64 0, .int .i64 0, .slice none 0 0] 25 := Bx.alloc (Bx.new w6 _ _) _
    clear h1_ h2_
    go_region_held3 (fun w' => (∀ i, w'.cell? ⟨w.heap.size + 1, i, none⟩ = #[.int .i64 kv, .int .i64 rv, .int .i64 uv, .int .i64 vv, .slice (some ⟨bv, ov, none⟩) nv cv][i]?))
      (with_reducible first | exact hS _ P0 | exact hS _ P1 | exact hS _ P2 | exact hS _ P3 | exact hS _ P4 | exact hS _ R1 | exact hS _ (bal R1 _) | exact hS _ R2 | exact hS _ (bal R2 _) | exact hS _ (below_set5' R2 (Nat.le_succ _) _ _ _ _ _) | exact hS _ (below_set5' R2 (Nat.le_refl _) _ _ _ _ _) | exact hS _ (below_set5' R2 R1.size _ _ _ _ _))
      (first
        | (go_at_call 35; (with_reducible first | refine (ints_any (some ⟨w6.heap.size, 0, none⟩) 2 2 [(x : Int), (y : Int)] ((w6.alloc (.cells #[.int .i64 (x : Int), .int .i64 (y : Int)] 2)).drew) L2.out (by omega)).mono ?_ | refine (ints_any (some ⟨w6.heap.size, 0, none⟩) 2 2 [(x : Int), (y : Int)] (((w6.alloc (.cells #[.int .i64 (x : Int), .int .i64 (y : Int)] 2)).alloc (.cells #[.int .i64 0, .int .i64 0, .int .i64 0, .int .i64 0, .slice none 0 0] 25)).drew) L3.out (by omega)).mono ?_ | refine (ints_any (some ⟨w6.heap.size + 1, 0, none⟩) 2 2 [(x : Int), (y : Int)] (((w6.alloc (.cells #[.int .i64 0, .int .i64 0, .int .i64 0, .int .i64 0, .slice none 0 0] 25)).alloc (.cells #[.int .i64 (x : Int), .int .i64 (y : Int)] 2)).drew) L4.out (by omega)).mono ?_); rintro e y1 ⟨⟨Ay1, ny1, cy1, rfl, hSy, hNy⟩, hb_⟩; have R1 : Below w6.heap.size w6 y1 := (by with_reducible first | exact bst P2 hb_ | exact bst P3 hb_ | exact bst P4 hb_); have ss1 := R1.size; have O1 : Below y1.heap.size y1 (y1.alloc (.cells #[.int .i64 0, .int .i64 0, .int .i64 0, .int .i64 0, .slice none 0 0] 25)) := below1 _ _; have NO1 : Bx (y1.alloc (.cells #[.int .i64 0, .int .i64 0, .int .i64 0, .int .i64 0, .slice none 0 0] 25)) (y1.heap.size) #[.int .i64 0, .int .i64 0, .int .i64 0, .int .i64 0, .slice none 0 0] 25 := Bx.new y1 _ _; have QSv := Lib.hid (Sv.out.step R1); have T1 := Lib.hid hSy; clear hSy; (try (have M3 : Bx y1 (w6.heap.size + 1) #[.int .i64 0, .int .i64 0, .int .i64 0, .int .i64 0, .slice none 0 0] 25 := (by with_reducible exact Bx.step N3 hb_))); (try (have M4 : Bx y1 (w6.heap.size) #[.int .i64 0, .int .i64 0, .int .i64 0, .int .i64 0, .slice none 0 0] 25 := (by with_reducible exact Bx.step N4 hb_))); (try (have LM3 := Bx.lt M3)); (try (have LM4 := Bx.lt M4)))
        | (go_at_call 20; (with_reducible first | refine (mGrid_any _ _ _ _ _ _ _ [(x : Int), (y : Int)] _ _ _ _ _ _ _ xsv (⟨kv, 2, (x : Int), (y : Int), gs⟩, 0) y1 T1.out QSv.out HG.out).mono ?_ | refine (mGrid_any _ _ _ _ _ _ _ [(x : Int), (y : Int)] _ _ _ _ _ _ _ xsv (⟨kv, 2, (x : Int), (y : Int), gs⟩, 0) _ (T1.out.step O1) (QSv.out.step O1) HG.out).mono ?_); intro e y2 hR_; obtain ⟨Ay2, ny2, cy2, rfl, hSy, hNy, hb_⟩ := RetA.flat hR_; have R2 : Below w6.heap.size w6 y2 := (by with_reducible first | exact bst R1 hb_ | exact bst (bal R1 _) hb_); have ss2 := R2.size; have O2 : Below y2.heap.size y2 (y2.alloc (.cells #[.int .i64 0, .int .i64 0, .int .i64 0, .int .i64 0, .slice none 0 0] 25)) := below1 _ _; have NO2 : Bx (y2.alloc (.cells #[.int .i64 0, .int .i64 0, .int .i64 0, .int .i64 0, .slice none 0 0] 25)) (y2.heap.size) #[.int .i64 0, .int .i64 0, .int .i64 0, .int .i64 0, .slice none 0 0] 25 := Bx.new y2 _ _; have step_ : Below y1.heap.size y1 y2 := (by with_reducible first | exact hb_ | exact bst O1 hb_); have QSv := Lib.hid (Sv.out.step R2); have T1 := Lib.hid (T1.out.step step_); (try (have M3 : Bx y2 (w6.heap.size + 1) #[.int .i64 0, .int .i64 0, .int .i64 0, .int .i64 0, .slice none 0 0] 25 := (by with_reducible exact Bx.step M3 hb_))); (try (have M4 : Bx y2 (w6.heap.size) #[.int .i64 0, .int .i64 0, .int .i64 0, .int .i64 0, .slice none 0 0] 25 := (by with_reducible exact Bx.step M4 hb_))); (try (have K1 : Bx y2 (y1.heap.size) #[.int .i64 0, .int .i64 0, .int .i64 0, .int .i64 0, .slice none 0 0] 25 := (by with_reducible exact Bx.step NO1 hb_))); (first | (have gB : ∀ i, y2.cell? ⟨(w6.heap.size + 1), i, none⟩ = _ := Bx.cell M3; have kB : ∀ i, y2.frozen? ⟨(w6.heap.size + 1), i, none⟩ = false := Bx.frozen M3) | (have gB : ∀ i, y2.cell? ⟨(w6.heap.size), i, none⟩ = _ := Bx.cell M4; have kB : ∀ i, y2.frozen? ⟨(w6.heap.size), i, none⟩ = false := Bx.frozen M4) | (have gB : ∀ i, y2.cell? ⟨(y1.heap.size), i, none⟩ = _ := Bx.cell K1; have kB : ∀ i, y2.frozen? ⟨(y1.heap.size), i, none⟩ = false := Bx.frozen K1) | skip)))
    all_goals go_wp2_with fail
    all_goals go_meet
    · exact ⟨y2.heap.size, Ay2, ny2, cy2, rfl, rfl, bal R2 _, Lib.hid (Bx.new y2 _ _), Lib.hid (hSy.step (below1 _ _)), R2.size, Lib.hid (hNy.mono ss1), Lib.hid (hSy.ne_lo (Nat.le_refl _))⟩
    · exact ⟨(y1.heap.size), Ay2, ny2, cy2, rfl, rfl, below_set5' R2 R1.size _ _ _ _ _, Lib.hid (Bx.set5 K1 _ _ _ _ _), Lib.hid (hSy.past5 _ _ _ _ _ fun b o e => by have h_ := hNy b o none e; rw [World.size_alloc] at h_; omega), R1.size, Lib.hid (hNy.mono (by rw [World.size_alloc]; omega)), Lib.hid (fun _ b o e => by have h_ := hNy b o none e; rw [World.size_alloc] at h_; omega)⟩
    · exact ⟨(w6.heap.size + 1), Ay2, ny2, cy2, rfl, rfl, below_set5' R2 (Nat.le_succ _) _ _ _ _ _, Lib.hid (Bx.set5 M3 _ _ _ _ _), Lib.hid (hSy.past5 _ _ _ _ _ fun b o e => by have h_ := hNy b o none e; have l_ := LM3; omega), (Nat.le_succ _), Lib.hid (hNy.mono ss1), Lib.hid (fun _ b o e => by have h_ := hNy b o none e; have l_ := LM3; omega)⟩
    · exact ⟨(w6.heap.size), Ay2, ny2, cy2, rfl, rfl, below_set5' R2 (Nat.le_refl _) _ _ _ _ _, Lib.hid (Bx.set5 M4 _ _ _ _ _), Lib.hid (hSy.past5 _ _ _ _ _ fun b o e => by have h_ := hNy b o none e; have l_ := LM4; omega), (Nat.le_refl _), Lib.hid (hNy.mono ss1), Lib.hid (fun _ b o e => by have h_ := hNy b o none e; have l_ := LM4; omega)⟩
  case rest =>
  obtain ⟨B7, A7, n7, c7, rfl, rfl, hst, HX_, HS_, hB7, NSG, ne_SG_XG⟩ := hcut
  obtain ⟨w7, hw7⟩ : ∃ w7, wc = w7 := ⟨_, rfl⟩
  rw [hw7] at hst HX_ HS_
  rw [hw7]
  clear hw7
  replace Xm := Bx.step Xm hst
  replace Xv := Bx.step Xv hst
  replace Xl := Bx.step Xl hst
  replace Sm := Lib.hid (Sm.out.step hst)
  replace Sv := Lib.hid (Sv.out.step hst)
  replace b := bst b hst
  have XG := HX_.out
  have SG := HS_
  clear hst HX_ HS_
  have dXm : ∀ i, w7.cell? ⟨w.heap.size, i, none⟩ = _ := Bx.cell Xm
  have eXm : ∀ i, w7.frozen? ⟨w.heap.size, i, none⟩ = false := Bx.frozen Xm
  have qXm := Bx.lt Xm
  have dXv : ∀ i, w7.cell? ⟨w.heap.size + 1, i, none⟩ = _ := Bx.cell Xv
  have eXv : ∀ i, w7.frozen? ⟨w.heap.size + 1, i, none⟩ = false := Bx.frozen Xv
  have qXv := Bx.lt Xv
  have dXl : ∀ i, w7.cell? ⟨w.heap.size + 1 + 1, i, none⟩ = _ := Bx.cell Xl
  have eXl : ∀ i, w7.frozen? ⟨w.heap.size + 1 + 1, i, none⟩ = false := Bx.frozen Xl
  have qXl := Bx.lt Xl
  have dXG : ∀ i, w7.cell? ⟨B7, i, none⟩ = _ := Bx.cell XG
  have eXG : ∀ i, w7.frozen? ⟨B7, i, none⟩ = false := Bx.frozen XG
  have qXG := Bx.lt XG
  go_wp2_with fail
  refine (mRavel_any _ _ _ _ _ _ _ gs (⟨kv, 1, (N : Int), 0, gs⟩, 0) _ SG.out HR.out).mono ?_
  intro e w8 hR
  obtain ⟨A8, n8, c8, rfl, hS8, hN8, hst⟩ := RetA.flat hR
  clear hR
  clear dXm eXm qXm dXv eXv qXv dXl eXl qXl dXG eXG qXG
  replace Xm := Bx.step Xm hst
  replace Xv := Bx.step Xv hst
  replace Xl := Bx.step Xl hst
  replace XG := Bx.step XG hst
  replace Sm := Lib.hid (Sm.out.step hst)
  replace Sv := Lib.hid (Sv.out.step hst)
  replace SG := Lib.hid (SG.out.step hst)
  replace b : Below w.heap.size w w8 := bst b hst
  clear hst
  have SR := Lib.hid hS8
  have NSR := Lib.hid hN8
  clear hS8 hN8
  obtain rfl : n8 = N := SR.out.len.symm.trans HLN.out
  have dXm : ∀ i, w8.cell? ⟨w.heap.size, i, none⟩ = _ := Bx.cell Xm
  have eXm : ∀ i, w8.frozen? ⟨w.heap.size, i, none⟩ = false := Bx.frozen Xm
  have qXm := Bx.lt Xm
  have dXv : ∀ i, w8.cell? ⟨w.heap.size + 1, i, none⟩ = _ := Bx.cell Xv
  have eXv : ∀ i, w8.frozen? ⟨w.heap.size + 1, i, none⟩ = false := Bx.frozen Xv
  have qXv := Bx.lt Xv
  have dXl : ∀ i, w8.cell? ⟨w.heap.size + 1 + 1, i, none⟩ = _ := Bx.cell Xl
  have eXl : ∀ i, w8.frozen? ⟨w.heap.size + 1 + 1, i, none⟩ = false := Bx.frozen Xl
  have qXl := Bx.lt Xl
  have dXG : ∀ i, w8.cell? ⟨B7, i, none⟩ = _ := Bx.cell XG
  have eXG : ∀ i, w8.frozen? ⟨B7, i, none⟩ = false := Bx.frozen XG
  have qXG := Bx.lt XG
  go_wp2
  have XR := Bx.new w8 #[.int .i64 kv, .int .i64 1, .int .i64 (n8 : Int), .int .i64 0, .slice A8 n8 c8] 25
  have hst := below1 w8 (.cells #[.int .i64 kv, .int .i64 1, .int .i64 (n8 : Int), .int .i64 0, .slice A8 n8 c8] 25)
  obtain ⟨w9, hw_⟩ : ∃ w9, w8.alloc (.cells #[.int .i64 kv, .int .i64 1, .int .i64 (n8 : Int), .int .i64 0, .slice A8 n8 c8] 25) = w9 := ⟨_, rfl⟩
  rw [hw_] at XR hst
  rw [hw_]
  clear hw_
  clear dXm eXm qXm dXv eXv qXv dXl eXl qXl dXG eXG qXG
  replace Xm := Bx.step Xm hst
  replace Xv := Bx.step Xv hst
  replace Xl := Bx.step Xl hst
  replace XG := Bx.step XG hst
  replace Sm := Lib.hid (Sm.out.step hst)
  replace Sv := Lib.hid (Sv.out.step hst)
  replace SG := Lib.hid (SG.out.step hst)
  replace SR := Lib.hid (SR.out.step hst)
  replace b := bst b hst
  clear hst
  go_loopw [17] (fun i wr => ∃ j : Nat, j ≤ n8 ∧ i = .int .i64 j ∧ Below w9.heap.size w9 wr) (fun i _ => n8 - (intOf i).toNat)
  case atStart => exact ⟨0, Nat.zero_le _, rfl, Below.refl _ _⟩
  case round =>
    obtain ⟨j, hj, rfl, hbr⟩ := hrel
    replace Xm := Bx.step Xm hbr
    replace Xv := Bx.step Xv hbr
    replace Xl := Bx.step Xl hbr
    replace XG := Bx.step XG hbr
    replace XR := Bx.step XR hbr
    replace Sm := Lib.hid (Sm.out.step hbr)
    replace Sv := Lib.hid (Sv.out.step hbr)
    replace SG := Lib.hid (SG.out.step hbr)
    replace SR := Lib.hid (SR.out.step hbr)
    replace b := bst b hbr
    have dXm : ∀ i, wr.cell? ⟨w.heap.size, i, none⟩ = _ := Bx.cell Xm
    have eXm : ∀ i, wr.frozen? ⟨w.heap.size, i, none⟩ = false := Bx.frozen Xm
    have qXm := Bx.lt Xm
    have dXv : ∀ i, wr.cell? ⟨w.heap.size + 1, i, none⟩ = _ := Bx.cell Xv
    have eXv : ∀ i, wr.frozen? ⟨w.heap.size + 1, i, none⟩ = false := Bx.frozen Xv
    have qXv := Bx.lt Xv
    have dXl : ∀ i, wr.cell? ⟨w.heap.size + 1 + 1, i, none⟩ = _ := Bx.cell Xl
    have eXl : ∀ i, wr.frozen? ⟨w.heap.size + 1 + 1, i, none⟩ = false := Bx.frozen Xl
    have qXl := Bx.lt Xl
    have dXG : ∀ i, wr.cell? ⟨B7, i, none⟩ = _ := Bx.cell XG
    have eXG : ∀ i, wr.frozen? ⟨B7, i, none⟩ = false := Bx.frozen XG
    have qXG := Bx.lt XG
    have dXR : ∀ i, wr.cell? ⟨w8.heap.size, i, none⟩ = _ := Bx.cell XR
    have eXR : ∀ i, wr.frozen? ⟨w8.heap.size, i, none⟩ = false := Bx.frozen XR
    have qXR := Bx.lt XR
    by_cases hlt : j < n8
    · have j1 : (j : Int) < (n8 : Int) := by omega
      obtain ⟨br, or_, rfl, hbr2, hcr⟩ := SR.out.at_ (k := j) hlt
      obtain ⟨y0, hy0⟩ : ∃ y0, gs.getD j 0 = y0 := ⟨_, rfl⟩
      obtain ⟨q, hq⟩ : ∃ q, q = j % nv := ⟨_, rfl⟩
      have hqn : q < nv := by rw [hq]; exact Nat.mod_lt _ hnv
      have hrem : Int.tmod (j : Int) (nv : Int) = (q : Int) := by rw [hq]; rfl
      have hcv := Sv.out.cells q hqn
      have hgs := HGS.out j hlt
      rw [hy0, ← hq] at hgs
      rw [hy0] at hcr
      rw [← hgs] at hcv
      have q0 : (0 : Int) ≤ (q : Int) := by omega
      have q1 : (q : Int) < (nv : Int) := by omega
      clear hq hy0 hgs
      go_wp2
      go_quiet (fail)
      go_wp2
      exact ⟨⟨j + 1, by omega, rfl, bdn hbr _⟩, by simp only [intOf]; omega⟩
    · obtain rfl : n8 = j := by omega
      go_wp2_with fail
      have hbw : bv < wr.heap.size := Nat.lt_of_lt_of_le hbl b.size
      have hcw : wr.cell? ⟨bv, ov, none⟩ = some (.int .i64 hv) := (b.cell (p := ⟨bv, ov, none⟩) hbl).trans HC0.out
      have S1 : Hid (Sl wr (some ⟨bv, ov, none⟩) 1 cv [hv]) := by
        have h1 := Sv.out.to (q := 1) hnv
        rw [show xsv.take 1 = [hv] from take_one (by rw [Sv.out.len]; exact hnv) Hhv.out] at h1
        exact Lib.hid h1
      clear dXm eXm qXm dXv eXv qXv dXl eXl qXl dXG eXG qXG dXR eXR qXR
      go_cut [18] from 180 to 186 (fun p wx => ∃ (B : Nat) (A : Option Addr) (n c : Nat), p = .pointer (some ⟨B, 0, none⟩) ∧ Below wr.heap.size wr wx ∧ Hid (Bx wx B #[.int .i64 kv, .int .i64 0, .int .i64 0, .int .i64 0, .slice A n c] 25) ∧ Hid (Sl wx A n c [hv]) ∧ wr.heap.size ≤ B ∧ Hid (New wr A) ∧ Hid (0 < n → ∀ b o, A = some ⟨b, o, none⟩ → b ≠ B))
      case first =>
        have hS : ∀ u, Below wr.heap.size wr u → (∀ i, u.cell? ⟨w.heap.size + 1, i, none⟩ = #[.int .i64 kv, .int .i64 rv, .int .i64 uv, .int .i64 vv, .slice (some ⟨bv, ov, none⟩) nv cv][i]?) ∧ (u.cell? ⟨bv, ov, none⟩ = some (.int .i64 hv)) := fun u h => ⟨Bx.cell (Bx.step Xv h), (h.cell (p := ⟨bv, ov, none⟩) hbw).trans hcw⟩
        have P0 : Below wr.heap.size wr wr.drew := bdr (Below.refl _ _)
        have P1 : Below wr.heap.size wr (wr.alloc (.cells #[.int .i64 0, .int .i64 0, .int .i64 0, .int .i64 0, .slice none 0 0] 25)).drew := bdr (bal (Below.refl _ _) _)
        have N1 : Bx (wr.alloc (.cells #[.int .i64 0, .int .i64 0, .int .i64 0, .int .i64 0, .slice none 0 0] 25)).drew (wr.heap.size) #[.int .i64 0, .int .i64 0, .int .i64 0, .int .i64 0, .slice none 0 0] 25 := Bx.new wr _ _
        go_region_held3 (fun w' => (∀ i, w'.cell? ⟨w.heap.size + 1, i, none⟩ = #[.int .i64 kv, .int .i64 rv, .int .i64 uv, .int .i64 vv, .slice (some ⟨bv, ov, none⟩) nv cv][i]?) ∧ (w'.cell? ⟨bv, ov, none⟩ = some (.int .i64 hv)))
          (with_reducible first | exact hS _ P0 | exact hS _ P1 | exact hS _ R1 | exact hS _ (bal R1 _) | exact hS _ (below_set5' R1 (Nat.le_refl _) _ _ _ _ _))
          (first
            | (go_at_call 36; (with_reducible first | refine (rScalar_any kv hv (wr.drew)).mono ?_ | refine (rScalar_any kv hv ((wr.alloc (.cells #[.int .i64 0, .int .i64 0, .int .i64 0, .int .i64 0, .slice none 0 0] 25)).drew)).mono ?_); rintro e y1 ⟨⟨Ay1, ny1, cy1, rfl, hSy, hNy⟩, hb_⟩; have R1 : Below wr.heap.size wr y1 := (by with_reducible first | exact bst P0 hb_ | exact bst P1 hb_); have ss1 := R1.size; have O1 : Below y1.heap.size y1 (y1.alloc (.cells #[.int .i64 0, .int .i64 0, .int .i64 0, .int .i64 0, .slice none 0 0] 25)) := below1 _ _; have NO1 : Bx (y1.alloc (.cells #[.int .i64 0, .int .i64 0, .int .i64 0, .int .i64 0, .slice none 0 0] 25)) (y1.heap.size) #[.int .i64 0, .int .i64 0, .int .i64 0, .int .i64 0, .slice none 0 0] 25 := Bx.new y1 _ _; (try (have M1 : Bx y1 (wr.heap.size) #[.int .i64 0, .int .i64 0, .int .i64 0, .int .i64 0, .slice none 0 0] 25 := (by with_reducible exact Bx.step N1 hb_))); (first | (have gB : ∀ i, y1.cell? ⟨(wr.heap.size), i, none⟩ = _ := Bx.cell M1; have kB : ∀ i, y1.frozen? ⟨(wr.heap.size), i, none⟩ = false := Bx.frozen M1) | skip)))
        all_goals go_wp2_with fail
        all_goals go_meet
        · exact ⟨y1.heap.size, Ay1, ny1, cy1, rfl, bal R1 _, Lib.hid (Bx.new y1 _ _), Lib.hid (hSy.step (below1 _ _)), R1.size, Lib.hid (hNy.mono P0.size), Lib.hid (hSy.ne_lo (Nat.le_refl _))⟩
        · exact ⟨(wr.heap.size), Ay1, ny1, cy1, rfl, below_set5' R1 (Nat.le_refl _) _ _ _ _ _, Lib.hid (Bx.set5 M1 _ _ _ _ _), Lib.hid (hSy.past5 _ _ _ _ _ fun b o e => by have h_ := hNy b o none e; have l_ := N1.lt; omega), (Nat.le_refl _), Lib.hid (hNy.mono P1.size), Lib.hid (fun _ b o e => by have h_ := hNy b o none e; have l_ := N1.lt; omega)⟩
      case rest =>
      obtain ⟨B10, A10, n10, c10, rfl, hst, HX_, HS_, hB10, NSS, ne_SS_XS⟩ := hcut
      obtain ⟨w10, hw10⟩ : ∃ w10, wc = w10 := ⟨_, rfl⟩
      rw [hw10] at hst HX_ HS_
      rw [hw10]
      clear hw10
      replace Xm := Bx.step Xm hst
      replace Xv := Bx.step Xv hst
      replace Xl := Bx.step Xl hst
      replace XG := Bx.step XG hst
      replace XR := Bx.step XR hst
      replace Sm := Lib.hid (Sm.out.step hst)
      replace Sv := Lib.hid (Sv.out.step hst)
      replace SG := Lib.hid (SG.out.step hst)
      replace SR := Lib.hid (SR.out.step hst)
      replace S1 := Lib.hid (S1.out.step hst)
      replace b := bst b hst
      have XS := HX_.out
      have SS := HS_
      clear hst HX_ HS_
      have dXm : ∀ i, w10.cell? ⟨w.heap.size, i, none⟩ = _ := Bx.cell Xm
      have eXm : ∀ i, w10.frozen? ⟨w.heap.size, i, none⟩ = false := Bx.frozen Xm
      have qXm := Bx.lt Xm
      have dXv : ∀ i, w10.cell? ⟨w.heap.size + 1, i, none⟩ = _ := Bx.cell Xv
      have eXv : ∀ i, w10.frozen? ⟨w.heap.size + 1, i, none⟩ = false := Bx.frozen Xv
      have qXv := Bx.lt Xv
      have dXl : ∀ i, w10.cell? ⟨w.heap.size + 1 + 1, i, none⟩ = _ := Bx.cell Xl
      have eXl : ∀ i, w10.frozen? ⟨w.heap.size + 1 + 1, i, none⟩ = false := Bx.frozen Xl
      have qXl := Bx.lt Xl
      have dXG : ∀ i, w10.cell? ⟨B7, i, none⟩ = _ := Bx.cell XG
      have eXG : ∀ i, w10.frozen? ⟨B7, i, none⟩ = false := Bx.frozen XG
      have qXG := Bx.lt XG
      have dXR : ∀ i, w10.cell? ⟨w8.heap.size, i, none⟩ = _ := Bx.cell XR
      have eXR : ∀ i, w10.frozen? ⟨w8.heap.size, i, none⟩ = false := Bx.frozen XR
      have qXR := Bx.lt XR
      have dXS : ∀ i, w10.cell? ⟨B10, i, none⟩ = _ := Bx.cell XS
      have eXS : ∀ i, w10.frozen? ⟨B10, i, none⟩ = false := Bx.frozen XS
      have qXS := Bx.lt XS
      go_wp2_with fail
      clear dXm eXm qXm dXv eXv qXv dXl eXl qXl dXG eXG qXG dXR eXR qXR dXS eXS qXS
      go_cut [19, 20] from 187 to 193 (fun p e wx => ∃ (B : Nat) (A : Option Addr) (n c : Nat), p = .pointer (some ⟨B, 0, none⟩) ∧ e = .int .i64 0 ∧ Below w10.heap.size w10 wx ∧ Hid (Bx wx B #[.int .i64 kv, .int .i64 1, .int .i64 (y : Int), .int .i64 0, .slice A n c] 25) ∧ Hid (Sl wx A n c fs) ∧ w10.heap.size ≤ B ∧ Hid (New w10 A) ∧ Hid (0 < n → ∀ b o, A = some ⟨b, o, none⟩ → b ≠ B))
      case first =>
        have hS : ∀ u, Below w10.heap.size w10 u → (∀ i, u.cell? ⟨B10, i, none⟩ = #[.int .i64 kv, .int .i64 0, .int .i64 0, .int .i64 0, .slice A10 n10 c10][i]?) := fun u h => Bx.cell (Bx.step XS h)
        have P0 : Below w10.heap.size w10 w10.drew := bdr (Below.refl _ _)
        have P1 : Below w10.heap.size w10 (w10.alloc (.cells #[.int .i64 0, .int .i64 0, .int .i64 0, .int .i64 0, .slice none 0 0] 25)).drew := bdr (bal (Below.refl _ _) _)
        have N1 : Bx (w10.alloc (.cells #[.int .i64 0, .int .i64 0, .int .i64 0, .int .i64 0, .slice none 0 0] 25)).drew (w10.heap.size) #[.int .i64 0, .int .i64 0, .int .i64 0, .int .i64 0, .slice none 0 0] 25 := Bx.new w10 _ _
        go_region_held3 (fun w' => (∀ i, w'.cell? ⟨B10, i, none⟩ = #[.int .i64 kv, .int .i64 0, .int .i64 0, .int .i64 0, .slice A10 n10 c10][i]?))
          (with_reducible first | exact hS _ P0 | exact hS _ P1 | exact hS _ R1 | exact hS _ (bal R1 _) | exact hS _ R2 | exact hS _ (bal R2 _) | exact hS _ (below_set5' R2 (Nat.le_refl _) _ _ _ _ _) | exact hS _ (below_set5' R2 R1.size _ _ _ _ _))
          (first
            | (go_at_call 30; (with_reducible first | refine (int_any (y : Int) (w10.drew)).mono ?_ | refine (int_any (y : Int) ((w10.alloc (.cells #[.int .i64 0, .int .i64 0, .int .i64 0, .int .i64 0, .slice none 0 0] 25)).drew)).mono ?_); rintro e y1 ⟨⟨Ay1, ny1, cy1, rfl, hSy, hNy⟩, hb_⟩; have R1 : Below w10.heap.size w10 y1 := (by with_reducible first | exact bst P0 hb_ | exact bst P1 hb_); have ss1 := R1.size; have O1 : Below y1.heap.size y1 (y1.alloc (.cells #[.int .i64 0, .int .i64 0, .int .i64 0, .int .i64 0, .slice none 0 0] 25)) := below1 _ _; have NO1 : Bx (y1.alloc (.cells #[.int .i64 0, .int .i64 0, .int .i64 0, .int .i64 0, .slice none 0 0] 25)) (y1.heap.size) #[.int .i64 0, .int .i64 0, .int .i64 0, .int .i64 0, .slice none 0 0] 25 := Bx.new y1 _ _; have QSS := Lib.hid (SS.out.step R1); have T1 := Lib.hid hSy; clear hSy; (try (have M1 : Bx y1 (w10.heap.size) #[.int .i64 0, .int .i64 0, .int .i64 0, .int .i64 0, .slice none 0 0] 25 := (by with_reducible exact Bx.step N1 hb_))); (try (have LM1 := Bx.lt M1)))
            | (go_at_call 18; (with_reducible first | refine (mFill_any _ _ _ _ _ _ _ [(y : Int)] _ _ _ _ _ _ _ [hv] (⟨kv, 1, (y : Int), 0, fs⟩, 0) y1 T1.out QSS.out HYB.out HF.out).mono ?_ | refine (mFill_any _ _ _ _ _ _ _ [(y : Int)] _ _ _ _ _ _ _ [hv] (⟨kv, 1, (y : Int), 0, fs⟩, 0) _ (T1.out.step O1) (QSS.out.step O1) HYB.out HF.out).mono ?_); intro e y2 hR_; obtain ⟨Ay2, ny2, cy2, rfl, hSy, hNy, hb_⟩ := RetA.flat hR_; have R2 : Below w10.heap.size w10 y2 := (by with_reducible first | exact bst R1 hb_ | exact bst (bal R1 _) hb_); have ss2 := R2.size; have O2 : Below y2.heap.size y2 (y2.alloc (.cells #[.int .i64 0, .int .i64 0, .int .i64 0, .int .i64 0, .slice none 0 0] 25)) := below1 _ _; have NO2 : Bx (y2.alloc (.cells #[.int .i64 0, .int .i64 0, .int .i64 0, .int .i64 0, .slice none 0 0] 25)) (y2.heap.size) #[.int .i64 0, .int .i64 0, .int .i64 0, .int .i64 0, .slice none 0 0] 25 := Bx.new y2 _ _; have step_ : Below y1.heap.size y1 y2 := (by with_reducible first | exact hb_ | exact bst O1 hb_); have QSS := Lib.hid (SS.out.step R2); have T1 := Lib.hid (T1.out.step step_); (try (have M1 : Bx y2 (w10.heap.size) #[.int .i64 0, .int .i64 0, .int .i64 0, .int .i64 0, .slice none 0 0] 25 := (by with_reducible exact Bx.step M1 hb_))); (try (have K1 : Bx y2 (y1.heap.size) #[.int .i64 0, .int .i64 0, .int .i64 0, .int .i64 0, .slice none 0 0] 25 := (by with_reducible exact Bx.step NO1 hb_))); (first | (have gB : ∀ i, y2.cell? ⟨(w10.heap.size), i, none⟩ = _ := Bx.cell M1; have kB : ∀ i, y2.frozen? ⟨(w10.heap.size), i, none⟩ = false := Bx.frozen M1) | (have gB : ∀ i, y2.cell? ⟨(y1.heap.size), i, none⟩ = _ := Bx.cell K1; have kB : ∀ i, y2.frozen? ⟨(y1.heap.size), i, none⟩ = false := Bx.frozen K1) | skip)))
        all_goals go_wp2_with fail
        all_goals go_meet
        · exact ⟨y2.heap.size, Ay2, ny2, cy2, rfl, rfl, bal R2 _, Lib.hid (Bx.new y2 _ _), Lib.hid (hSy.step (below1 _ _)), R2.size, Lib.hid (hNy.mono ss1), Lib.hid (hSy.ne_lo (Nat.le_refl _))⟩
        · exact ⟨(y1.heap.size), Ay2, ny2, cy2, rfl, rfl, below_set5' R2 R1.size _ _ _ _ _, Lib.hid (Bx.set5 K1 _ _ _ _ _), Lib.hid (hSy.past5 _ _ _ _ _ fun b o e => by have h_ := hNy b o none e; rw [World.size_alloc] at h_; omega), R1.size, Lib.hid (hNy.mono (by rw [World.size_alloc]; omega)), Lib.hid (fun _ b o e => by have h_ := hNy b o none e; rw [World.size_alloc] at h_; omega)⟩
        · exact ⟨(w10.heap.size), Ay2, ny2, cy2, rfl, rfl, below_set5' R2 (Nat.le_refl _) _ _ _ _ _, Lib.hid (Bx.set5 M1 _ _ _ _ _), Lib.hid (hSy.past5 _ _ _ _ _ fun b o e => by have h_ := hNy b o none e; have l_ := LM1; omega), (Nat.le_refl _), Lib.hid (hNy.mono ss1), Lib.hid (fun _ b o e => by have h_ := hNy b o none e; have l_ := LM1; omega)⟩
      case rest =>
      obtain ⟨B11, A11, n11, c11, rfl, rfl, hst, HX_, HS_, hB11, NSF, ne_SF_XF⟩ := hcut
      obtain ⟨w11, hw11⟩ : ∃ w11, wc = w11 := ⟨_, rfl⟩
      rw [hw11] at hst HX_ HS_
      rw [hw11]
      clear hw11
      replace Xm := Bx.step Xm hst
      replace Xv := Bx.step Xv hst
      replace Xl := Bx.step Xl hst
      replace XG := Bx.step XG hst
      replace XR := Bx.step XR hst
      replace XS := Bx.step XS hst
      replace Sm := Lib.hid (Sm.out.step hst)
      replace Sv := Lib.hid (Sv.out.step hst)
      replace SG := Lib.hid (SG.out.step hst)
      replace SR := Lib.hid (SR.out.step hst)
      replace S1 := Lib.hid (S1.out.step hst)
      replace SS := Lib.hid (SS.out.step hst)
      replace b := bst b hst
      have XF := HX_.out
      have SF := HS_
      clear hst HX_ HS_
      have dXm : ∀ i, w11.cell? ⟨w.heap.size, i, none⟩ = _ := Bx.cell Xm
      have eXm : ∀ i, w11.frozen? ⟨w.heap.size, i, none⟩ = false := Bx.frozen Xm
      have qXm := Bx.lt Xm
      have dXv : ∀ i, w11.cell? ⟨w.heap.size + 1, i, none⟩ = _ := Bx.cell Xv
      have eXv : ∀ i, w11.frozen? ⟨w.heap.size + 1, i, none⟩ = false := Bx.frozen Xv
      have qXv := Bx.lt Xv
      have dXl : ∀ i, w11.cell? ⟨w.heap.size + 1 + 1, i, none⟩ = _ := Bx.cell Xl
      have eXl : ∀ i, w11.frozen? ⟨w.heap.size + 1 + 1, i, none⟩ = false := Bx.frozen Xl
      have qXl := Bx.lt Xl
      have dXG : ∀ i, w11.cell? ⟨B7, i, none⟩ = _ := Bx.cell XG
      have eXG : ∀ i, w11.frozen? ⟨B7, i, none⟩ = false := Bx.frozen XG
      have qXG := Bx.lt XG
      have dXR : ∀ i, w11.cell? ⟨w8.heap.size, i, none⟩ = _ := Bx.cell XR
      have eXR : ∀ i, w11.frozen? ⟨w8.heap.size, i, none⟩ = false := Bx.frozen XR
      have qXR := Bx.lt XR
      have dXS : ∀ i, w11.cell? ⟨B10, i, none⟩ = _ := Bx.cell XS
      have eXS : ∀ i, w11.frozen? ⟨B10, i, none⟩ = false := Bx.frozen XS
      have qXS := Bx.lt XS
      have dXF : ∀ i, w11.cell? ⟨B11, i, none⟩ = _ := Bx.cell XF
      have eXF : ∀ i, w11.frozen? ⟨B11, i, none⟩ = false := Bx.frozen XF
      have qXF := Bx.lt XF
      go_wp2_with fail
      clear dXm eXm qXm dXv eXv qXv dXl eXl qXl dXG eXG qXG dXR eXR qXR dXS eXS qXS dXF eXF qXF
      go_cut [21, 22] from 194 to 206 (fun p e wx => ∃ (B : Nat) (A : Option Addr) (n c : Nat), p = .pointer (some ⟨B, 0, none⟩) ∧ e = .int .i64 0 ∧ Below w11.heap.size w11 wx ∧ Hid (Bx wx B #[.int .i64 kv, .int .i64 2, .int .i64 1, .int .i64 (y : Int), .slice A n c] 25) ∧ Hid (Sl wx A n c fs) ∧ w11.heap.size ≤ B ∧ Hid (New w11 A) ∧ Hid (0 < n → ∀ b o, A = some ⟨b, o, none⟩ → b ≠ B))
      case first =>
        have hS : ∀ u, Below w11.heap.size w11 u → (∀ i, u.cell? ⟨w.heap.size + 1, i, none⟩ = #[.int .i64 kv, .int .i64 rv, .int .i64 uv, .int .i64 vv, .slice (some ⟨bv, ov, none⟩) nv cv][i]?) := fun u h => Bx.cell (Bx.step Xv h)
        have P0 : Below w11.heap.size w11 w11.drew := bdr (Below.refl _ _)
        have P1 : Below w11.heap.size w11 (w11.alloc (.cells #[.int .i64 0, .int .i64 0, .int .i64 0, .int .i64 0, .slice none 0 0] 25)).drew := bdr (bal (Below.refl _ _) _)
        have P2 : Below w11.heap.size w11 (w11.alloc (.cells #[.int .i64 1, .int .i64 (y : Int)] 2)).drew := bdr (bal (Below.refl _ _) _)
        have P3 : Below w11.heap.size w11 ((w11.alloc (.cells #[.int .i64 1, .int .i64 (y : Int)] 2)).alloc (.cells #[.int .i64 0, .int .i64 0, .int .i64 0, .int .i64 0, .slice none 0 0] 25)).drew := bdr (bal (bal (Below.refl _ _) _) _)
        have P4 : Below w11.heap.size w11 ((w11.alloc (.cells #[.int .i64 0, .int .i64 0, .int .i64 0, .int .i64 0, .slice none 0 0] 25)).alloc (.cells #[.int .i64 1, .int .i64 (y : Int)] 2)).drew := bdr (bal (bal (Below.refl _ _) _) _)
        have L2 := Lib.hid (show Sl (w11.alloc (.cells #[.int .i64 1, .int .i64 (y : Int)] 2)).drew (some ⟨w11.heap.size, 0, none⟩) 2 2 [1, (y : Int)] from slLit w11 _ 2 rfl (by omega))
        have L3 := Lib.hid (show Sl ((w11.alloc (.cells #[.int .i64 1, .int .i64 (y : Int)] 2)).alloc (.cells #[.int .i64 0, .int .i64 0, .int .i64 0, .int .i64 0, .slice none 0 0] 25)).drew (some ⟨w11.heap.size, 0, none⟩) 2 2 [1, (y : Int)] from Sl.step (w := w11.alloc (.cells #[.int .i64 1, .int .i64 (y : Int)] 2)) (slLit w11 _ 2 rfl (by omega)) (bdr (below1 _ _)))
        have h1_ : (w11.alloc (.cells #[.int .i64 0, .int .i64 0, .int .i64 0, .int .i64 0, .slice none 0 0] 25)).heap.size = w11.heap.size + 1 := by simp
        have h2_ : (w11.alloc (.cells #[.int .i64 1, .int .i64 (y : Int)] 2)).heap.size = w11.heap.size + 1 := by simp
        have L4 := Lib.hid (show Sl ((w11.alloc (.cells #[.int .i64 0, .int .i64 0, .int .i64 0, .int .i64 0, .slice none 0 0] 25)).alloc (.cells #[.int .i64 1, .int .i64 (y : Int)] 2)).drew (some ⟨w11.heap.size + 1, 0, none⟩) 2 2 [1, (y : Int)] by rw [← h1_]; exact slLit (w11.alloc (.cells #[.int .i64 0, .int .i64 0, .int .i64 0, .int .i64 0, .slice none 0 0] 25)) _ 2 rfl (by omega))
        have N3 : Bx ((w11.alloc (.cells #[.int .i64 1, .int .i64 (y : Int)] 2)).alloc (.cells #[.int .i64 0, .int .i64 0, .int .i64 0, .int .i64 0, .slice none 0 0] 25)).drew (w11.heap.size + 1) #[.int .i64 0, .int .i64 0, .int .i64 0, .int .i64 0, .slice none 0 0] 25 := by rw [← h2_]; exact Bx.new (w11.alloc (.cells #[.int .i64 1, .int .i64 (y : Int)] 2)) _ _
        have N4 : Bx ((w11.alloc (.cells #[.int .i64 0, .int .i64 0, .int .i64 0, .int .i64 0, .slice none 0 0] 25)).alloc (.cells #[.int .i64 1, .int .i64 (y : Int)] 2)).drew (w11.heap.size) #[.int .i64 0, .int .i64 0, .int .i64 0, .int .i64 0, .slice none 0 0] 25 := Bx.alloc (Bx.new w11 _ _) _
        clear h1_ h2_
        go_region_held3 (fun w' => (∀ i, w'.cell? ⟨w.heap.size + 1, i, none⟩ = #[.int .i64 kv, .int .i64 rv, .int .i64 uv, .int .i64 vv, .slice (some ⟨bv, ov, none⟩) nv cv][i]?))
          (with_reducible first | exact hS _ P0 | exact hS _ P1 | exact hS _ P2 | exact hS _ P3 | exact hS _ P4 | exact hS _ R1 | exact hS _ (bal R1 _) | exact hS _ R2 | exact hS _ (bal R2 _) | exact hS _ R3 | exact hS _ (bal R3 _) | exact hS _ (below_set5' R3 (Nat.le_succ _) _ _ _ _ _) | exact hS _ (below_set5' R3 (Nat.le_refl _) _ _ _ _ _) | exact hS _ (below_set5' R3 R1.size _ _ _ _ _) | exact hS _ (below_set5' R3 R2.size _ _ _ _ _))
          (first
            | (go_at_call 35; (with_reducible first | refine (ints_any (some ⟨w11.heap.size, 0, none⟩) 2 2 [1, (y : Int)] ((w11.alloc (.cells #[.int .i64 1, .int .i64 (y : Int)] 2)).drew) L2.out (by omega)).mono ?_ | refine (ints_any (some ⟨w11.heap.size, 0, none⟩) 2 2 [1, (y : Int)] (((w11.alloc (.cells #[.int .i64 1, .int .i64 (y : Int)] 2)).alloc (.cells #[.int .i64 0, .int .i64 0, .int .i64 0, .int .i64 0, .slice none 0 0] 25)).drew) L3.out (by omega)).mono ?_ | refine (ints_any (some ⟨w11.heap.size + 1, 0, none⟩) 2 2 [1, (y : Int)] (((w11.alloc (.cells #[.int .i64 0, .int .i64 0, .int .i64 0, .int .i64 0, .slice none 0 0] 25)).alloc (.cells #[.int .i64 1, .int .i64 (y : Int)] 2)).drew) L4.out (by omega)).mono ?_); rintro e y1 ⟨⟨Ay1, ny1, cy1, rfl, hSy, hNy⟩, hb_⟩; have R1 : Below w11.heap.size w11 y1 := (by with_reducible first | exact bst P2 hb_ | exact bst P3 hb_ | exact bst P4 hb_); have ss1 := R1.size; have O1 : Below y1.heap.size y1 (y1.alloc (.cells #[.int .i64 0, .int .i64 0, .int .i64 0, .int .i64 0, .slice none 0 0] 25)) := below1 _ _; have NO1 : Bx (y1.alloc (.cells #[.int .i64 0, .int .i64 0, .int .i64 0, .int .i64 0, .slice none 0 0] 25)) (y1.heap.size) #[.int .i64 0, .int .i64 0, .int .i64 0, .int .i64 0, .slice none 0 0] 25 := Bx.new y1 _ _; have QS1 := Lib.hid (S1.out.step R1); have T1 := Lib.hid hSy; clear hSy; (try (have M3 : Bx y1 (w11.heap.size + 1) #[.int .i64 0, .int .i64 0, .int .i64 0, .int .i64 0, .slice none 0 0] 25 := (by with_reducible exact Bx.step N3 hb_))); (try (have M4 : Bx y1 (w11.heap.size) #[.int .i64 0, .int .i64 0, .int .i64 0, .int .i64 0, .slice none 0 0] 25 := (by with_reducible exact Bx.step N4 hb_))))
            | (go_at_call 37; (with_reducible first | refine (rVector_any kv (some ⟨bv, ov, none⟩) 1 cv [hv] y1 QS1.out (by omega)).mono ?_ | refine (rVector_any kv (some ⟨bv, ov, none⟩) 1 cv [hv] _ (QS1.out.step O1) (by omega)).mono ?_); rintro e y2 ⟨⟨Ay2, ny2, cy2, rfl, hSy, hNy⟩, hb_⟩; have R2 : Below w11.heap.size w11 y2 := (by with_reducible first | exact bst R1 hb_ | exact bst (bal R1 _) hb_); have ss2 := R2.size; have O2 : Below y2.heap.size y2 (y2.alloc (.cells #[.int .i64 0, .int .i64 0, .int .i64 0, .int .i64 0, .slice none 0 0] 25)) := below1 _ _; have NO2 : Bx (y2.alloc (.cells #[.int .i64 0, .int .i64 0, .int .i64 0, .int .i64 0, .slice none 0 0] 25)) (y2.heap.size) #[.int .i64 0, .int .i64 0, .int .i64 0, .int .i64 0, .slice none 0 0] 25 := Bx.new y2 _ _; have step_ : Below y1.heap.size y1 y2 := (by with_reducible first | exact hb_ | exact bst O1 hb_); have QS1 := Lib.hid (S1.out.step R2); have T1 := Lib.hid (T1.out.step step_); have T2 := Lib.hid hSy; clear hSy; (try (have M3 : Bx y2 (w11.heap.size + 1) #[.int .i64 0, .int .i64 0, .int .i64 0, .int .i64 0, .slice none 0 0] 25 := (by with_reducible exact Bx.step M3 hb_))); (try (have M4 : Bx y2 (w11.heap.size) #[.int .i64 0, .int .i64 0, .int .i64 0, .int .i64 0, .slice none 0 0] 25 := (by with_reducible exact Bx.step M4 hb_))); (try (have K1 : Bx y2 (y1.heap.size) #[.int .i64 0, .int .i64 0, .int .i64 0, .int .i64 0, .slice none 0 0] 25 := (by with_reducible exact Bx.step NO1 hb_))); (try (have LM3 := Bx.lt M3)); (try (have LM4 := Bx.lt M4)); (try (have LK1 := Bx.lt K1)))
            | (go_at_call 20; (with_reducible first | refine (mGrid_any _ _ _ _ _ _ _ [1, (y : Int)] _ _ _ _ _ _ _ [hv] (⟨kv, 2, 1, (y : Int), fs⟩, 0) y2 T1.out T2.out HG2.out).mono ?_ | refine (mGrid_any _ _ _ _ _ _ _ [1, (y : Int)] _ _ _ _ _ _ _ [hv] (⟨kv, 2, 1, (y : Int), fs⟩, 0) _ (T1.out.step O2) (T2.out.step O2) HG2.out).mono ?_); intro e y3 hR_; obtain ⟨Ay3, ny3, cy3, rfl, hSy, hNy, hb_⟩ := RetA.flat hR_; have R3 : Below w11.heap.size w11 y3 := (by with_reducible first | exact bst R2 hb_ | exact bst (bal R2 _) hb_); have ss3 := R3.size; have O3 : Below y3.heap.size y3 (y3.alloc (.cells #[.int .i64 0, .int .i64 0, .int .i64 0, .int .i64 0, .slice none 0 0] 25)) := below1 _ _; have NO3 : Bx (y3.alloc (.cells #[.int .i64 0, .int .i64 0, .int .i64 0, .int .i64 0, .slice none 0 0] 25)) (y3.heap.size) #[.int .i64 0, .int .i64 0, .int .i64 0, .int .i64 0, .slice none 0 0] 25 := Bx.new y3 _ _; have step_ : Below y2.heap.size y2 y3 := (by with_reducible first | exact hb_ | exact bst O2 hb_); have QS1 := Lib.hid (S1.out.step R3); have T1 := Lib.hid (T1.out.step step_); have T2 := Lib.hid (T2.out.step step_); (try (have M3 : Bx y3 (w11.heap.size + 1) #[.int .i64 0, .int .i64 0, .int .i64 0, .int .i64 0, .slice none 0 0] 25 := (by with_reducible exact Bx.step M3 hb_))); (try (have M4 : Bx y3 (w11.heap.size) #[.int .i64 0, .int .i64 0, .int .i64 0, .int .i64 0, .slice none 0 0] 25 := (by with_reducible exact Bx.step M4 hb_))); (try (have K1 : Bx y3 (y1.heap.size) #[.int .i64 0, .int .i64 0, .int .i64 0, .int .i64 0, .slice none 0 0] 25 := (by with_reducible exact Bx.step K1 hb_))); (try (have K2 : Bx y3 (y2.heap.size) #[.int .i64 0, .int .i64 0, .int .i64 0, .int .i64 0, .slice none 0 0] 25 := (by with_reducible exact Bx.step NO2 hb_))); (first | (have gB : ∀ i, y3.cell? ⟨(w11.heap.size + 1), i, none⟩ = _ := Bx.cell M3; have kB : ∀ i, y3.frozen? ⟨(w11.heap.size + 1), i, none⟩ = false := Bx.frozen M3) | (have gB : ∀ i, y3.cell? ⟨(w11.heap.size), i, none⟩ = _ := Bx.cell M4; have kB : ∀ i, y3.frozen? ⟨(w11.heap.size), i, none⟩ = false := Bx.frozen M4) | (have gB : ∀ i, y3.cell? ⟨(y1.heap.size), i, none⟩ = _ := Bx.cell K1; have kB : ∀ i, y3.frozen? ⟨(y1.heap.size), i, none⟩ = false := Bx.frozen K1) | (have gB : ∀ i, y3.cell? ⟨(y2.heap.size), i, none⟩ = _ := Bx.cell K2; have kB : ∀ i, y3.frozen? ⟨(y2.heap.size), i, none⟩ = false := Bx.frozen K2) | skip)))
        all_goals go_wp2_with fail
        all_goals go_meet
        · exact ⟨y3.heap.size, Ay3, ny3, cy3, rfl, rfl, bal R3 _, Lib.hid (Bx.new y3 _ _), Lib.hid (hSy.step (below1 _ _)), R3.size, Lib.hid (hNy.mono ss2), Lib.hid (hSy.ne_lo (Nat.le_refl _))⟩
        · exact ⟨(y2.heap.size), Ay3, ny3, cy3, rfl, rfl, below_set5' R3 R2.size _ _ _ _ _, Lib.hid (Bx.set5 K2 _ _ _ _ _), Lib.hid (hSy.past5 _ _ _ _ _ fun b o e => by have h_ := hNy b o none e; rw [World.size_alloc] at h_; omega), R2.size, Lib.hid (hNy.mono (by rw [World.size_alloc]; omega)), Lib.hid (fun _ b o e => by have h_ := hNy b o none e; rw [World.size_alloc] at h_; omega)⟩
        · exact ⟨(y1.heap.size), Ay3, ny3, cy3, rfl, rfl, below_set5' R3 R1.size _ _ _ _ _, Lib.hid (Bx.set5 K1 _ _ _ _ _), Lib.hid (hSy.past5 _ _ _ _ _ fun b o e => by have h_ := hNy b o none e; have l_ := LK1; omega), R1.size, Lib.hid (hNy.mono ss2), Lib.hid (fun _ b o e => by have h_ := hNy b o none e; have l_ := LK1; omega)⟩
        · exact ⟨(w11.heap.size + 1), Ay3, ny3, cy3, rfl, rfl, below_set5' R3 (Nat.le_succ _) _ _ _ _ _, Lib.hid (Bx.set5 M3 _ _ _ _ _), Lib.hid (hSy.past5 _ _ _ _ _ fun b o e => by have h_ := hNy b o none e; have l_ := LM3; omega), (Nat.le_succ _), Lib.hid (hNy.mono ss2), Lib.hid (fun _ b o e => by have h_ := hNy b o none e; have l_ := LM3; omega)⟩
        · exact ⟨(w11.heap.size), Ay3, ny3, cy3, rfl, rfl, below_set5' R3 (Nat.le_refl _) _ _ _ _ _, Lib.hid (Bx.set5 M4 _ _ _ _ _), Lib.hid (hSy.past5 _ _ _ _ _ fun b o e => by have h_ := hNy b o none e; have l_ := LM4; omega), (Nat.le_refl _), Lib.hid (hNy.mono ss2), Lib.hid (fun _ b o e => by have h_ := hNy b o none e; have l_ := LM4; omega)⟩
      case rest =>
      obtain ⟨B12, A12, n12, c12, rfl, rfl, hst, HX_, HS_, hB12, NSW, ne_SW_XW⟩ := hcut
      obtain ⟨w12, hw12⟩ : ∃ w12, wc = w12 := ⟨_, rfl⟩
      rw [hw12] at hst HX_ HS_
      rw [hw12]
      clear hw12
      replace Xm := Bx.step Xm hst
      replace Xv := Bx.step Xv hst
      replace Xl := Bx.step Xl hst
      replace XG := Bx.step XG hst
      replace XR := Bx.step XR hst
      replace XS := Bx.step XS hst
      replace XF := Bx.step XF hst
      replace Sm := Lib.hid (Sm.out.step hst)
      replace Sv := Lib.hid (Sv.out.step hst)
      replace SG := Lib.hid (SG.out.step hst)
      replace SR := Lib.hid (SR.out.step hst)
      replace S1 := Lib.hid (S1.out.step hst)
      replace SS := Lib.hid (SS.out.step hst)
      replace SF := Lib.hid (SF.out.step hst)
      replace b := bst b hst
      have XW := HX_.out
      have SW := HS_
      clear hst HX_ HS_
      have dXm : ∀ i, w12.cell? ⟨w.heap.size, i, none⟩ = _ := Bx.cell Xm
      have eXm : ∀ i, w12.frozen? ⟨w.heap.size, i, none⟩ = false := Bx.frozen Xm
      have qXm := Bx.lt Xm
      have dXv : ∀ i, w12.cell? ⟨w.heap.size + 1, i, none⟩ = _ := Bx.cell Xv
      have eXv : ∀ i, w12.frozen? ⟨w.heap.size + 1, i, none⟩ = false := Bx.frozen Xv
      have qXv := Bx.lt Xv
      have dXl : ∀ i, w12.cell? ⟨w.heap.size + 1 + 1, i, none⟩ = _ := Bx.cell Xl
      have eXl : ∀ i, w12.frozen? ⟨w.heap.size + 1 + 1, i, none⟩ = false := Bx.frozen Xl
      have qXl := Bx.lt Xl
      have dXG : ∀ i, w12.cell? ⟨B7, i, none⟩ = _ := Bx.cell XG
      have eXG : ∀ i, w12.frozen? ⟨B7, i, none⟩ = false := Bx.frozen XG
      have qXG := Bx.lt XG
      have dXR : ∀ i, w12.cell? ⟨w8.heap.size, i, none⟩ = _ := Bx.cell XR
      have eXR : ∀ i, w12.frozen? ⟨w8.heap.size, i, none⟩ = false := Bx.frozen XR
      have qXR := Bx.lt XR
      have dXS : ∀ i, w12.cell? ⟨B10, i, none⟩ = _ := Bx.cell XS
      have eXS : ∀ i, w12.frozen? ⟨B10, i, none⟩ = false := Bx.frozen XS
      have qXS := Bx.lt XS
      have dXF : ∀ i, w12.cell? ⟨B11, i, none⟩ = _ := Bx.cell XF
      have eXF : ∀ i, w12.frozen? ⟨B11, i, none⟩ = false := Bx.frozen XF
      have qXF := Bx.lt XF
      have dXW : ∀ i, w12.cell? ⟨B12, i, none⟩ = _ := Bx.cell XW
      have eXW : ∀ i, w12.frozen? ⟨B12, i, none⟩ = false := Bx.frozen XW
      have qXW := Bx.lt XW
      go_wp2_with fail
      refine (mRavel_any _ _ _ _ _ _ _ fs _ _ SW.out HR2.out).mono ?_
      intro e w13 hR
      obtain ⟨A13, n13, c13, rfl, hS13, hN13, hst⟩ := RetA.flat hR
      clear hR
      clear dXm eXm qXm dXv eXv qXv dXl eXl qXl dXG eXG qXG dXR eXR qXR dXS eXS qXS dXF eXF qXF dXW eXW qXW
      replace Xm := Bx.step Xm hst
      replace Xv := Bx.step Xv hst
      replace Xl := Bx.step Xl hst
      replace XG := Bx.step XG hst
      replace XR := Bx.step XR hst
      replace XS := Bx.step XS hst
      replace XF := Bx.step XF hst
      replace XW := Bx.step XW hst
      replace Sm := Lib.hid (Sm.out.step hst)
      replace Sv := Lib.hid (Sv.out.step hst)
      replace SG := Lib.hid (SG.out.step hst)
      replace SR := Lib.hid (SR.out.step hst)
      replace S1 := Lib.hid (S1.out.step hst)
      replace SS := Lib.hid (SS.out.step hst)
      replace SF := Lib.hid (SF.out.step hst)
      replace SW := Lib.hid (SW.out.step hst)
      replace b : Below w.heap.size w w13 := bst b hst
      clear hst
      have SB := Lib.hid hS13
      have NSB := Lib.hid hN13
      clear hS13 hN13
      have dXm : ∀ i, w13.cell? ⟨w.heap.size, i, none⟩ = _ := Bx.cell Xm
      have eXm : ∀ i, w13.frozen? ⟨w.heap.size, i, none⟩ = false := Bx.frozen Xm
      have qXm := Bx.lt Xm
      have dXv : ∀ i, w13.cell? ⟨w.heap.size + 1, i, none⟩ = _ := Bx.cell Xv
      have eXv : ∀ i, w13.frozen? ⟨w.heap.size + 1, i, none⟩ = false := Bx.frozen Xv
      have qXv := Bx.lt Xv
      have dXl : ∀ i, w13.cell? ⟨w.heap.size + 1 + 1, i, none⟩ = _ := Bx.cell Xl
      have eXl : ∀ i, w13.frozen? ⟨w.heap.size + 1 + 1, i, none⟩ = false := Bx.frozen Xl
      have qXl := Bx.lt Xl
      have dXG : ∀ i, w13.cell? ⟨B7, i, none⟩ = _ := Bx.cell XG
      have eXG : ∀ i, w13.frozen? ⟨B7, i, none⟩ = false := Bx.frozen XG
      have qXG := Bx.lt XG
      have dXR : ∀ i, w13.cell? ⟨w8.heap.size, i, none⟩ = _ := Bx.cell XR
      have eXR : ∀ i, w13.frozen? ⟨w8.heap.size, i, none⟩ = false := Bx.frozen XR
      have qXR := Bx.lt XR
      have dXS : ∀ i, w13.cell? ⟨B10, i, none⟩ = _ := Bx.cell XS
      have eXS : ∀ i, w13.frozen? ⟨B10, i, none⟩ = false := Bx.frozen XS
      have qXS := Bx.lt XS
      have dXF : ∀ i, w13.cell? ⟨B11, i, none⟩ = _ := Bx.cell XF
      have eXF : ∀ i, w13.frozen? ⟨B11, i, none⟩ = false := Bx.frozen XF
      have qXF := Bx.lt XF
      have dXW : ∀ i, w13.cell? ⟨B12, i, none⟩ = _ := Bx.cell XW
      have eXW : ∀ i, w13.frozen? ⟨B12, i, none⟩ = false := Bx.frozen XW
      have qXW := Bx.lt XW
      go_wp2_with fail
      refine (is_true _ _ _ _ _ _ _ fs _ _ _ _ (SB.out.step (below1 _ _ )) (SF.out.step (below1 _ _ ))).mono ?_
      rintro e w14 ⟨rfl, hst⟩
      clear dXm eXm qXm dXv eXv qXv dXl eXl qXl dXG eXG qXG dXR eXR qXR dXS eXS qXS dXF eXF qXF dXW eXW qXW
      obtain ⟨XB, hst⟩ := after1 hst
      replace Xm := Bx.step Xm hst
      replace Xv := Bx.step Xv hst
      replace Xl := Bx.step Xl hst
      replace XG := Bx.step XG hst
      replace XR := Bx.step XR hst
      replace XS := Bx.step XS hst
      replace XF := Bx.step XF hst
      replace XW := Bx.step XW hst
      replace Sm := Lib.hid (Sm.out.step hst)
      replace Sv := Lib.hid (Sv.out.step hst)
      replace SG := Lib.hid (SG.out.step hst)
      replace SR := Lib.hid (SR.out.step hst)
      replace S1 := Lib.hid (S1.out.step hst)
      replace SS := Lib.hid (SS.out.step hst)
      replace SF := Lib.hid (SF.out.step hst)
      replace SW := Lib.hid (SW.out.step hst)
      replace SB := Lib.hid (SB.out.step hst)
      replace b : Below w.heap.size w w14 := bst b hst
      clear hst
      have dXm : ∀ i, w14.cell? ⟨w.heap.size, i, none⟩ = _ := Bx.cell Xm
      have eXm : ∀ i, w14.frozen? ⟨w.heap.size, i, none⟩ = false := Bx.frozen Xm
      have qXm := Bx.lt Xm
      have dXv : ∀ i, w14.cell? ⟨w.heap.size + 1, i, none⟩ = _ := Bx.cell Xv
      have eXv : ∀ i, w14.frozen? ⟨w.heap.size + 1, i, none⟩ = false := Bx.frozen Xv
      have qXv := Bx.lt Xv
      have dXl : ∀ i, w14.cell? ⟨w.heap.size + 1 + 1, i, none⟩ = _ := Bx.cell Xl
      have eXl : ∀ i, w14.frozen? ⟨w.heap.size + 1 + 1, i, none⟩ = false := Bx.frozen Xl
      have qXl := Bx.lt Xl
      have dXG : ∀ i, w14.cell? ⟨B7, i, none⟩ = _ := Bx.cell XG
      have eXG : ∀ i, w14.frozen? ⟨B7, i, none⟩ = false := Bx.frozen XG
      have qXG := Bx.lt XG
      have dXR : ∀ i, w14.cell? ⟨w8.heap.size, i, none⟩ = _ := Bx.cell XR
      have eXR : ∀ i, w14.frozen? ⟨w8.heap.size, i, none⟩ = false := Bx.frozen XR
      have qXR := Bx.lt XR
      have dXS : ∀ i, w14.cell? ⟨B10, i, none⟩ = _ := Bx.cell XS
      have eXS : ∀ i, w14.frozen? ⟨B10, i, none⟩ = false := Bx.frozen XS
      have qXS := Bx.lt XS
      have dXF : ∀ i, w14.cell? ⟨B11, i, none⟩ = _ := Bx.cell XF
      have eXF : ∀ i, w14.frozen? ⟨B11, i, none⟩ = false := Bx.frozen XF
      have qXF := Bx.lt XF
      have dXW : ∀ i, w14.cell? ⟨B12, i, none⟩ = _ := Bx.cell XW
      have eXW : ∀ i, w14.frozen? ⟨B12, i, none⟩ = false := Bx.frozen XW
      have qXW := Bx.lt XW
      have dXB : ∀ i, w14.cell? ⟨w13.heap.size, i, none⟩ = _ := Bx.cell XB
      have eXB : ∀ i, w14.frozen? ⟨w13.heap.size, i, none⟩ = false := Bx.frozen XB
      have qXB := Bx.lt XB
      go_wp2_with fail
      refine (awake_any _).mono ?_
      rintro e wz ⟨rfl, hbz⟩
      go_wp2
      go_ret
      exact ⟨rfl, bst b hbz⟩
end Go.Proofs.Ytoapgknkenlcgaa

/-
  The law MovesShapes: its walk.
-/
import Derived.Test.YtoapgknkenlcgaaMpart
import Derived.Deep.CutRange
namespace Go.Proofs.Ytoapgknkenlcgaa
open Go.RowKit

set_option maxRecDepth 100000 in
set_option maxHeartbeats 16000000 in
theorem shapeX_err15 (km rm um vm : Int) (Am : Option Addr) (nm cm : Nat) (xsm : List Int) (kv rv uv vv : Int) (Av : Option Addr) (nv cv : Nat) (xsv : List Int) (P Q : Nat) (w : World) (hsm : Sl w Am nm cm xsm) (hsv : Sl w Av nv cv xsv) (hfa : ¬ 405 < nm) (hfb : ¬ 405 < nv) (ecm : Int) (hM : achk km rm um vm xsm = ecm) (tv : Bool) (hT : (tv = false ∧ (ecm == 0) = false) ∨ (tv = false ∧ ecm = 0 ∧ (rm == 2) = false) ∨ (tv = true ∧ ecm = 0 ∧ rm = 2 ∧ sRavel ⟨km, 2, um, vm, xsm⟩ = (⟨km, 1, (nm : Int), 0, xsm⟩, 0) ∧ sGrid ⟨1, 1, 2, 0, [um, vm]⟩ ⟨km, 1, (nm : Int), 0, xsm⟩ = (⟨km, 2, um, vm, xsm⟩, 0))) (hV : achk kv rv uv vv xsv = 0) (hrv : (rv != 1) = false) (x y : Nat) (hP : Int.tmod (P : Int) 25 = (x : Int)) (hQ : Int.tmod (Q : Int) 25 = (y : Int)) (_hPb : P ≤ 255) (_hQb : Q ≤ 255) (hx : x ≤ 24) (hy : y ≤ 24) (N : Nat) (hN : IntKind.i64.wrap ((x : Int) * (y : Int)) = (N : Int)) (_hNb : N ≤ 576) (hd1 : decide ((400 : Int) < (N : Int)) = true) (k1 r1 u1 v1 : Int) (xs1 : List Int) (hG : sGrid ⟨1, 1, 2, 0, [(x : Int), (y : Int)]⟩ ⟨kv, rv, uv, vv, xsv⟩ = (⟨k1, r1, u1, v1, xs1⟩, 15)) :
    Calls Try.prog 10 #[.agg #[.int .i64 km, .int .i64 rm, .int .i64 um, .int .i64 vm, .slice Am nm cm], .agg #[.int .i64 kv, .int .i64 rv, .int .i64 uv, .int .i64 vv, .slice Av nv cv], .agg #[.int .u8 (P : Int), .int .u8 (Q : Int)]] w fun e w' => e = .returned (.bool true) ∧ Below w.heap.size w w' := by
  have Sm := Lib.hid hsm
  have Sv := Lib.hid hsv
  have HSV := Lib.hid hsv
  clear hsm hsv
  have HM := Lib.hid hM
  have HT := Lib.hid hT
  have HV := Lib.hid hV
  have HG := Lib.hid hG
  clear hM hT hV hG
  go_enter Try.func10, Try.ntmps10
  go_wp2_with fail
  refine (far_any _ _ _ _ _ _ _ _).mono ?_
  rintro e w1 ⟨rfl, hst⟩
  obtain ⟨Xm, Xv, Xl, hst⟩ := after3 hst
  replace Sm := Lib.hid (Sm.out.step hst)
  replace Sv := Lib.hid (Sv.out.step hst)
  have b : Below w.heap.size w w1 := hst
  clear hst
  rw [decide_eq_false hfa]
  have dXm : ∀ i, w1.cell? ⟨w.heap.size, i, none⟩ = _ := Bx.cell Xm
  have eXm : ∀ i, w1.frozen? ⟨w.heap.size, i, none⟩ = false := Bx.frozen Xm
  have qXm := Bx.lt Xm
  have dXv : ∀ i, w1.cell? ⟨w.heap.size + 1, i, none⟩ = _ := Bx.cell Xv
  have eXv : ∀ i, w1.frozen? ⟨w.heap.size + 1, i, none⟩ = false := Bx.frozen Xv
  have qXv := Bx.lt Xv
  have dXl : ∀ i, w1.cell? ⟨w.heap.size + 1 + 1, i, none⟩ = _ := Bx.cell Xl
  have eXl : ∀ i, w1.frozen? ⟨w.heap.size + 1 + 1, i, none⟩ = false := Bx.frozen Xl
  have qXl := Bx.lt Xl
  go_wp2_with fail
  refine (far_any _ _ _ _ _ _ _ _).mono ?_
  rintro e w2 ⟨rfl, hst⟩
  clear dXm eXm qXm dXv eXv qXv dXl eXl qXl
  replace Xm := Bx.step Xm hst
  replace Xv := Bx.step Xv hst
  replace Xl := Bx.step Xl hst
  replace Sm := Lib.hid (Sm.out.step hst)
  replace Sv := Lib.hid (Sv.out.step hst)
  replace b : Below w.heap.size w w2 := bst b hst
  clear hst
  rw [decide_eq_false hfb]
  have dXm : ∀ i, w2.cell? ⟨w.heap.size, i, none⟩ = _ := Bx.cell Xm
  have eXm : ∀ i, w2.frozen? ⟨w.heap.size, i, none⟩ = false := Bx.frozen Xm
  have qXm := Bx.lt Xm
  have dXv : ∀ i, w2.cell? ⟨w.heap.size + 1, i, none⟩ = _ := Bx.cell Xv
  have eXv : ∀ i, w2.frozen? ⟨w.heap.size + 1, i, none⟩ = false := Bx.frozen Xv
  have qXv := Bx.lt Xv
  have dXl : ∀ i, w2.cell? ⟨w.heap.size + 1 + 1, i, none⟩ = _ := Bx.cell Xl
  have eXl : ∀ i, w2.frozen? ⟨w.heap.size + 1 + 1, i, none⟩ = false := Bx.frozen Xl
  have qXl := Bx.lt Xl
  go_upto_region 3 with fail
  clear dXm eXm qXm dXv eXv qXv dXl eXl qXl
  go_cut [39] from 25 to 39 (fun t wx => t = .bool tv ∧ Below w2.heap.size w2 wx)
  case first =>
    rcases HT.out with ⟨rfl, h1⟩ | ⟨rfl, he, h1⟩ | ⟨rfl, he, h1, _, _⟩
    · have dXm : ∀ i, w2.cell? ⟨w.heap.size, i, none⟩ = _ := Bx.cell Xm
      have eXm : ∀ i, w2.frozen? ⟨w.heap.size, i, none⟩ = false := Bx.frozen Xm
      have qXm := Bx.lt Xm
      have dXv : ∀ i, w2.cell? ⟨w.heap.size + 1, i, none⟩ = _ := Bx.cell Xv
      have eXv : ∀ i, w2.frozen? ⟨w.heap.size + 1, i, none⟩ = false := Bx.frozen Xv
      have qXv := Bx.lt Xv
      have dXl : ∀ i, w2.cell? ⟨w.heap.size + 1 + 1, i, none⟩ = _ := Bx.cell Xl
      have eXl : ∀ i, w2.frozen? ⟨w.heap.size + 1 + 1, i, none⟩ = false := Bx.frozen Xl
      have qXl := Bx.lt Xl
      go_wp2_with fail
      refine (racheck_any _ _ _ _ _ _ _ xsm ecm _ Sm.out HM.out).mono ?_
      rintro e y ⟨rfl, hb_⟩
      have Y_ := Bx.step Xm hb_
      have dY_ : ∀ i, y.cell? ⟨w.heap.size, i, none⟩ = _ := Bx.cell Y_
      have qY_ := Bx.lt Y_
      clear dXm eXm qXm dXv eXv qXv dXl eXl qXl
      go_wp2_with fail
      go_meet
      exact ⟨rfl, hb_⟩
    · have HE_ := Lib.hid he
      have HM2 := Lib.hid (HM.out.trans HE_.out)
      clear he
      have dXm : ∀ i, w2.cell? ⟨w.heap.size, i, none⟩ = _ := Bx.cell Xm
      have eXm : ∀ i, w2.frozen? ⟨w.heap.size, i, none⟩ = false := Bx.frozen Xm
      have qXm := Bx.lt Xm
      have dXv : ∀ i, w2.cell? ⟨w.heap.size + 1, i, none⟩ = _ := Bx.cell Xv
      have eXv : ∀ i, w2.frozen? ⟨w.heap.size + 1, i, none⟩ = false := Bx.frozen Xv
      have qXv := Bx.lt Xv
      have dXl : ∀ i, w2.cell? ⟨w.heap.size + 1 + 1, i, none⟩ = _ := Bx.cell Xl
      have eXl : ∀ i, w2.frozen? ⟨w.heap.size + 1 + 1, i, none⟩ = false := Bx.frozen Xl
      have qXl := Bx.lt Xl
      go_wp2_with fail
      refine (racheck_any _ _ _ _ _ _ _ xsm 0 _ Sm.out HM2.out).mono ?_
      rintro e y ⟨rfl, hb_⟩
      have Y_ := Bx.step Xm hb_
      have dY_ : ∀ i, y.cell? ⟨w.heap.size, i, none⟩ = _ := Bx.cell Y_
      have qY_ := Bx.lt Y_
      clear dXm eXm qXm dXv eXv qXv dXl eXl qXl
      go_wp2_with fail
      go_meet
      exact ⟨rfl, hb_⟩
    · have HE_ := Lib.hid he
      have HM2 := Lib.hid (HM.out.trans HE_.out)
      clear he
      have h2_ : (rm == 2) = true := by simpa using h1
      clear h1
      have dXm : ∀ i, w2.cell? ⟨w.heap.size, i, none⟩ = _ := Bx.cell Xm
      have eXm : ∀ i, w2.frozen? ⟨w.heap.size, i, none⟩ = false := Bx.frozen Xm
      have qXm := Bx.lt Xm
      have dXv : ∀ i, w2.cell? ⟨w.heap.size + 1, i, none⟩ = _ := Bx.cell Xv
      have eXv : ∀ i, w2.frozen? ⟨w.heap.size + 1, i, none⟩ = false := Bx.frozen Xv
      have qXv := Bx.lt Xv
      have dXl : ∀ i, w2.cell? ⟨w.heap.size + 1 + 1, i, none⟩ = _ := Bx.cell Xl
      have eXl : ∀ i, w2.frozen? ⟨w.heap.size + 1 + 1, i, none⟩ = false := Bx.frozen Xl
      have qXl := Bx.lt Xl
      go_wp2_with fail
      refine (racheck_any _ _ _ _ _ _ _ xsm 0 _ Sm.out HM2.out).mono ?_
      rintro e y ⟨rfl, hb_⟩
      have Y_ := Bx.step Xm hb_
      have dY_ : ∀ i, y.cell? ⟨w.heap.size, i, none⟩ = _ := Bx.cell Y_
      have qY_ := Bx.lt Y_
      clear dXm eXm qXm dXv eXv qXv dXl eXl qXl
      go_wp2_with fail
      go_meet
      exact ⟨rfl, hb_⟩
  case rest =>
  obtain ⟨rfl, hst⟩ := hcut
  obtain ⟨w3, hw_⟩ : ∃ w3, wc = w3 := ⟨_, rfl⟩
  rw [hw_] at hst
  rw [hw_]
  clear hw_
  replace Xm := Bx.step Xm hst
  replace Xv := Bx.step Xv hst
  replace Xl := Bx.step Xl hst
  replace Sm := Lib.hid (Sm.out.step hst)
  replace Sv := Lib.hid (Sv.out.step hst)
  replace b := bst b hst
  clear hst
  go_upto_if 39 with fail
  go_cut [39] from 40 to 66 (fun _ wx => Below w3.heap.size w3 wx)
  case first =>
    rcases HT.out with ⟨rfl, h1⟩ | ⟨rfl, he, h1⟩ | ⟨rfl, he, h1, hR1, hG1⟩
    · go_wp2_with fail
      go_meet
      exact Below.refl _ _
    · go_wp2_with fail
      go_meet
      exact Below.refl _ _
    · have HR1 := Lib.hid hR1
      have HG1 := Lib.hid hG1
      clear he hR1 hG1
      obtain rfl := h1
      have bW : Below w3.heap.size w3 w3 := Below.refl _ _
      have dXm : ∀ i, w3.cell? ⟨w.heap.size, i, none⟩ = _ := Bx.cell Xm
      have eXm : ∀ i, w3.frozen? ⟨w.heap.size, i, none⟩ = false := Bx.frozen Xm
      have qXm := Bx.lt Xm
      have dXv : ∀ i, w3.cell? ⟨w.heap.size + 1, i, none⟩ = _ := Bx.cell Xv
      have eXv : ∀ i, w3.frozen? ⟨w.heap.size + 1, i, none⟩ = false := Bx.frozen Xv
      have qXv := Bx.lt Xv
      have dXl : ∀ i, w3.cell? ⟨w.heap.size + 1 + 1, i, none⟩ = _ := Bx.cell Xl
      have eXl : ∀ i, w3.frozen? ⟨w.heap.size + 1 + 1, i, none⟩ = false := Bx.frozen Xl
      have qXl := Bx.lt Xl
      go_wp2_with fail
      refine (mRavel_any _ _ _ _ _ _ _ xsm (⟨km, 1, (nm : Int), 0, xsm⟩, 0) _ Sm.out HR1.out).mono ?_
      intro e w4 hR
      obtain ⟨A4, n4, c4, rfl, hS4, hN4, hst⟩ := RetA.flat hR
      clear hR
      clear dXm eXm qXm dXv eXv qXv dXl eXl qXl
      replace Xm := Bx.step Xm hst
      replace Xv := Bx.step Xv hst
      replace Xl := Bx.step Xl hst
      replace Sm := Lib.hid (Sm.out.step hst)
      replace Sv := Lib.hid (Sv.out.step hst)
      replace bW : Below w3.heap.size w3 w4 := bst bW hst
      clear hst
      have SQ := Lib.hid hS4
      have NSQ := Lib.hid hN4
      clear hS4 hN4
      have dXm : ∀ i, w4.cell? ⟨w.heap.size, i, none⟩ = _ := Bx.cell Xm
      have eXm : ∀ i, w4.frozen? ⟨w.heap.size, i, none⟩ = false := Bx.frozen Xm
      have qXm := Bx.lt Xm
      have dXv : ∀ i, w4.cell? ⟨w.heap.size + 1, i, none⟩ = _ := Bx.cell Xv
      have eXv : ∀ i, w4.frozen? ⟨w.heap.size + 1, i, none⟩ = false := Bx.frozen Xv
      have qXv := Bx.lt Xv
      have dXl : ∀ i, w4.cell? ⟨w.heap.size + 1 + 1, i, none⟩ = _ := Bx.cell Xl
      have eXl : ∀ i, w4.frozen? ⟨w.heap.size + 1 + 1, i, none⟩ = false := Bx.frozen Xl
      have qXl := Bx.lt Xl
      go_wp2
      have XQ := Bx.new w4 #[.int .i64 km, .int .i64 1, .int .i64 (nm : Int), .int .i64 0, .slice A4 n4 c4] 25
      have hst := below1 w4 (.cells #[.int .i64 km, .int .i64 1, .int .i64 (nm : Int), .int .i64 0, .slice A4 n4 c4] 25)
      obtain ⟨w5, hw_⟩ : ∃ w5, w4.alloc (.cells #[.int .i64 km, .int .i64 1, .int .i64 (nm : Int), .int .i64 0, .slice A4 n4 c4] 25) = w5 := ⟨_, rfl⟩
      rw [hw_] at XQ hst
      rw [hw_]
      clear hw_
      clear dXm eXm qXm dXv eXv qXv dXl eXl qXl
      replace Xm := Bx.step Xm hst
      replace Xv := Bx.step Xv hst
      replace Xl := Bx.step Xl hst
      replace Sm := Lib.hid (Sm.out.step hst)
      replace Sv := Lib.hid (Sv.out.step hst)
      replace SQ := Lib.hid (SQ.out.step hst)
      replace bW := bst bW hst
      clear hst
      go_cut [9, 10] from 46 to 57 (fun p e wx => ∃ (B : Nat) (A : Option Addr) (n c : Nat), p = .pointer (some ⟨B, 0, none⟩) ∧ e = .int .i64 0 ∧ Below w5.heap.size w5 wx ∧ Hid (Bx wx B #[.int .i64 km, .int .i64 2, .int .i64 um, .int .i64 vm, .slice A n c] 25) ∧ Hid (Sl wx A n c xsm) ∧ w5.heap.size ≤ B ∧ Hid (New w5 A) ∧ Hid (0 < n → ∀ b o, A = some ⟨b, o, none⟩ → b ≠ B))
      case first =>
        have hS : ∀ u, Below w5.heap.size w5 u → (∀ i, u.cell? ⟨w.heap.size, i, none⟩ = #[.int .i64 km, .int .i64 2, .int .i64 um, .int .i64 vm, .slice Am nm cm][i]?) ∧ (∀ i, u.cell? ⟨w4.heap.size, i, none⟩ = #[.int .i64 km, .int .i64 1, .int .i64 (nm : Int), .int .i64 0, .slice A4 n4 c4][i]?) := fun u h => ⟨Bx.cell (Bx.step Xm h), Bx.cell (Bx.step XQ h)⟩
        have P0 : Below w5.heap.size w5 w5.drew := bdr (Below.refl _ _)
        have P1 : Below w5.heap.size w5 (w5.alloc (.cells #[.int .i64 0, .int .i64 0, .int .i64 0, .int .i64 0, .slice none 0 0] 25)).drew := bdr (bal (Below.refl _ _) _)
        have P2 : Below w5.heap.size w5 (w5.alloc (.cells #[.int .i64 um, .int .i64 vm] 2)).drew := bdr (bal (Below.refl _ _) _)
        have P3 : Below w5.heap.size w5 ((w5.alloc (.cells #[.int .i64 um, .int .i64 vm] 2)).alloc (.cells #[.int .i64 0, .int .i64 0, .int .i64 0, .int .i64 0, .slice none 0 0] 25)).drew := bdr (bal (bal (Below.refl _ _) _) _)
        have P4 : Below w5.heap.size w5 ((w5.alloc (.cells #[.int .i64 0, .int .i64 0, .int .i64 0, .int .i64 0, .slice none 0 0] 25)).alloc (.cells #[.int .i64 um, .int .i64 vm] 2)).drew := bdr (bal (bal (Below.refl _ _) _) _)
        have L2 := Lib.hid (show Sl (w5.alloc (.cells #[.int .i64 um, .int .i64 vm] 2)).drew (some ⟨w5.heap.size, 0, none⟩) 2 2 [um, vm] from slLit w5 _ 2 rfl (by omega))
        have L3 := Lib.hid (show Sl ((w5.alloc (.cells #[.int .i64 um, .int .i64 vm] 2)).alloc (.cells #[.int .i64 0, .int .i64 0, .int .i64 0, .int .i64 0, .slice none 0 0] 25)).drew (some ⟨w5.heap.size, 0, none⟩) 2 2 [um, vm] from Sl.step (w := w5.alloc (.cells #[.int .i64 um, .int .i64 vm] 2)) (slLit w5 _ 2 rfl (by omega)) (bdr (below1 _ _)))
        have h1_ : (w5.alloc (.cells #[.int .i64 0, .int .i64 0, .int .i64 0, .int .i64 0, .slice none 0 0] 25)).heap.size = w5.heap.size + 1 := by simp
        have h2_ : (w5.alloc (.cells #[.int .i64 um, .int .i64 vm] 2)).heap.size = w5.heap.size + 1 := by simp
        have L4 := Lib.hid (show Sl ((w5.alloc (.cells #[.int .i64 0, .int .i64 0, .int .i64 0, .int .i64 0, .slice none 0 0] 25)).alloc (.cells #[.int .i64 um, .int .i64 vm] 2)).drew (some ⟨w5.heap.size + 1, 0, none⟩) 2 2 [um, vm] by rw [← h1_]; exact slLit (w5.alloc (.cells #[.int .i64 0, .int .i64 0, .int .i64 0, .int .i64 0, .slice none 0 0] 25)) _ 2 rfl (by omega))
        have N3 : Bx ((w5.alloc (.cells #[.int .i64 um, .int .i64 vm] 2)).alloc (.cells #[.int .i64 0, .int .i64 0, .int .i64 0, .int .i64 0, .slice none 0 0] 25)).drew (w5.heap.size + 1) #[.int .i64 0, .int .i64 0, .int .i64 0, .int .i64 0, .slice none 0 0] 25 := by rw [← h2_]; exact Bx.new (w5.alloc (.cells #[.int .i64 um, .int .i64 vm] 2)) _ _
        have N4 : Bx ((w5.alloc (.cells #[.int .i64 0, .int .i64 0, .int .i64 0, .int .i64 0, .slice none 0 0] 25)).alloc (.cells #[.int .i64 um, .int .i64 vm] 2)).drew (w5.heap.size) #[.int .i64 0, .int .i64 0, .int .i64 0, .int .i64 0, .slice none 0 0] 25 := Bx.alloc (Bx.new w5 _ _) _
        clear h1_ h2_
        go_region_held3 (fun w' => (∀ i, w'.cell? ⟨w.heap.size, i, none⟩ = #[.int .i64 km, .int .i64 2, .int .i64 um, .int .i64 vm, .slice Am nm cm][i]?) ∧ (∀ i, w'.cell? ⟨w4.heap.size, i, none⟩ = #[.int .i64 km, .int .i64 1, .int .i64 (nm : Int), .int .i64 0, .slice A4 n4 c4][i]?))
          (with_reducible first | exact hS _ P0 | exact hS _ P1 | exact hS _ P2 | exact hS _ P3 | exact hS _ P4 | exact hS _ R1 | exact hS _ (bal R1 _) | exact hS _ R2 | exact hS _ (bal R2 _) | exact hS _ (below_set5' R2 (Nat.le_succ _) _ _ _ _ _) | exact hS _ (below_set5' R2 (Nat.le_refl _) _ _ _ _ _) | exact hS _ (below_set5' R2 R1.size _ _ _ _ _))
          (first
            | (go_at_call 35; (with_reducible first | refine (ints_any (some ⟨w5.heap.size, 0, none⟩) 2 2 [um, vm] ((w5.alloc (.cells #[.int .i64 um, .int .i64 vm] 2)).drew) L2.out (by omega)).mono ?_ | refine (ints_any (some ⟨w5.heap.size, 0, none⟩) 2 2 [um, vm] (((w5.alloc (.cells #[.int .i64 um, .int .i64 vm] 2)).alloc (.cells #[.int .i64 0, .int .i64 0, .int .i64 0, .int .i64 0, .slice none 0 0] 25)).drew) L3.out (by omega)).mono ?_ | refine (ints_any (some ⟨w5.heap.size + 1, 0, none⟩) 2 2 [um, vm] (((w5.alloc (.cells #[.int .i64 0, .int .i64 0, .int .i64 0, .int .i64 0, .slice none 0 0] 25)).alloc (.cells #[.int .i64 um, .int .i64 vm] 2)).drew) L4.out (by omega)).mono ?_); rintro e y1 ⟨⟨Ay1, ny1, cy1, rfl, hSy, hNy⟩, hb_⟩; have R1 : Below w5.heap.size w5 y1 := (by with_reducible first | exact bst P2 hb_ | exact bst P3 hb_ | exact bst P4 hb_); have ss1 := R1.size; have O1 : Below y1.heap.size y1 (y1.alloc (.cells #[.int .i64 0, .int .i64 0, .int .i64 0, .int .i64 0, .slice none 0 0] 25)) := below1 _ _; have NO1 : Bx (y1.alloc (.cells #[.int .i64 0, .int .i64 0, .int .i64 0, .int .i64 0, .slice none 0 0] 25)) (y1.heap.size) #[.int .i64 0, .int .i64 0, .int .i64 0, .int .i64 0, .slice none 0 0] 25 := Bx.new y1 _ _; have QSQ := Lib.hid (SQ.out.step R1); have T1 := Lib.hid hSy; clear hSy; (try (have M3 : Bx y1 (w5.heap.size + 1) #[.int .i64 0, .int .i64 0, .int .i64 0, .int .i64 0, .slice none 0 0] 25 := (by with_reducible exact Bx.step N3 hb_))); (try (have M4 : Bx y1 (w5.heap.size) #[.int .i64 0, .int .i64 0, .int .i64 0, .int .i64 0, .slice none 0 0] 25 := (by with_reducible exact Bx.step N4 hb_))); (try (have LM3 := Bx.lt M3)); (try (have LM4 := Bx.lt M4)))
            | (go_at_call 20; (with_reducible first | refine (mGrid_any _ _ _ _ _ _ _ [um, vm] _ _ _ _ _ _ _ xsm (⟨km, 2, um, vm, xsm⟩, 0) y1 T1.out QSQ.out HG1.out).mono ?_ | refine (mGrid_any _ _ _ _ _ _ _ [um, vm] _ _ _ _ _ _ _ xsm (⟨km, 2, um, vm, xsm⟩, 0) _ (T1.out.step O1) (QSQ.out.step O1) HG1.out).mono ?_); intro e y2 hR_; obtain ⟨Ay2, ny2, cy2, rfl, hSy, hNy, hb_⟩ := RetA.flat hR_; have R2 : Below w5.heap.size w5 y2 := (by with_reducible first | exact bst R1 hb_ | exact bst (bal R1 _) hb_); have ss2 := R2.size; have O2 : Below y2.heap.size y2 (y2.alloc (.cells #[.int .i64 0, .int .i64 0, .int .i64 0, .int .i64 0, .slice none 0 0] 25)) := below1 _ _; have NO2 : Bx (y2.alloc (.cells #[.int .i64 0, .int .i64 0, .int .i64 0, .int .i64 0, .slice none 0 0] 25)) (y2.heap.size) #[.int .i64 0, .int .i64 0, .int .i64 0, .int .i64 0, .slice none 0 0] 25 := Bx.new y2 _ _; have step_ : Below y1.heap.size y1 y2 := (by with_reducible first | exact hb_ | exact bst O1 hb_); have QSQ := Lib.hid (SQ.out.step R2); have T1 := Lib.hid (T1.out.step step_); (try (have M3 : Bx y2 (w5.heap.size + 1) #[.int .i64 0, .int .i64 0, .int .i64 0, .int .i64 0, .slice none 0 0] 25 := (by with_reducible exact Bx.step M3 hb_))); (try (have M4 : Bx y2 (w5.heap.size) #[.int .i64 0, .int .i64 0, .int .i64 0, .int .i64 0, .slice none 0 0] 25 := (by with_reducible exact Bx.step M4 hb_))); (try (have K1 : Bx y2 (y1.heap.size) #[.int .i64 0, .int .i64 0, .int .i64 0, .int .i64 0, .slice none 0 0] 25 := (by with_reducible exact Bx.step NO1 hb_))); (first | (have gB : ∀ i, y2.cell? ⟨(w5.heap.size + 1), i, none⟩ = _ := Bx.cell M3; have kB : ∀ i, y2.frozen? ⟨(w5.heap.size + 1), i, none⟩ = false := Bx.frozen M3) | (have gB : ∀ i, y2.cell? ⟨(w5.heap.size), i, none⟩ = _ := Bx.cell M4; have kB : ∀ i, y2.frozen? ⟨(w5.heap.size), i, none⟩ = false := Bx.frozen M4) | (have gB : ∀ i, y2.cell? ⟨(y1.heap.size), i, none⟩ = _ := Bx.cell K1; have kB : ∀ i, y2.frozen? ⟨(y1.heap.size), i, none⟩ = false := Bx.frozen K1) | skip)))
        all_goals go_wp2_with fail
        all_goals go_meet
        · exact ⟨y2.heap.size, Ay2, ny2, cy2, rfl, rfl, bal R2 _, Lib.hid (Bx.new y2 _ _), Lib.hid (hSy.step (below1 _ _)), R2.size, Lib.hid (hNy.mono ss1), Lib.hid (hSy.ne_lo (Nat.le_refl _))⟩
        · exact ⟨(y1.heap.size), Ay2, ny2, cy2, rfl, rfl, below_set5' R2 R1.size _ _ _ _ _, Lib.hid (Bx.set5 K1 _ _ _ _ _), Lib.hid (hSy.past5 _ _ _ _ _ fun b o e => by have h_ := hNy b o none e; rw [World.size_alloc] at h_; omega), R1.size, Lib.hid (hNy.mono (by rw [World.size_alloc]; omega)), Lib.hid (fun _ b o e => by have h_ := hNy b o none e; rw [World.size_alloc] at h_; omega)⟩
        · exact ⟨(w5.heap.size + 1), Ay2, ny2, cy2, rfl, rfl, below_set5' R2 (Nat.le_succ _) _ _ _ _ _, Lib.hid (Bx.set5 M3 _ _ _ _ _), Lib.hid (hSy.past5 _ _ _ _ _ fun b o e => by have h_ := hNy b o none e; have l_ := LM3; omega), (Nat.le_succ _), Lib.hid (hNy.mono ss1), Lib.hid (fun _ b o e => by have h_ := hNy b o none e; have l_ := LM3; omega)⟩
        · exact ⟨(w5.heap.size), Ay2, ny2, cy2, rfl, rfl, below_set5' R2 (Nat.le_refl _) _ _ _ _ _, Lib.hid (Bx.set5 M4 _ _ _ _ _), Lib.hid (hSy.past5 _ _ _ _ _ fun b o e => by have h_ := hNy b o none e; have l_ := LM4; omega), (Nat.le_refl _), Lib.hid (hNy.mono ss1), Lib.hid (fun _ b o e => by have h_ := hNy b o none e; have l_ := LM4; omega)⟩
      case rest =>
      obtain ⟨B6, A6, n6, c6, rfl, rfl, hst, HX_, HS_, hB6, NSH, ne_SH_XH⟩ := hcut
      obtain ⟨w6, hw6⟩ : ∃ w6, wc = w6 := ⟨_, rfl⟩
      rw [hw6] at hst HX_ HS_
      rw [hw6]
      clear hw6
      replace Xm := Bx.step Xm hst
      replace Xv := Bx.step Xv hst
      replace Xl := Bx.step Xl hst
      replace XQ := Bx.step XQ hst
      replace Sm := Lib.hid (Sm.out.step hst)
      replace Sv := Lib.hid (Sv.out.step hst)
      replace SQ := Lib.hid (SQ.out.step hst)
      replace bW := bst bW hst
      have XH := HX_.out
      have SH := HS_
      clear hst HX_ HS_
      have dXm : ∀ i, w6.cell? ⟨w.heap.size, i, none⟩ = _ := Bx.cell Xm
      have eXm : ∀ i, w6.frozen? ⟨w.heap.size, i, none⟩ = false := Bx.frozen Xm
      have qXm := Bx.lt Xm
      have dXv : ∀ i, w6.cell? ⟨w.heap.size + 1, i, none⟩ = _ := Bx.cell Xv
      have eXv : ∀ i, w6.frozen? ⟨w.heap.size + 1, i, none⟩ = false := Bx.frozen Xv
      have qXv := Bx.lt Xv
      have dXl : ∀ i, w6.cell? ⟨w.heap.size + 1 + 1, i, none⟩ = _ := Bx.cell Xl
      have eXl : ∀ i, w6.frozen? ⟨w.heap.size + 1 + 1, i, none⟩ = false := Bx.frozen Xl
      have qXl := Bx.lt Xl
      have dXQ : ∀ i, w6.cell? ⟨w4.heap.size, i, none⟩ = _ := Bx.cell XQ
      have eXQ : ∀ i, w6.frozen? ⟨w4.heap.size, i, none⟩ = false := Bx.frozen XQ
      have qXQ := Bx.lt XQ
      have dXH : ∀ i, w6.cell? ⟨B6, i, none⟩ = _ := Bx.cell XH
      have eXH : ∀ i, w6.frozen? ⟨B6, i, none⟩ = false := Bx.frozen XH
      have qXH := Bx.lt XH
      go_wp2_with fail
      refine (is_true _ _ _ _ _ _ _ xsm _ _ _ _ SH.out Sm.out).mono ?_
      rintro e w7 ⟨rfl, hst⟩
      clear dXm eXm qXm dXv eXv qXv dXl eXl qXl dXQ eXQ qXQ dXH eXH qXH
      replace Xm := Bx.step Xm hst
      replace Xv := Bx.step Xv hst
      replace Xl := Bx.step Xl hst
      replace XQ := Bx.step XQ hst
      replace XH := Bx.step XH hst
      replace Sm := Lib.hid (Sm.out.step hst)
      replace Sv := Lib.hid (Sv.out.step hst)
      replace SQ := Lib.hid (SQ.out.step hst)
      replace SH := Lib.hid (SH.out.step hst)
      replace bW : Below w3.heap.size w3 w7 := bst bW hst
      clear hst
      have dXm : ∀ i, w7.cell? ⟨w.heap.size, i, none⟩ = _ := Bx.cell Xm
      have eXm : ∀ i, w7.frozen? ⟨w.heap.size, i, none⟩ = false := Bx.frozen Xm
      have qXm := Bx.lt Xm
      have dXv : ∀ i, w7.cell? ⟨w.heap.size + 1, i, none⟩ = _ := Bx.cell Xv
      have eXv : ∀ i, w7.frozen? ⟨w.heap.size + 1, i, none⟩ = false := Bx.frozen Xv
      have qXv := Bx.lt Xv
      have dXl : ∀ i, w7.cell? ⟨w.heap.size + 1 + 1, i, none⟩ = _ := Bx.cell Xl
      have eXl : ∀ i, w7.frozen? ⟨w.heap.size + 1 + 1, i, none⟩ = false := Bx.frozen Xl
      have qXl := Bx.lt Xl
      have dXQ : ∀ i, w7.cell? ⟨w4.heap.size, i, none⟩ = _ := Bx.cell XQ
      have eXQ : ∀ i, w7.frozen? ⟨w4.heap.size, i, none⟩ = false := Bx.frozen XQ
      have qXQ := Bx.lt XQ
      have dXH : ∀ i, w7.cell? ⟨B6, i, none⟩ = _ := Bx.cell XH
      have eXH : ∀ i, w7.frozen? ⟨B6, i, none⟩ = false := Bx.frozen XH
      have qXH := Bx.lt XH
      go_wp2_with fail
      go_meet
      exact bW
  case rest =>
  have hst := hcut
  clear hcut
  obtain ⟨w4, hw_⟩ : ∃ w4, wc = w4 := ⟨_, rfl⟩
  rw [hw_] at hst
  rw [hw_]
  clear hw_
  replace Xm := Bx.step Xm hst
  replace Xv := Bx.step Xv hst
  replace Xl := Bx.step Xl hst
  replace Sm := Lib.hid (Sm.out.step hst)
  replace Sv := Lib.hid (Sv.out.step hst)
  replace b := bst b hst
  clear hst
  have dXm : ∀ i, w4.cell? ⟨w.heap.size, i, none⟩ = _ := Bx.cell Xm
  have eXm : ∀ i, w4.frozen? ⟨w.heap.size, i, none⟩ = false := Bx.frozen Xm
  have qXm := Bx.lt Xm
  have dXv : ∀ i, w4.cell? ⟨w.heap.size + 1, i, none⟩ = _ := Bx.cell Xv
  have eXv : ∀ i, w4.frozen? ⟨w.heap.size + 1, i, none⟩ = false := Bx.frozen Xv
  have qXv := Bx.lt Xv
  have dXl : ∀ i, w4.cell? ⟨w.heap.size + 1 + 1, i, none⟩ = _ := Bx.cell Xl
  have eXl : ∀ i, w4.frozen? ⟨w.heap.size + 1 + 1, i, none⟩ = false := Bx.frozen Xl
  have qXl := Bx.lt Xl
  go_wp2_with fail
  refine (racheck_any _ _ _ _ _ _ _ xsv 0 _ Sv.out HV.out).mono ?_
  rintro e w5 ⟨rfl, hst⟩
  clear dXm eXm qXm dXv eXv qXv dXl eXl qXl
  replace Xm := Bx.step Xm hst
  replace Xv := Bx.step Xv hst
  replace Xl := Bx.step Xl hst
  replace Sm := Lib.hid (Sm.out.step hst)
  replace Sv := Lib.hid (Sv.out.step hst)
  replace b : Below w.heap.size w w5 := bst b hst
  clear hst
  have dXm : ∀ i, w5.cell? ⟨w.heap.size, i, none⟩ = _ := Bx.cell Xm
  have eXm : ∀ i, w5.frozen? ⟨w.heap.size, i, none⟩ = false := Bx.frozen Xm
  have qXm := Bx.lt Xm
  have dXv : ∀ i, w5.cell? ⟨w.heap.size + 1, i, none⟩ = _ := Bx.cell Xv
  have eXv : ∀ i, w5.frozen? ⟨w.heap.size + 1, i, none⟩ = false := Bx.frozen Xv
  have qXv := Bx.lt Xv
  have dXl : ∀ i, w5.cell? ⟨w.heap.size + 1 + 1, i, none⟩ = _ := Bx.cell Xl
  have eXl : ∀ i, w5.frozen? ⟨w.heap.size + 1 + 1, i, none⟩ = false := Bx.frozen Xl
  have qXl := Bx.lt Xl
  go_wp2
  go_quiet (fail)
  obtain ⟨w6, hw_⟩ : ∃ w6, w5.drewN nq = w6 := ⟨_, rfl⟩
  rw [hw_]
  have hst : Below w5.heap.size w5 w6 := by rw [← hw_]; exact bdn (Below.refl _ _) _
  clear hw_
  clear dXm eXm qXm dXv eXv qXv dXl eXl qXl
  replace Xm := Bx.step Xm hst
  replace Xv := Bx.step Xv hst
  replace Xl := Bx.step Xl hst
  replace Sm := Lib.hid (Sm.out.step hst)
  replace Sv := Lib.hid (Sv.out.step hst)
  replace b := bst b hst
  clear hst
  have dXm : ∀ i, w6.cell? ⟨w.heap.size, i, none⟩ = _ := Bx.cell Xm
  have eXm : ∀ i, w6.frozen? ⟨w.heap.size, i, none⟩ = false := Bx.frozen Xm
  have qXm := Bx.lt Xm
  have dXv : ∀ i, w6.cell? ⟨w.heap.size + 1, i, none⟩ = _ := Bx.cell Xv
  have eXv : ∀ i, w6.frozen? ⟨w.heap.size + 1, i, none⟩ = false := Bx.frozen Xv
  have qXv := Bx.lt Xv
  have dXl : ∀ i, w6.cell? ⟨w.heap.size + 1 + 1, i, none⟩ = _ := Bx.cell Xl
  have eXl : ∀ i, w6.frozen? ⟨w.heap.size + 1 + 1, i, none⟩ = false := Bx.frozen Xl
  have qXl := Bx.lt Xl
  go_wp2_with fail
  clear dXm eXm qXm dXv eXv qXv dXl eXl qXl
  go_cut [13, 14] from 84 to 92 (fun p e wx => ∃ (B : Nat) (A : Option Addr) (n c : Nat), p = .pointer (some ⟨B, 0, none⟩) ∧ e = .int .i64 15 ∧ Below w6.heap.size w6 wx ∧ Hid (Bx wx B #[.int .i64 k1, .int .i64 r1, .int .i64 u1, .int .i64 v1, .slice A n c] 25) ∧ Hid (Sl wx A n c xs1) ∧ w6.heap.size ≤ B ∧ Hid (New w6 A) ∧ Hid (0 < n → ∀ b o, A = some ⟨b, o, none⟩ → b ≠ B))
  case first =>
    have hS : ∀ u, Below w6.heap.size w6 u → (∀ i, u.cell? ⟨w.heap.size + 1, i, none⟩ = #[.int .i64 kv, .int .i64 rv, .int .i64 uv, .int .i64 vv, .slice Av nv cv][i]?) := fun u h => Bx.cell (Bx.step Xv h)
    have P0 : Below w6.heap.size w6 w6.drew := bdr (Below.refl _ _)
    have P1 : Below w6.heap.size w6 (w6.alloc (.cells #[.int .i64 0, .int .i64 0, .int .i64 0, .int .i64 0, .slice none 0 0] 25)).drew := bdr (bal (Below.refl _ _) _)
    have P2 : Below w6.heap.size w6 (w6.alloc (.cells #[.int .i64 (x : Int), .int .i64 (y : Int)] 2)).drew := bdr (bal (Below.refl _ _) _)
    have P3 : Below w6.heap.size w6 ((w6.alloc (.cells #[.int .i64 (x : Int), .int .i64 (y : Int)] 2)).alloc (.cells #[.int .i64 0, .int .i64 0, .int .i64 0, .int .i64 0, .slice none 0 0] 25)).drew := bdr (bal (bal (Below.refl _ _) _) _)
    have P4 : Below w6.heap.size w6 ((w6.alloc (.cells #[.int .i64 0, .int .i64 0, .int .i64 0, .int .i64 0, .slice none 0 0] 25)).alloc (.cells #[.int .i64 (x : Int), .int .i64 (y : Int)] 2)).drew := bdr (bal (bal (Below.refl _ _) _) _)
    have L2 := Lib.hid (show Sl (w6.alloc (.cells #[.int .i64 (x : Int), .int .i64 (y : Int)] 2)).drew (some ⟨w6.heap.size, 0, none⟩) 2 2 [(x : Int), (y : Int)] from slLit w6 _ 2 rfl (by omega))
    have L3 := Lib.hid (show Sl ((w6.alloc (.cells #[.int .i64 (x : Int), .int .i64 (y : Int)] 2)).alloc (.cells #[.int .i64 0, .int .i64 0, .int .i64 0, .int .i64 0, .slice none 0 0] 25)).drew (some ⟨w6.heap.size, 0, none⟩) 2 2 [(x : Int), (y : Int)] from Sl.step (w := w6.alloc (.cells #[.int .i64 (x : Int), .int .i64 (y : Int)] 2)) (slLit w6 _ 2 rfl (by omega)) (bdr (below1 _ _)))
    have h1_ : (w6.alloc (.cells #[.int .i64 0, .int .i64 0, .int .i64 0, .int .i64 0, .slice none 0 0] 25)).heap.size = w6.heap.size + 1 := by simp
    have h2_ : (w6.alloc (.cells #[.int .i64 (x : Int), .int .i64 (y : Int)] 2)).heap.size = w6.heap.size + 1 := by simp
    have L4 := Lib.hid (show Sl ((w6.alloc (.cells #[.int .i64 0, .int .i64 0, .int .i64 0, .int .i64 0, .slice none 0 0] 25)).alloc (.cells #[.int .i64 (x : Int), .int .i64 (y : Int)] 2)).drew (some ⟨w6.heap.size + 1, 0, none⟩) 2 2 [(x : Int), (y : Int)] by rw [← h1_]; exact slLit (w6.alloc (.cells #[.int .i64 0, .int .i64 0, .int .i64 0, .int .i64 0, .slice none 0 0] 25)) _ 2 rfl (by omega))
    have N3 : Bx ((w6.alloc (.cells #[.int .i64 (x : Int), .int .i64 (y : Int)] 2)).alloc (.cells #[.int .i64 0, .int .i64 0, .int .i64 0, .int .i64 0, .slice none 0 0] 25)).drew (w6.heap.size + 1) #[.int .i64 0, .int .i64 0, .int .i64 0, .int .i64 0, .slice none 0 0] 25 := by rw [← h2_]; exact Bx.new (w6.alloc (.cells #[.int .i64 (x : Int), .int .i64 (y : Int)] 2)) _ _
    have N4 : Bx ((w6.alloc (.cells #[.int .i64 0, .int .i64 0, .int .i64 0, .int .i64 0, .slice none 0 0] 25)).alloc (.cells #[.int .i64 (x : Int), .int .i64 (y : Int)] 2)).drew (w6.heap.size) #[.int .i64 0, .int .i64 0, .int .i64 0, .int .i64 0, .slice none 0 0] 25 := Bx.alloc (Bx.new w6 _ _) _
    clear h1_ h2_
    go_region_held3 (fun w' => (∀ i, w'.cell? ⟨w.heap.size + 1, i, none⟩ = #[.int .i64 kv, .int .i64 rv, .int .i64 uv, .int .i64 vv, .slice Av nv cv][i]?))
      (with_reducible first | exact hS _ P0 | exact hS _ P1 | exact hS _ P2 | exact hS _ P3 | exact hS _ P4 | exact hS _ R1 | exact hS _ (bal R1 _) | exact hS _ R2 | exact hS _ (bal R2 _) | exact hS _ (below_set5' R2 (Nat.le_succ _) _ _ _ _ _) | exact hS _ (below_set5' R2 (Nat.le_refl _) _ _ _ _ _) | exact hS _ (below_set5' R2 R1.size _ _ _ _ _))
      (first
        | (go_at_call 35; (with_reducible first | refine (ints_any (some ⟨w6.heap.size, 0, none⟩) 2 2 [(x : Int), (y : Int)] ((w6.alloc (.cells #[.int .i64 (x : Int), .int .i64 (y : Int)] 2)).drew) L2.out (by omega)).mono ?_ | refine (ints_any (some ⟨w6.heap.size, 0, none⟩) 2 2 [(x : Int), (y : Int)] (((w6.alloc (.cells #[.int .i64 (x : Int), .int .i64 (y : Int)] 2)).alloc (.cells #[.int .i64 0, .int .i64 0, .int .i64 0, .int .i64 0, .slice none 0 0] 25)).drew) L3.out (by omega)).mono ?_ | refine (ints_any (some ⟨w6.heap.size + 1, 0, none⟩) 2 2 [(x : Int), (y : Int)] (((w6.alloc (.cells #[.int .i64 0, .int .i64 0, .int .i64 0, .int .i64 0, .slice none 0 0] 25)).alloc (.cells #[.int .i64 (x : Int), .int .i64 (y : Int)] 2)).drew) L4.out (by omega)).mono ?_); rintro e y1 ⟨⟨Ay1, ny1, cy1, rfl, hSy, hNy⟩, hb_⟩; have R1 : Below w6.heap.size w6 y1 := (by with_reducible first | exact bst P2 hb_ | exact bst P3 hb_ | exact bst P4 hb_); have ss1 := R1.size; have O1 : Below y1.heap.size y1 (y1.alloc (.cells #[.int .i64 0, .int .i64 0, .int .i64 0, .int .i64 0, .slice none 0 0] 25)) := below1 _ _; have NO1 : Bx (y1.alloc (.cells #[.int .i64 0, .int .i64 0, .int .i64 0, .int .i64 0, .slice none 0 0] 25)) (y1.heap.size) #[.int .i64 0, .int .i64 0, .int .i64 0, .int .i64 0, .slice none 0 0] 25 := Bx.new y1 _ _; have QSv := Lib.hid (Sv.out.step R1); have T1 := Lib.hid hSy; clear hSy; (try (have M3 : Bx y1 (w6.heap.size + 1) #[.int .i64 0, .int .i64 0, .int .i64 0, .int .i64 0, .slice none 0 0] 25 := (by with_reducible exact Bx.step N3 hb_))); (try (have M4 : Bx y1 (w6.heap.size) #[.int .i64 0, .int .i64 0, .int .i64 0, .int .i64 0, .slice none 0 0] 25 := (by with_reducible exact Bx.step N4 hb_))); (try (have LM3 := Bx.lt M3)); (try (have LM4 := Bx.lt M4)))
        | (go_at_call 20; (with_reducible first | refine (mGrid_any _ _ _ _ _ _ _ [(x : Int), (y : Int)] _ _ _ _ _ _ _ xsv (⟨k1, r1, u1, v1, xs1⟩, 15) y1 T1.out QSv.out HG.out).mono ?_ | refine (mGrid_any _ _ _ _ _ _ _ [(x : Int), (y : Int)] _ _ _ _ _ _ _ xsv (⟨k1, r1, u1, v1, xs1⟩, 15) _ (T1.out.step O1) (QSv.out.step O1) HG.out).mono ?_); intro e y2 hR_; obtain ⟨Ay2, ny2, cy2, rfl, hSy, hNy, hb_⟩ := RetA.flat hR_; have R2 : Below w6.heap.size w6 y2 := (by with_reducible first | exact bst R1 hb_ | exact bst (bal R1 _) hb_); have ss2 := R2.size; have O2 : Below y2.heap.size y2 (y2.alloc (.cells #[.int .i64 0, .int .i64 0, .int .i64 0, .int .i64 0, .slice none 0 0] 25)) := below1 _ _; have NO2 : Bx (y2.alloc (.cells #[.int .i64 0, .int .i64 0, .int .i64 0, .int .i64 0, .slice none 0 0] 25)) (y2.heap.size) #[.int .i64 0, .int .i64 0, .int .i64 0, .int .i64 0, .slice none 0 0] 25 := Bx.new y2 _ _; have step_ : Below y1.heap.size y1 y2 := (by with_reducible first | exact hb_ | exact bst O1 hb_); have QSv := Lib.hid (Sv.out.step R2); have T1 := Lib.hid (T1.out.step step_); (try (have M3 : Bx y2 (w6.heap.size + 1) #[.int .i64 0, .int .i64 0, .int .i64 0, .int .i64 0, .slice none 0 0] 25 := (by with_reducible exact Bx.step M3 hb_))); (try (have M4 : Bx y2 (w6.heap.size) #[.int .i64 0, .int .i64 0, .int .i64 0, .int .i64 0, .slice none 0 0] 25 := (by with_reducible exact Bx.step M4 hb_))); (try (have K1 : Bx y2 (y1.heap.size) #[.int .i64 0, .int .i64 0, .int .i64 0, .int .i64 0, .slice none 0 0] 25 := (by with_reducible exact Bx.step NO1 hb_))); (first | (have gB : ∀ i, y2.cell? ⟨(w6.heap.size + 1), i, none⟩ = _ := Bx.cell M3; have kB : ∀ i, y2.frozen? ⟨(w6.heap.size + 1), i, none⟩ = false := Bx.frozen M3) | (have gB : ∀ i, y2.cell? ⟨(w6.heap.size), i, none⟩ = _ := Bx.cell M4; have kB : ∀ i, y2.frozen? ⟨(w6.heap.size), i, none⟩ = false := Bx.frozen M4) | (have gB : ∀ i, y2.cell? ⟨(y1.heap.size), i, none⟩ = _ := Bx.cell K1; have kB : ∀ i, y2.frozen? ⟨(y1.heap.size), i, none⟩ = false := Bx.frozen K1) | skip)))
    all_goals go_wp2_with fail
    all_goals go_meet
    · exact ⟨y2.heap.size, Ay2, ny2, cy2, rfl, rfl, bal R2 _, Lib.hid (Bx.new y2 _ _), Lib.hid (hSy.step (below1 _ _)), R2.size, Lib.hid (hNy.mono ss1), Lib.hid (hSy.ne_lo (Nat.le_refl _))⟩
    · exact ⟨(y1.heap.size), Ay2, ny2, cy2, rfl, rfl, below_set5' R2 R1.size _ _ _ _ _, Lib.hid (Bx.set5 K1 _ _ _ _ _), Lib.hid (hSy.past5 _ _ _ _ _ fun b o e => by have h_ := hNy b o none e; rw [World.size_alloc] at h_; omega), R1.size, Lib.hid (hNy.mono (by rw [World.size_alloc]; omega)), Lib.hid (fun _ b o e => by have h_ := hNy b o none e; rw [World.size_alloc] at h_; omega)⟩
    · exact ⟨(w6.heap.size + 1), Ay2, ny2, cy2, rfl, rfl, below_set5' R2 (Nat.le_succ _) _ _ _ _ _, Lib.hid (Bx.set5 M3 _ _ _ _ _), Lib.hid (hSy.past5 _ _ _ _ _ fun b o e => by have h_ := hNy b o none e; have l_ := LM3; omega), (Nat.le_succ _), Lib.hid (hNy.mono ss1), Lib.hid (fun _ b o e => by have h_ := hNy b o none e; have l_ := LM3; omega)⟩
    · exact ⟨(w6.heap.size), Ay2, ny2, cy2, rfl, rfl, below_set5' R2 (Nat.le_refl _) _ _ _ _ _, Lib.hid (Bx.set5 M4 _ _ _ _ _), Lib.hid (hSy.past5 _ _ _ _ _ fun b o e => by have h_ := hNy b o none e; have l_ := LM4; omega), (Nat.le_refl _), Lib.hid (hNy.mono ss1), Lib.hid (fun _ b o e => by have h_ := hNy b o none e; have l_ := LM4; omega)⟩
  case rest =>
  obtain ⟨B7, A7, n7, c7, rfl, rfl, hst, HX_, HS_, hB7, NSG, ne_SG_XG⟩ := hcut
  obtain ⟨w7, hw7⟩ : ∃ w7, wc = w7 := ⟨_, rfl⟩
  rw [hw7] at hst HX_ HS_
  rw [hw7]
  clear hw7
  replace Xm := Bx.step Xm hst
  replace Xv := Bx.step Xv hst
  replace Xl := Bx.step Xl hst
  replace Sm := Lib.hid (Sm.out.step hst)
  replace Sv := Lib.hid (Sv.out.step hst)
  replace b := bst b hst
  have XG := HX_.out
  have SG := HS_
  clear hst HX_ HS_
  have dXm : ∀ i, w7.cell? ⟨w.heap.size, i, none⟩ = _ := Bx.cell Xm
  have eXm : ∀ i, w7.frozen? ⟨w.heap.size, i, none⟩ = false := Bx.frozen Xm
  have qXm := Bx.lt Xm
  have dXv : ∀ i, w7.cell? ⟨w.heap.size + 1, i, none⟩ = _ := Bx.cell Xv
  have eXv : ∀ i, w7.frozen? ⟨w.heap.size + 1, i, none⟩ = false := Bx.frozen Xv
  have qXv := Bx.lt Xv
  have dXl : ∀ i, w7.cell? ⟨w.heap.size + 1 + 1, i, none⟩ = _ := Bx.cell Xl
  have eXl : ∀ i, w7.frozen? ⟨w.heap.size + 1 + 1, i, none⟩ = false := Bx.frozen Xl
  have qXl := Bx.lt Xl
  have dXG : ∀ i, w7.cell? ⟨B7, i, none⟩ = _ := Bx.cell XG
  have eXG : ∀ i, w7.frozen? ⟨B7, i, none⟩ = false := Bx.frozen XG
  have qXG := Bx.lt XG
  go_wp2_with fail
  refine (awake_any _).mono ?_
  rintro e wz ⟨rfl, hbz⟩
  go_wp2
  go_ret
  exact ⟨rfl, bst b hbz⟩
set_option maxRecDepth 100000 in
set_option maxHeartbeats 16000000 in
theorem shapeX_err13 (km rm um vm : Int) (Am : Option Addr) (nm cm : Nat) (xsm : List Int) (kv rv uv vv : Int) (Av : Option Addr) (nv cv : Nat) (xsv : List Int) (P Q : Nat) (w : World) (hsm : Sl w Am nm cm xsm) (hsv : Sl w Av nv cv xsv) (hfa : ¬ 405 < nm) (hfb : ¬ 405 < nv) (ecm : Int) (hM : achk km rm um vm xsm = ecm) (tv : Bool) (hT : (tv = false ∧ (ecm == 0) = false) ∨ (tv = false ∧ ecm = 0 ∧ (rm == 2) = false) ∨ (tv = true ∧ ecm = 0 ∧ rm = 2 ∧ sRavel ⟨km, 2, um, vm, xsm⟩ = (⟨km, 1, (nm : Int), 0, xsm⟩, 0) ∧ sGrid ⟨1, 1, 2, 0, [um, vm]⟩ ⟨km, 1, (nm : Int), 0, xsm⟩ = (⟨km, 2, um, vm, xsm⟩, 0))) (hV : achk kv rv uv vv xsv = 0) (hrv : (rv != 1) = false) (x y : Nat) (hP : Int.tmod (P : Int) 25 = (x : Int)) (hQ : Int.tmod (Q : Int) 25 = (y : Int)) (_hPb : P ≤ 255) (_hQb : Q ≤ 255) (hx : x ≤ 24) (hy : y ≤ 24) (N : Nat) (hN : IntKind.i64.wrap ((x : Int) * (y : Int)) = (N : Int)) (_hNb : N ≤ 576) (hd1 : decide ((400 : Int) < (N : Int)) = false) (hpos : 0 < N) (hnv : ((nv : Int) == 0) = true) (k1 r1 u1 v1 : Int) (xs1 : List Int) (hG : sGrid ⟨1, 1, 2, 0, [(x : Int), (y : Int)]⟩ ⟨kv, rv, uv, vv, xsv⟩ = (⟨k1, r1, u1, v1, xs1⟩, 13)) :
    Calls Try.prog 10 #[.agg #[.int .i64 km, .int .i64 rm, .int .i64 um, .int .i64 vm, .slice Am nm cm], .agg #[.int .i64 kv, .int .i64 rv, .int .i64 uv, .int .i64 vv, .slice Av nv cv], .agg #[.int .u8 (P : Int), .int .u8 (Q : Int)]] w fun e w' => e = .returned (.bool true) ∧ Below w.heap.size w w' := by
  have Sm := Lib.hid hsm
  have Sv := Lib.hid hsv
  have HSV := Lib.hid hsv
  clear hsm hsv
  have HM := Lib.hid hM
  have HT := Lib.hid hT
  have HV := Lib.hid hV
  have HG := Lib.hid hG
  clear hM hT hV hG
  go_enter Try.func10, Try.ntmps10
  go_wp2_with fail
  refine (far_any _ _ _ _ _ _ _ _).mono ?_
  rintro e w1 ⟨rfl, hst⟩
  obtain ⟨Xm, Xv, Xl, hst⟩ := after3 hst
  replace Sm := Lib.hid (Sm.out.step hst)
  replace Sv := Lib.hid (Sv.out.step hst)
  have b : Below w.heap.size w w1 := hst
  clear hst
  rw [decide_eq_false hfa]
  have dXm : ∀ i, w1.cell? ⟨w.heap.size, i, none⟩ = _ := Bx.cell Xm
  have eXm : ∀ i, w1.frozen? ⟨w.heap.size, i, none⟩ = false := Bx.frozen Xm
  have qXm := Bx.lt Xm
  have dXv : ∀ i, w1.cell? ⟨w.heap.size + 1, i, none⟩ = _ := Bx.cell Xv
  have eXv : ∀ i, w1.frozen? ⟨w.heap.size + 1, i, none⟩ = false := Bx.frozen Xv
  have qXv := Bx.lt Xv
  have dXl : ∀ i, w1.cell? ⟨w.heap.size + 1 + 1, i, none⟩ = _ := Bx.cell Xl
  have eXl : ∀ i, w1.frozen? ⟨w.heap.size + 1 + 1, i, none⟩ = false := Bx.frozen Xl
  have qXl := Bx.lt Xl
  go_wp2_with fail
  refine (far_any _ _ _ _ _ _ _ _).mono ?_
  rintro e w2 ⟨rfl, hst⟩
  clear dXm eXm qXm dXv eXv qXv dXl eXl qXl
  replace Xm := Bx.step Xm hst
  replace Xv := Bx.step Xv hst
  replace Xl := Bx.step Xl hst
  replace Sm := Lib.hid (Sm.out.step hst)
  replace Sv := Lib.hid (Sv.out.step hst)
  replace b : Below w.heap.size w w2 := bst b hst
  clear hst
  rw [decide_eq_false hfb]
  have dXm : ∀ i, w2.cell? ⟨w.heap.size, i, none⟩ = _ := Bx.cell Xm
  have eXm : ∀ i, w2.frozen? ⟨w.heap.size, i, none⟩ = false := Bx.frozen Xm
  have qXm := Bx.lt Xm
  have dXv : ∀ i, w2.cell? ⟨w.heap.size + 1, i, none⟩ = _ := Bx.cell Xv
  have eXv : ∀ i, w2.frozen? ⟨w.heap.size + 1, i, none⟩ = false := Bx.frozen Xv
  have qXv := Bx.lt Xv
  have dXl : ∀ i, w2.cell? ⟨w.heap.size + 1 + 1, i, none⟩ = _ := Bx.cell Xl
  have eXl : ∀ i, w2.frozen? ⟨w.heap.size + 1 + 1, i, none⟩ = false := Bx.frozen Xl
  have qXl := Bx.lt Xl
  go_upto_region 3 with fail
  clear dXm eXm qXm dXv eXv qXv dXl eXl qXl
  go_cut [39] from 25 to 39 (fun t wx => t = .bool tv ∧ Below w2.heap.size w2 wx)
  case first =>
    rcases HT.out with ⟨rfl, h1⟩ | ⟨rfl, he, h1⟩ | ⟨rfl, he, h1, _, _⟩
    · have dXm : ∀ i, w2.cell? ⟨w.heap.size, i, none⟩ = _ := Bx.cell Xm
      have eXm : ∀ i, w2.frozen? ⟨w.heap.size, i, none⟩ = false := Bx.frozen Xm
      have qXm := Bx.lt Xm
      have dXv : ∀ i, w2.cell? ⟨w.heap.size + 1, i, none⟩ = _ := Bx.cell Xv
      have eXv : ∀ i, w2.frozen? ⟨w.heap.size + 1, i, none⟩ = false := Bx.frozen Xv
      have qXv := Bx.lt Xv
      have dXl : ∀ i, w2.cell? ⟨w.heap.size + 1 + 1, i, none⟩ = _ := Bx.cell Xl
      have eXl : ∀ i, w2.frozen? ⟨w.heap.size + 1 + 1, i, none⟩ = false := Bx.frozen Xl
      have qXl := Bx.lt Xl
      go_wp2_with fail
      refine (racheck_any _ _ _ _ _ _ _ xsm ecm _ Sm.out HM.out).mono ?_
      rintro e y ⟨rfl, hb_⟩
      have Y_ := Bx.step Xm hb_
      have dY_ : ∀ i, y.cell? ⟨w.heap.size, i, none⟩ = _ := Bx.cell Y_
      have qY_ := Bx.lt Y_
      clear dXm eXm qXm dXv eXv qXv dXl eXl qXl
      go_wp2_with fail
      go_meet
      exact ⟨rfl, hb_⟩
    · have HE_ := Lib.hid he
      have HM2 := Lib.hid (HM.out.trans HE_.out)
      clear he
      have dXm : ∀ i, w2.cell? ⟨w.heap.size, i, none⟩ = _ := Bx.cell Xm
      have eXm : ∀ i, w2.frozen? ⟨w.heap.size, i, none⟩ = false := Bx.frozen Xm
      have qXm := Bx.lt Xm
      have dXv : ∀ i, w2.cell? ⟨w.heap.size + 1, i, none⟩ = _ := Bx.cell Xv
      have eXv : ∀ i, w2.frozen? ⟨w.heap.size + 1, i, none⟩ = false := Bx.frozen Xv
      have qXv := Bx.lt Xv
      have dXl : ∀ i, w2.cell? ⟨w.heap.size + 1 + 1, i, none⟩ = _ := Bx.cell Xl
      have eXl : ∀ i, w2.frozen? ⟨w.heap.size + 1 + 1, i, none⟩ = false := Bx.frozen Xl
      have qXl := Bx.lt Xl
      go_wp2_with fail
      refine (racheck_any _ _ _ _ _ _ _ xsm 0 _ Sm.out HM2.out).mono ?_
      rintro e y ⟨rfl, hb_⟩
      have Y_ := Bx.step Xm hb_
      have dY_ : ∀ i, y.cell? ⟨w.heap.size, i, none⟩ = _ := Bx.cell Y_
      have qY_ := Bx.lt Y_
      clear dXm eXm qXm dXv eXv qXv dXl eXl qXl
      go_wp2_with fail
      go_meet
      exact ⟨rfl, hb_⟩
    · have HE_ := Lib.hid he
      have HM2 := Lib.hid (HM.out.trans HE_.out)
      clear he
      have h2_ : (rm == 2) = true := by simpa using h1
      clear h1
      have dXm : ∀ i, w2.cell? ⟨w.heap.size, i, none⟩ = _ := Bx.cell Xm
      have eXm : ∀ i, w2.frozen? ⟨w.heap.size, i, none⟩ = false := Bx.frozen Xm
      have qXm := Bx.lt Xm
      have dXv : ∀ i, w2.cell? ⟨w.heap.size + 1, i, none⟩ = _ := Bx.cell Xv
      have eXv : ∀ i, w2.frozen? ⟨w.heap.size + 1, i, none⟩ = false := Bx.frozen Xv
      have qXv := Bx.lt Xv
      have dXl : ∀ i, w2.cell? ⟨w.heap.size + 1 + 1, i, none⟩ = _ := Bx.cell Xl
      have eXl : ∀ i, w2.frozen? ⟨w.heap.size + 1 + 1, i, none⟩ = false := Bx.frozen Xl
      have qXl := Bx.lt Xl
      go_wp2_with fail
      refine (racheck_any _ _ _ _ _ _ _ xsm 0 _ Sm.out HM2.out).mono ?_
      rintro e y ⟨rfl, hb_⟩
      have Y_ := Bx.step Xm hb_
      have dY_ : ∀ i, y.cell? ⟨w.heap.size, i, none⟩ = _ := Bx.cell Y_
      have qY_ := Bx.lt Y_
      clear dXm eXm qXm dXv eXv qXv dXl eXl qXl
      go_wp2_with fail
      go_meet
      exact ⟨rfl, hb_⟩
  case rest =>
  obtain ⟨rfl, hst⟩ := hcut
  obtain ⟨w3, hw_⟩ : ∃ w3, wc = w3 := ⟨_, rfl⟩
  rw [hw_] at hst
  rw [hw_]
  clear hw_
  replace Xm := Bx.step Xm hst
  replace Xv := Bx.step Xv hst
  replace Xl := Bx.step Xl hst
  replace Sm := Lib.hid (Sm.out.step hst)
  replace Sv := Lib.hid (Sv.out.step hst)
  replace b := bst b hst
  clear hst
  go_upto_if 39 with fail
  go_cut [39] from 40 to 66 (fun _ wx => Below w3.heap.size w3 wx)
  case first =>
    rcases HT.out with ⟨rfl, h1⟩ | ⟨rfl, he, h1⟩ | ⟨rfl, he, h1, hR1, hG1⟩
    · go_wp2_with fail
      go_meet
      exact Below.refl _ _
    · go_wp2_with fail
      go_meet
      exact Below.refl _ _
    · have HR1 := Lib.hid hR1
      have HG1 := Lib.hid hG1
      clear he hR1 hG1
      obtain rfl := h1
      have bW : Below w3.heap.size w3 w3 := Below.refl _ _
      have dXm : ∀ i, w3.cell? ⟨w.heap.size, i, none⟩ = _ := Bx.cell Xm
      have eXm : ∀ i, w3.frozen? ⟨w.heap.size, i, none⟩ = false := Bx.frozen Xm
      have qXm := Bx.lt Xm
      have dXv : ∀ i, w3.cell? ⟨w.heap.size + 1, i, none⟩ = _ := Bx.cell Xv
      have eXv : ∀ i, w3.frozen? ⟨w.heap.size + 1, i, none⟩ = false := Bx.frozen Xv
      have qXv := Bx.lt Xv
      have dXl : ∀ i, w3.cell? ⟨w.heap.size + 1 + 1, i, none⟩ = _ := Bx.cell Xl
      have eXl : ∀ i, w3.frozen? ⟨w.heap.size + 1 + 1, i, none⟩ = false := Bx.frozen Xl
      have qXl := Bx.lt Xl
      go_wp2_with fail
      refine (mRavel_any _ _ _ _ _ _ _ xsm (⟨km, 1, (nm : Int), 0, xsm⟩, 0) _ Sm.out HR1.out).mono ?_
      intro e w4 hR
      obtain ⟨A4, n4, c4, rfl, hS4, hN4, hst⟩ := RetA.flat hR
      clear hR
      clear dXm eXm qXm dXv eXv qXv dXl eXl qXl
      replace Xm := Bx.step Xm hst
      replace Xv := Bx.step Xv hst
      replace Xl := Bx.step Xl hst
      replace Sm := Lib.hid (Sm.out.step hst)
      replace Sv := Lib.hid (Sv.out.step hst)
      replace bW : Below w3.heap.size w3 w4 := bst bW hst
      clear hst
      have SQ := Lib.hid hS4
      have NSQ := Lib.hid hN4
      clear hS4 hN4
      have dXm : ∀ i, w4.cell? ⟨w.heap.size, i, none⟩ = _ := Bx.cell Xm
      have eXm : ∀ i, w4.frozen? ⟨w.heap.size, i, none⟩ = false := Bx.frozen Xm
      have qXm := Bx.lt Xm
      have dXv : ∀ i, w4.cell? ⟨w.heap.size + 1, i, none⟩ = _ := Bx.cell Xv
      have eXv : ∀ i, w4.frozen? ⟨w.heap.size + 1, i, none⟩ = false := Bx.frozen Xv
      have qXv := Bx.lt Xv
      have dXl : ∀ i, w4.cell? ⟨w.heap.size + 1 + 1, i, none⟩ = _ := Bx.cell Xl
      have eXl : ∀ i, w4.frozen? ⟨w.heap.size + 1 + 1, i, none⟩ = false := Bx.frozen Xl
      have qXl := Bx.lt Xl
      go_wp2
      have XQ := Bx.new w4 #[.int .i64 km, .int .i64 1, .int .i64 (nm : Int), .int .i64 0, .slice A4 n4 c4] 25
      have hst := below1 w4 (.cells #[.int .i64 km, .int .i64 1, .int .i64 (nm : Int), .int .i64 0, .slice A4 n4 c4] 25)
      obtain ⟨w5, hw_⟩ : ∃ w5, w4.alloc (.cells #[.int .i64 km, .int .i64 1, .int .i64 (nm : Int), .int .i64 0, .slice A4 n4 c4] 25) = w5 := ⟨_, rfl⟩
      rw [hw_] at XQ hst
      rw [hw_]
      clear hw_
      clear dXm eXm qXm dXv eXv qXv dXl eXl qXl
      replace Xm := Bx.step Xm hst
      replace Xv := Bx.step Xv hst
      replace Xl := Bx.step Xl hst
      replace Sm := Lib.hid (Sm.out.step hst)
      replace Sv := Lib.hid (Sv.out.step hst)
      replace SQ := Lib.hid (SQ.out.step hst)
      replace bW := bst bW hst
      clear hst
      go_cut [9, 10] from 46 to 57 (fun p e wx => ∃ (B : Nat) (A : Option Addr) (n c : Nat), p = .pointer (some ⟨B, 0, none⟩) ∧ e = .int .i64 0 ∧ Below w5.heap.size w5 wx ∧ Hid (Bx wx B #[.int .i64 km, .int .i64 2, .int .i64 um, .int .i64 vm, .slice A n c] 25) ∧ Hid (Sl wx A n c xsm) ∧ w5.heap.size ≤ B ∧ Hid (New w5 A) ∧ Hid (0 < n → ∀ b o, A = some ⟨b, o, none⟩ → b ≠ B))
      case first =>
        have hS : ∀ u, Below w5.heap.size w5 u → (∀ i, u.cell? ⟨w.heap.size, i, none⟩ = #[.int .i64 km, .int .i64 2, .int .i64 um, .int .i64 vm, .slice Am nm cm][i]?) ∧ (∀ i, u.cell? ⟨w4.heap.size, i, none⟩ = #[.int .i64 km, .int .i64 1, .int .i64 (nm : Int), .int .i64 0, .slice A4 n4 c4][i]?) := fun u h => ⟨Bx.cell (Bx.step Xm h), Bx.cell (Bx.step XQ h)⟩
        have P0 : Below w5.heap.size w5 w5.drew := bdr (Below.refl _ _)
        have P1 : Below w5.heap.size w5 (w5.alloc (.cells #[.int .i64 0, .int .i64 0, .int .i64 0, .int .i64 0, .slice none 0 0] 25)).drew := bdr (bal (Below.refl _ _) _)
        have P2 : Below w5.heap.size w5 (w5.alloc (.cells #[.int .i64 um, .int .i64 vm] 2)).drew := bdr (bal (Below.refl _ _) _)
        have P3 : Below w5.heap.size w5 ((w5.alloc (.cells #[.int .i64 um, .int .i64 vm] 2)).alloc (.cells #[.int .i64 0, .int .i64 0, .int .i64 0, .int .i64 0, .slice none 0 0] 25)).drew := bdr (bal (bal (Below.refl _ _) _) _)
        have P4 : Below w5.heap.size w5 ((w5.alloc (.cells #[.int .i64 0, .int .i64 0, .int .i64 0, .int .i64 0, .slice none 0 0] 25)).alloc (.cells #[.int .i64 um, .int .i64 vm] 2)).drew := bdr (bal (bal (Below.refl _ _) _) _)
        have L2 := Lib.hid (show Sl (w5.alloc (.cells #[.int .i64 um, .int .i64 vm] 2)).drew (some ⟨w5.heap.size, 0, none⟩) 2 2 [um, vm] from slLit w5 _ 2 rfl (by omega))
        have L3 := Lib.hid (show Sl ((w5.alloc (.cells #[.int .i64 um, .int .i64 vm] 2)).alloc (.cells #[.int .i64 0, .int .i64 0, .int .i64 0, .int .i64 0, .slice none 0 0] 25)).drew (some ⟨w5.heap.size, 0, none⟩) 2 2 [um, vm] from Sl.step (w := w5.alloc (.cells #[.int .i64 um, .int .i64 vm] 2)) (slLit w5 _ 2 rfl (by omega)) (bdr (below1 _ _)))
        have h1_ : (w5.alloc (.cells #[.int .i64 0, .int .i64 0, .int .i64 0, .int .i64 0, .slice none 0 0] 25)).heap.size = w5.heap.size + 1 := by simp
        have h2_ : (w5.alloc (.cells #[.int .i64 um, .int .i64 vm] 2)).heap.size = w5.heap.size + 1 := by simp
        have L4 := Lib.hid (show Sl ((w5.alloc (.cells #[.int .i64 0, .int .i64 0, .int .i64 0, .int .i64 0, .slice none 0 0] 25)).alloc (.cells #[.int .i64 um, .int .i64 vm] 2)).drew (some ⟨w5.heap.size + 1, 0, none⟩) 2 2 [um, vm] by rw [← h1_]; exact slLit (w5.alloc (.cells #[.int .i64 0, .int .i64 0, .int .i64 0, .int .i64 0, .slice none 0 0] 25)) _ 2 rfl (by omega))
        have N3 : Bx ((w5.alloc (.cells #[.int .i64 um, .int .i64 vm] 2)).alloc (.cells #[.int .i64 0, .int .i64 0, .int .i64 0, .int .i64 0, .slice none 0 0] 25)).drew (w5.heap.size + 1) #[.int .i64 0, .int .i64 0, .int .i64 0, .int .i64 0, .slice none 0 0] 25 := by rw [← h2_]; exact Bx.new (w5.alloc (.cells #[.int .i64 um, .int .i64 vm] 2)) _ _
        have N4 : Bx ((w5.alloc (.cells #[.int .i64 0, .int .i64 0, .int .i64 0, .int .i64 0, .slice none 0 0] 25)).alloc (.cells #[.int .i64 um, .int .i64 vm] 2)).drew (w5.heap.size) #[.int .i64 0, .int .i64 0, .int .i64 0, .int .i64 0, .slice none 0 0] 25 := Bx.alloc (Bx.new w5 _ _) _
        clear h1_ h2_
        go_region_held3 (fun w' => (∀ i, w'.cell? ⟨w.heap.size, i, none⟩ = #[.int .i64 km, .int .i64 2, .int .i64 um, .int .i64 vm, .slice Am nm cm][i]?) ∧ (∀ i, w'.cell? ⟨w4.heap.size, i, none⟩ = #[.int .i64 km, .int .i64 1, .int .i64 (nm : Int), .int .i64 0, .slice A4 n4 c4][i]?))
          (with_reducible first | exact hS _ P0 | exact hS _ P1 | exact hS _ P2 | exact hS _ P3 | exact hS _ P4 | exact hS _ R1 | exact hS _ (bal R1 _) | exact hS _ R2 | exact hS _ (bal R2 _) | exact hS _ (below_set5' R2 (Nat.le_succ _) _ _ _ _ _) | exact hS _ (below_set5' R2 (Nat.le_refl _) _ _ _ _ _) | exact hS _ (below_set5' R2 R1.size _ _ _ _ _))
          (first
            | (go_at_call 35; (with_reducible first | refine (ints_any (some ⟨w5.heap.size, 0, none⟩) 2 2 [um, vm] ((w5.alloc (.cells #[.int .i64 um, .int .i64 vm] 2)).drew) L2.out (by omega)).mono ?_ | refine (ints_any (some ⟨w5.heap.size, 0, none⟩) 2 2 [um, vm] (((w5.alloc (.cells #[.int .i64 um, .int .i64 vm] 2)).alloc (.cells #[.int .i64 0, .int .i64 0, .int .i64 0, .int .i64 0, .slice none 0 0] 25)).drew) L3.out (by omega)).mono ?_ | refine (ints_any (some ⟨w5.heap.size + 1, 0, none⟩) 2 2 [um, vm] (((w5.alloc (.cells #[.int .i64 0, .int .i64 0, .int .i64 0, .int .i64 0, .slice none 0 0] 25)).alloc (.cells #[.int .i64 um, .int .i64 vm] 2)).drew) L4.out (by omega)).mono ?_); rintro e y1 ⟨⟨Ay1, ny1, cy1, rfl, hSy, hNy⟩, hb_⟩; have R1 : Below w5.heap.size w5 y1 := (by with_reducible first | exact bst P2 hb_ | exact bst P3 hb_ | exact bst P4 hb_); have ss1 := R1.size; have O1 : Below y1.heap.size y1 (y1.alloc (.cells #[.int .i64 0, .int .i64 0, .int .i64 0, .int .i64 0, .slice none 0 0] 25)) := below1 _ _; have NO1 : Bx (y1.alloc (.cells #[.int .i64 0, .int .i64 0, .int .i64 0, .int .i64 0, .slice none 0 0] 25)) (y1.heap.size) #[.int .i64 0, .int .i64 0, .int .i64 0, .int .i64 0, .slice none 0 0] 25 := Bx.new y1 _ _; have QSQ := Lib.hid (SQ.out.step R1); have T1 := Lib.hid hSy; clear hSy; (try (have M3 : Bx y1 (w5.heap.size + 1) #[.int .i64 0, .int .i64 0, .int .i64 0, .int .i64 0, .slice none 0 0] 25 := (by with_reducible exact Bx.step N3 hb_))); (try (have M4 : Bx y1 (w5.heap.size) #[.int .i64 0, .int .i64 0, .int .i64 0, .int .i64 0, .slice none 0 0] 25 := (by with_reducible exact Bx.step N4 hb_))); (try (have LM3 := Bx.lt M3)); (try (have LM4 := Bx.lt M4)))
            | (go_at_call 20; (with_reducible first | refine (mGrid_any _ _ _ _ _ _ _ [um, vm] _ _ _ _ _ _ _ xsm (⟨km, 2, um, vm, xsm⟩, 0) y1 T1.out QSQ.out HG1.out).mono ?_ | refine (mGrid_any _ _ _ _ _ _ _ [um, vm] _ _ _ _ _ _ _ xsm (⟨km, 2, um, vm, xsm⟩, 0) _ (T1.out.step O1) (QSQ.out.step O1) HG1.out).mono ?_); intro e y2 hR_; obtain ⟨Ay2, ny2, cy2, rfl, hSy, hNy, hb_⟩ := RetA.flat hR_; have R2 : Below w5.heap.size w5 y2 := (by with_reducible first | exact bst R1 hb_ | exact bst (bal R1 _) hb_); have ss2 := R2.size; have O2 : Below y2.heap.size y2 (y2.alloc (.cells #[.int .i64 0, .int .i64 0, .int .i64 0, .int .i64 0, .slice none 0 0] 25)) := below1 _ _; have NO2 : Bx (y2.alloc (.cells #[.int .i64 0, .int .i64 0, .int .i64 0, .int .i64 0, .slice none 0 0] 25)) (y2.heap.size) #[.int .i64 0, .int .i64 0, .int .i64 0, .int .i64 0, .slice none 0 0] 25 := Bx.new y2 _ _; have step_ : Below y1.heap.size y1 y2 := (by with_reducible first | exact hb_ | exact bst O1 hb_); have QSQ := Lib.hid (SQ.out.step R2); have T1 := Lib.hid (T1.out.step step_); (try (have M3 : Bx y2 (w5.heap.size + 1) #[.int .i64 0, .int .i64 0, .int .i64 0, .int .i64 0, .slice none 0 0] 25 := (by with_reducible exact Bx.step M3 hb_))); (try (have M4 : Bx y2 (w5.heap.size) #[.int .i64 0, .int .i64 0, .int .i64 0, .int .i64 0, .slice none 0 0] 25 := (by with_reducible exact Bx.step M4 hb_))); (try (have K1 : Bx y2 (y1.heap.size) #[.int .i64 0, .int .i64 0, .int .i64 0, .int .i64 0, .slice none 0 0] 25 := (by with_reducible exact Bx.step NO1 hb_))); (first | (have gB : ∀ i, y2.cell? ⟨(w5.heap.size + 1), i, none⟩ = _ := Bx.cell M3; have kB : ∀ i, y2.frozen? ⟨(w5.heap.size + 1), i, none⟩ = false := Bx.frozen M3) | (have gB : ∀ i, y2.cell? ⟨(w5.heap.size), i, none⟩ = _ := Bx.cell M4; have kB : ∀ i, y2.frozen? ⟨(w5.heap.size), i, none⟩ = false := Bx.frozen M4) | (have gB : ∀ i, y2.cell? ⟨(y1.heap.size), i, none⟩ = _ := Bx.cell K1; have kB : ∀ i, y2.frozen? ⟨(y1.heap.size), i, none⟩ = false := Bx.frozen K1) | skip)))
        all_goals go_wp2_with fail
        all_goals go_meet
        · exact ⟨y2.heap.size, Ay2, ny2, cy2, rfl, rfl, bal R2 _, Lib.hid (Bx.new y2 _ _), Lib.hid (hSy.step (below1 _ _)), R2.size, Lib.hid (hNy.mono ss1), Lib.hid (hSy.ne_lo (Nat.le_refl _))⟩
        · exact ⟨(y1.heap.size), Ay2, ny2, cy2, rfl, rfl, below_set5' R2 R1.size _ _ _ _ _, Lib.hid (Bx.set5 K1 _ _ _ _ _), Lib.hid (hSy.past5 _ _ _ _ _ fun b o e => by have h_ := hNy b o none e; rw [World.size_alloc] at h_; omega), R1.size, Lib.hid (hNy.mono (by rw [World.size_alloc]; omega)), Lib.hid (fun _ b o e => by have h_ := hNy b o none e; rw [World.size_alloc] at h_; omega)⟩
        · exact ⟨(w5.heap.size + 1), Ay2, ny2, cy2, rfl, rfl, below_set5' R2 (Nat.le_succ _) _ _ _ _ _, Lib.hid (Bx.set5 M3 _ _ _ _ _), Lib.hid (hSy.past5 _ _ _ _ _ fun b o e => by have h_ := hNy b o none e; have l_ := LM3; omega), (Nat.le_succ _), Lib.hid (hNy.mono ss1), Lib.hid (fun _ b o e => by have h_ := hNy b o none e; have l_ := LM3; omega)⟩
        · exact ⟨(w5.heap.size), Ay2, ny2, cy2, rfl, rfl, below_set5' R2 (Nat.le_refl _) _ _ _ _ _, Lib.hid (Bx.set5 M4 _ _ _ _ _), Lib.hid (hSy.past5 _ _ _ _ _ fun b o e => by have h_ := hNy b o none e; have l_ := LM4; omega), (Nat.le_refl _), Lib.hid (hNy.mono ss1), Lib.hid (fun _ b o e => by have h_ := hNy b o none e; have l_ := LM4; omega)⟩
      case rest =>
      obtain ⟨B6, A6, n6, c6, rfl, rfl, hst, HX_, HS_, hB6, NSH, ne_SH_XH⟩ := hcut
      obtain ⟨w6, hw6⟩ : ∃ w6, wc = w6 := ⟨_, rfl⟩
      rw [hw6] at hst HX_ HS_
      rw [hw6]
      clear hw6
      replace Xm := Bx.step Xm hst
      replace Xv := Bx.step Xv hst
      replace Xl := Bx.step Xl hst
      replace XQ := Bx.step XQ hst
      replace Sm := Lib.hid (Sm.out.step hst)
      replace Sv := Lib.hid (Sv.out.step hst)
      replace SQ := Lib.hid (SQ.out.step hst)
      replace bW := bst bW hst
      have XH := HX_.out
      have SH := HS_
      clear hst HX_ HS_
      have dXm : ∀ i, w6.cell? ⟨w.heap.size, i, none⟩ = _ := Bx.cell Xm
      have eXm : ∀ i, w6.frozen? ⟨w.heap.size, i, none⟩ = false := Bx.frozen Xm
      have qXm := Bx.lt Xm
      have dXv : ∀ i, w6.cell? ⟨w.heap.size + 1, i, none⟩ = _ := Bx.cell Xv
      have eXv : ∀ i, w6.frozen? ⟨w.heap.size + 1, i, none⟩ = false := Bx.frozen Xv
      have qXv := Bx.lt Xv
      have dXl : ∀ i, w6.cell? ⟨w.heap.size + 1 + 1, i, none⟩ = _ := Bx.cell Xl
      have eXl : ∀ i, w6.frozen? ⟨w.heap.size + 1 + 1, i, none⟩ = false := Bx.frozen Xl
      have qXl := Bx.lt Xl
      have dXQ : ∀ i, w6.cell? ⟨w4.heap.size, i, none⟩ = _ := Bx.cell XQ
      have eXQ : ∀ i, w6.frozen? ⟨w4.heap.size, i, none⟩ = false := Bx.frozen XQ
      have qXQ := Bx.lt XQ
      have dXH : ∀ i, w6.cell? ⟨B6, i, none⟩ = _ := Bx.cell XH
      have eXH : ∀ i, w6.frozen? ⟨B6, i, none⟩ = false := Bx.frozen XH
      have qXH := Bx.lt XH
      go_wp2_with fail
      refine (is_true _ _ _ _ _ _ _ xsm _ _ _ _ SH.out Sm.out).mono ?_
      rintro e w7 ⟨rfl, hst⟩
      clear dXm eXm qXm dXv eXv qXv dXl eXl qXl dXQ eXQ qXQ dXH eXH qXH
      replace Xm := Bx.step Xm hst
      replace Xv := Bx.step Xv hst
      replace Xl := Bx.step Xl hst
      replace XQ := Bx.step XQ hst
      replace XH := Bx.step XH hst
      replace Sm := Lib.hid (Sm.out.step hst)
      replace Sv := Lib.hid (Sv.out.step hst)
      replace SQ := Lib.hid (SQ.out.step hst)
      replace SH := Lib.hid (SH.out.step hst)
      replace bW : Below w3.heap.size w3 w7 := bst bW hst
      clear hst
      have dXm : ∀ i, w7.cell? ⟨w.heap.size, i, none⟩ = _ := Bx.cell Xm
      have eXm : ∀ i, w7.frozen? ⟨w.heap.size, i, none⟩ = false := Bx.frozen Xm
      have qXm := Bx.lt Xm
      have dXv : ∀ i, w7.cell? ⟨w.heap.size + 1, i, none⟩ = _ := Bx.cell Xv
      have eXv : ∀ i, w7.frozen? ⟨w.heap.size + 1, i, none⟩ = false := Bx.frozen Xv
      have qXv := Bx.lt Xv
      have dXl : ∀ i, w7.cell? ⟨w.heap.size + 1 + 1, i, none⟩ = _ := Bx.cell Xl
      have eXl : ∀ i, w7.frozen? ⟨w.heap.size + 1 + 1, i, none⟩ = false := Bx.frozen Xl
      have qXl := Bx.lt Xl
      have dXQ : ∀ i, w7.cell? ⟨w4.heap.size, i, none⟩ = _ := Bx.cell XQ
      have eXQ : ∀ i, w7.frozen? ⟨w4.heap.size, i, none⟩ = false := Bx.frozen XQ
      have qXQ := Bx.lt XQ
      have dXH : ∀ i, w7.cell? ⟨B6, i, none⟩ = _ := Bx.cell XH
      have eXH : ∀ i, w7.frozen? ⟨B6, i, none⟩ = false := Bx.frozen XH
      have qXH := Bx.lt XH
      go_wp2_with fail
      go_meet
      exact bW
  case rest =>
  have hst := hcut
  clear hcut
  obtain ⟨w4, hw_⟩ : ∃ w4, wc = w4 := ⟨_, rfl⟩
  rw [hw_] at hst
  rw [hw_]
  clear hw_
  replace Xm := Bx.step Xm hst
  replace Xv := Bx.step Xv hst
  replace Xl := Bx.step Xl hst
  replace Sm := Lib.hid (Sm.out.step hst)
  replace Sv := Lib.hid (Sv.out.step hst)
  replace b := bst b hst
  clear hst
  have dXm : ∀ i, w4.cell? ⟨w.heap.size, i, none⟩ = _ := Bx.cell Xm
  have eXm : ∀ i, w4.frozen? ⟨w.heap.size, i, none⟩ = false := Bx.frozen Xm
  have qXm := Bx.lt Xm
  have dXv : ∀ i, w4.cell? ⟨w.heap.size + 1, i, none⟩ = _ := Bx.cell Xv
  have eXv : ∀ i, w4.frozen? ⟨w.heap.size + 1, i, none⟩ = false := Bx.frozen Xv
  have qXv := Bx.lt Xv
  have dXl : ∀ i, w4.cell? ⟨w.heap.size + 1 + 1, i, none⟩ = _ := Bx.cell Xl
  have eXl : ∀ i, w4.frozen? ⟨w.heap.size + 1 + 1, i, none⟩ = false := Bx.frozen Xl
  have qXl := Bx.lt Xl
  go_wp2_with fail
  refine (racheck_any _ _ _ _ _ _ _ xsv 0 _ Sv.out HV.out).mono ?_
  rintro e w5 ⟨rfl, hst⟩
  clear dXm eXm qXm dXv eXv qXv dXl eXl qXl
  replace Xm := Bx.step Xm hst
  replace Xv := Bx.step Xv hst
  replace Xl := Bx.step Xl hst
  replace Sm := Lib.hid (Sm.out.step hst)
  replace Sv := Lib.hid (Sv.out.step hst)
  replace b : Below w.heap.size w w5 := bst b hst
  clear hst
  have dXm : ∀ i, w5.cell? ⟨w.heap.size, i, none⟩ = _ := Bx.cell Xm
  have eXm : ∀ i, w5.frozen? ⟨w.heap.size, i, none⟩ = false := Bx.frozen Xm
  have qXm := Bx.lt Xm
  have dXv : ∀ i, w5.cell? ⟨w.heap.size + 1, i, none⟩ = _ := Bx.cell Xv
  have eXv : ∀ i, w5.frozen? ⟨w.heap.size + 1, i, none⟩ = false := Bx.frozen Xv
  have qXv := Bx.lt Xv
  have dXl : ∀ i, w5.cell? ⟨w.heap.size + 1 + 1, i, none⟩ = _ := Bx.cell Xl
  have eXl : ∀ i, w5.frozen? ⟨w.heap.size + 1 + 1, i, none⟩ = false := Bx.frozen Xl
  have qXl := Bx.lt Xl
  go_wp2
  go_quiet (fail)
  obtain ⟨w6, hw_⟩ : ∃ w6, w5.drewN nq = w6 := ⟨_, rfl⟩
  rw [hw_]
  have hst : Below w5.heap.size w5 w6 := by rw [← hw_]; exact bdn (Below.refl _ _) _
  clear hw_
  clear dXm eXm qXm dXv eXv qXv dXl eXl qXl
  replace Xm := Bx.step Xm hst
  replace Xv := Bx.step Xv hst
  replace Xl := Bx.step Xl hst
  replace Sm := Lib.hid (Sm.out.step hst)
  replace Sv := Lib.hid (Sv.out.step hst)
  replace b := bst b hst
  clear hst
  have dXm : ∀ i, w6.cell? ⟨w.heap.size, i, none⟩ = _ := Bx.cell Xm
  have eXm : ∀ i, w6.frozen? ⟨w.heap.size, i, none⟩ = false := Bx.frozen Xm
  have qXm := Bx.lt Xm
  have dXv : ∀ i, w6.cell? ⟨w.heap.size + 1, i, none⟩ = _ := Bx.cell Xv
  have eXv : ∀ i, w6.frozen? ⟨w.heap.size + 1, i, none⟩ = false := Bx.frozen Xv
  have qXv := Bx.lt Xv
  have dXl : ∀ i, w6.cell? ⟨w.heap.size + 1 + 1, i, none⟩ = _ := Bx.cell Xl
  have eXl : ∀ i, w6.frozen? ⟨w.heap.size + 1 + 1, i, none⟩ = false := Bx.frozen Xl
  have qXl := Bx.lt Xl
  go_wp2_with fail
  clear dXm eXm qXm dXv eXv qXv dXl eXl qXl
  go_cut [13, 14] from 84 to 92 (fun p e wx => ∃ (B : Nat) (A : Option Addr) (n c : Nat), p = .pointer (some ⟨B, 0, none⟩) ∧ e = .int .i64 13 ∧ Below w6.heap.size w6 wx ∧ Hid (Bx wx B #[.int .i64 k1, .int .i64 r1, .int .i64 u1, .int .i64 v1, .slice A n c] 25) ∧ Hid (Sl wx A n c xs1) ∧ w6.heap.size ≤ B ∧ Hid (New w6 A) ∧ Hid (0 < n → ∀ b o, A = some ⟨b, o, none⟩ → b ≠ B))
  case first =>
    have hS : ∀ u, Below w6.heap.size w6 u → (∀ i, u.cell? ⟨w.heap.size + 1, i, none⟩ = #[.int .i64 kv, .int .i64 rv, .int .i64 uv, .int .i64 vv, .slice Av nv cv][i]?) := fun u h => Bx.cell (Bx.step Xv h)
    have P0 : Below w6.heap.size w6 w6.drew := bdr (Below.refl _ _)
    have P1 : Below w6.heap.size w6 (w6.alloc (.cells #[.int .i64 0, .int .i64 0, .int .i64 0, .int .i64 0, .slice none 0 0] 25)).drew := bdr (bal (Below.refl _ _) _)
    have P2 : Below w6.heap.size w6 (w6.alloc (.cells #[.int .i64 (x : Int), .int .i64 (y : Int)] 2)).drew := bdr (bal (Below.refl _ _) _)
    have P3 : Below w6.heap.size w6 ((w6.alloc (.cells #[.int .i64 (x : Int), .int .i64 (y : Int)] 2)).alloc (.cells #[.int .i64 0, .int .i64 0, .int .i64 0, .int .i64 0, .slice none 0 0] 25)).drew := bdr (bal (bal (Below.refl _ _) _) _)
    have P4 : Below w6.heap.size w6 ((w6.alloc (.cells #[.int .i64 0, .int .i64 0, .int .i64 0, .int .i64 0, .slice none 0 0] 25)).alloc (.cells #[.int .i64 (x : Int), .int .i64 (y : Int)] 2)).drew := bdr (bal (bal (Below.refl _ _) _) _)
    have L2 := Lib.hid (show Sl (w6.alloc (.cells #[.int .i64 (x : Int), .int .i64 (y : Int)] 2)).drew (some ⟨w6.heap.size, 0, none⟩) 2 2 [(x : Int), (y : Int)] from slLit w6 _ 2 rfl (by omega))
    have L3 := Lib.hid (show Sl ((w6.alloc (.cells #[.int .i64 (x : Int), .int .i64 (y : Int)] 2)).alloc (.cells #[.int .i64 0, .int .i64 0, .int .i64 0, .int .i64 0, .slice none 0 0] 25)).drew (some ⟨w6.heap.size, 0, none⟩) 2 2 [(x : Int), (y : Int)] from Sl.step (w := w6.alloc (.cells #[.int .i64 (x : Int), .int .i64 (y : Int)] 2)) (slLit w6 _ 2 rfl (by omega)) (bdr (below1 _ _)))
    have h1_ : (w6.alloc (.cells #[.int .i64 0, .int .i64 0, .int .i64 0, .int .i64 0, .slice none 0 0] 25)).heap.size = w6.heap.size + 1 := by simp
    have h2_ : (w6.alloc (.cells #[.int .i64 (x : Int), .int .i64 (y : Int)] 2)).heap.size = w6.heap.size + 1 := by simp
    have L4 := Lib.hid (show Sl ((w6.alloc (.cells #[.int .i64 0, .int .i64 0, .int .i64 0, .int .i64 0, .slice none 0 0] 25)).alloc (.cells #[.int .i64 (x : Int), .int .i64 (y : Int)] 2)).drew (some ⟨w6.heap.size + 1, 0, none⟩) 2 2 [(x : Int), (y : Int)] by rw [← h1_]; exact slLit (w6.alloc (.cells #[.int .i64 0, .int .i64 0, .int .i64 0, .int .i64 0, .slice none 0 0] 25)) _ 2 rfl (by omega))
    have N3 : Bx ((w6.alloc (.cells #[.int .i64 (x : Int), .int .i64 (y : Int)] 2)).alloc (.cells #[.int .i64 0, .int .i64 0, .int .i64 0, .int .i64 0, .slice none 0 0] 25)).drew (w6.heap.size + 1) #[.int .i64 0, .int .i64 0, .int .i64 0, .int .i64 0, .slice none 0 0] 25 := by rw [← h2_]; exact Bx.new (w6.alloc (.cells #[.int .i64 (x : Int), .int .i64 (y : Int)] 2)) _ _
    have N4 : Bx ((w6.alloc (.cells #[.int .i64 0, .int .i64 0, .int .i64 0, .int .i64 0, .slice none 0 0] 25)).alloc (.cells #[.int .i64 (x : Int), .int .i64 (y : Int)] 2)).drew (w6.heap.size) #[.int .i64 0, .int .i64 0, .int .i64 0, .int .i64 0, .slice none 0 0] 25 := Bx.alloc (Bx.new w6 _ _) _
    clear h1_ h2_
    go_region_held3 (fun w' => (∀ i, w'.cell? ⟨w.heap.size + 1, i, none⟩ = #[.int .i64 kv, .int .i64 rv, .int .i64 uv, .int .i64 vv, .slice Av nv cv][i]?))
      (with_reducible first | exact hS _ P0 | exact hS _ P1 | exact hS _ P2 | exact hS _ P3 | exact hS _ P4 | exact hS _ R1 | exact hS _ (bal R1 _) | exact hS _ R2 | exact hS _ (bal R2 _) | exact hS _ (below_set5' R2 (Nat.le_succ _) _ _ _ _ _) | exact hS _ (below_set5' R2 (Nat.le_refl _) _ _ _ _ _) | exact hS _ (below_set5' R2 R1.size _ _ _ _ _))
      (first
        | (go_at_call 35; (with_reducible first | refine (ints_any (some ⟨w6.heap.size, 0, none⟩) 2 2 [(x : Int), (y : Int)] ((w6.alloc (.cells #[.int .i64 (x : Int), .int .i64 (y : Int)] 2)).drew) L2.out (by omega)).mono ?_ | refine (ints_any (some ⟨w6.heap.size, 0, none⟩) 2 2 [(x : Int), (y : Int)] (((w6.alloc (.cells #[.int .i64 (x : Int), .int .i64 (y : Int)] 2)).alloc (.cells #[.int .i64 0, .int .i64 0, .int .i64 0, .int .i64 0, .slice none 0 0] 25)).drew) L3.out (by omega)).mono ?_ | refine (ints_any (some ⟨w6.heap.size + 1, 0, none⟩) 2 2 [(x : Int), (y : Int)] (((w6.alloc (.cells #[.int .i64 0, .int .i64 0, .int .i64 0, .int .i64 0, .slice none 0 0] 25)).alloc (.cells #[.int .i64 (x : Int), .int .i64 (y : Int)] 2)).drew) L4.out (by omega)).mono ?_); rintro e y1 ⟨⟨Ay1, ny1, cy1, rfl, hSy, hNy⟩, hb_⟩; have R1 : Below w6.heap.size w6 y1 := (by with_reducible first | exact bst P2 hb_ | exact bst P3 hb_ | exact bst P4 hb_); have ss1 := R1.size; have O1 : Below y1.heap.size y1 (y1.alloc (.cells #[.int .i64 0, .int .i64 0, .int .i64 0, .int .i64 0, .slice none 0 0] 25)) := below1 _ _; have NO1 : Bx (y1.alloc (.cells #[.int .i64 0, .int .i64 0, .int .i64 0, .int .i64 0, .slice none 0 0] 25)) (y1.heap.size) #[.int .i64 0, .int .i64 0, .int .i64 0, .int .i64 0, .slice none 0 0] 25 := Bx.new y1 _ _; have QSv := Lib.hid (Sv.out.step R1); have T1 := Lib.hid hSy; clear hSy; (try (have M3 : Bx y1 (w6.heap.size + 1) #[.int .i64 0, .int .i64 0, .int .i64 0, .int .i64 0, .slice none 0 0] 25 := (by with_reducible exact Bx.step N3 hb_))); (try (have M4 : Bx y1 (w6.heap.size) #[.int .i64 0, .int .i64 0, .int .i64 0, .int .i64 0, .slice none 0 0] 25 := (by with_reducible exact Bx.step N4 hb_))); (try (have LM3 := Bx.lt M3)); (try (have LM4 := Bx.lt M4)))
        | (go_at_call 20; (with_reducible first | refine (mGrid_any _ _ _ _ _ _ _ [(x : Int), (y : Int)] _ _ _ _ _ _ _ xsv (⟨k1, r1, u1, v1, xs1⟩, 13) y1 T1.out QSv.out HG.out).mono ?_ | refine (mGrid_any _ _ _ _ _ _ _ [(x : Int), (y : Int)] _ _ _ _ _ _ _ xsv (⟨k1, r1, u1, v1, xs1⟩, 13) _ (T1.out.step O1) (QSv.out.step O1) HG.out).mono ?_); intro e y2 hR_; obtain ⟨Ay2, ny2, cy2, rfl, hSy, hNy, hb_⟩ := RetA.flat hR_; have R2 : Below w6.heap.size w6 y2 := (by with_reducible first | exact bst R1 hb_ | exact bst (bal R1 _) hb_); have ss2 := R2.size; have O2 : Below y2.heap.size y2 (y2.alloc (.cells #[.int .i64 0, .int .i64 0, .int .i64 0, .int .i64 0, .slice none 0 0] 25)) := below1 _ _; have NO2 : Bx (y2.alloc (.cells #[.int .i64 0, .int .i64 0, .int .i64 0, .int .i64 0, .slice none 0 0] 25)) (y2.heap.size) #[.int .i64 0, .int .i64 0, .int .i64 0, .int .i64 0, .slice none 0 0] 25 := Bx.new y2 _ _; have step_ : Below y1.heap.size y1 y2 := (by with_reducible first | exact hb_ | exact bst O1 hb_); have QSv := Lib.hid (Sv.out.step R2); have T1 := Lib.hid (T1.out.step step_); (try (have M3 : Bx y2 (w6.heap.size + 1) #[.int .i64 0, .int .i64 0, .int .i64 0, .int .i64 0, .slice none 0 0] 25 := (by with_reducible exact Bx.step M3 hb_))); (try (have M4 : Bx y2 (w6.heap.size) #[.int .i64 0, .int .i64 0, .int .i64 0, .int .i64 0, .slice none 0 0] 25 := (by with_reducible exact Bx.step M4 hb_))); (try (have K1 : Bx y2 (y1.heap.size) #[.int .i64 0, .int .i64 0, .int .i64 0, .int .i64 0, .slice none 0 0] 25 := (by with_reducible exact Bx.step NO1 hb_))); (first | (have gB : ∀ i, y2.cell? ⟨(w6.heap.size + 1), i, none⟩ = _ := Bx.cell M3; have kB : ∀ i, y2.frozen? ⟨(w6.heap.size + 1), i, none⟩ = false := Bx.frozen M3) | (have gB : ∀ i, y2.cell? ⟨(w6.heap.size), i, none⟩ = _ := Bx.cell M4; have kB : ∀ i, y2.frozen? ⟨(w6.heap.size), i, none⟩ = false := Bx.frozen M4) | (have gB : ∀ i, y2.cell? ⟨(y1.heap.size), i, none⟩ = _ := Bx.cell K1; have kB : ∀ i, y2.frozen? ⟨(y1.heap.size), i, none⟩ = false := Bx.frozen K1) | skip)))
    all_goals go_wp2_with fail
    all_goals go_meet
    · exact ⟨y2.heap.size, Ay2, ny2, cy2, rfl, rfl, bal R2 _, Lib.hid (Bx.new y2 _ _), Lib.hid (hSy.step (below1 _ _)), R2.size, Lib.hid (hNy.mono ss1), Lib.hid (hSy.ne_lo (Nat.le_refl _))⟩
    · exact ⟨(y1.heap.size), Ay2, ny2, cy2, rfl, rfl, below_set5' R2 R1.size _ _ _ _ _, Lib.hid (Bx.set5 K1 _ _ _ _ _), Lib.hid (hSy.past5 _ _ _ _ _ fun b o e => by have h_ := hNy b o none e; rw [World.size_alloc] at h_; omega), R1.size, Lib.hid (hNy.mono (by rw [World.size_alloc]; omega)), Lib.hid (fun _ b o e => by have h_ := hNy b o none e; rw [World.size_alloc] at h_; omega)⟩
    · exact ⟨(w6.heap.size + 1), Ay2, ny2, cy2, rfl, rfl, below_set5' R2 (Nat.le_succ _) _ _ _ _ _, Lib.hid (Bx.set5 M3 _ _ _ _ _), Lib.hid (hSy.past5 _ _ _ _ _ fun b o e => by have h_ := hNy b o none e; have l_ := LM3; omega), (Nat.le_succ _), Lib.hid (hNy.mono ss1), Lib.hid (fun _ b o e => by have h_ := hNy b o none e; have l_ := LM3; omega)⟩
    · exact ⟨(w6.heap.size), Ay2, ny2, cy2, rfl, rfl, below_set5' R2 (Nat.le_refl _) _ _ _ _ _, Lib.hid (Bx.set5 M4 _ _ _ _ _), Lib.hid (hSy.past5 _ _ _ _ _ fun b o e => by have h_ := hNy b o none e; have l_ := LM4; omega), (Nat.le_refl _), Lib.hid (hNy.mono ss1), Lib.hid (fun _ b o e => by have h_ := hNy b o none e; have l_ := LM4; omega)⟩
  case rest =>
  obtain ⟨B7, A7, n7, c7, rfl, rfl, hst, HX_, HS_, hB7, NSG, ne_SG_XG⟩ := hcut
  obtain ⟨w7, hw7⟩ : ∃ w7, wc = w7 := ⟨_, rfl⟩
  rw [hw7] at hst HX_ HS_
  rw [hw7]
  clear hw7
  replace Xm := Bx.step Xm hst
  replace Xv := Bx.step Xv hst
  replace Xl := Bx.step Xl hst
  replace Sm := Lib.hid (Sm.out.step hst)
  replace Sv := Lib.hid (Sv.out.step hst)
  replace b := bst b hst
  have XG := HX_.out
  have SG := HS_
  clear hst HX_ HS_
  have dXm : ∀ i, w7.cell? ⟨w.heap.size, i, none⟩ = _ := Bx.cell Xm
  have eXm : ∀ i, w7.frozen? ⟨w.heap.size, i, none⟩ = false := Bx.frozen Xm
  have qXm := Bx.lt Xm
  have dXv : ∀ i, w7.cell? ⟨w.heap.size + 1, i, none⟩ = _ := Bx.cell Xv
  have eXv : ∀ i, w7.frozen? ⟨w.heap.size + 1, i, none⟩ = false := Bx.frozen Xv
  have qXv := Bx.lt Xv
  have dXl : ∀ i, w7.cell? ⟨w.heap.size + 1 + 1, i, none⟩ = _ := Bx.cell Xl
  have eXl : ∀ i, w7.frozen? ⟨w.heap.size + 1 + 1, i, none⟩ = false := Bx.frozen Xl
  have qXl := Bx.lt Xl
  have dXG : ∀ i, w7.cell? ⟨B7, i, none⟩ = _ := Bx.cell XG
  have eXG : ∀ i, w7.frozen? ⟨B7, i, none⟩ = false := Bx.frozen XG
  have qXG := Bx.lt XG
  go_wp2_with fail
  refine (awake_any _).mono ?_
  rintro e wz ⟨rfl, hbz⟩
  go_wp2
  go_ret
  exact ⟨rfl, bst b hbz⟩
end Go.Proofs.Ytoapgknkenlcgaa

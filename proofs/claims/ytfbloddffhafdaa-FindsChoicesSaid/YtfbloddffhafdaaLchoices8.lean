/-
  The law FindsChoices: its walk.
-/
import Derived.Test.YtfbloddffhafdaaAwf
import Derived.Test.YtfbloddffhafdaaRpk
import Derived.Test.YtfbloddffhafdaaRgr
namespace Go.Proofs.Ytfbloddffhafdaa
open Go.RowKit

set_option maxHeartbeats 8000000 in
theorem lawChoices8 (km rm m0 m1 : Int) (Am : Option Addr) (nm cm : Nat) (xsm : List Int) (kv rv v0 v1 : Int) (Av : Option Addr) (nv cv : Nat) (xsv : List Int) (w : World)
    (hsm : Sl w Am nm cm xsm) (hsv : Sl w Av nv cv xsv) :
    Calls Try.prog 5 #[.agg #[.int .i64 km, .int .i64 rm, .int .i64 m0, .int .i64 m1, .slice Am nm cm], .agg #[.int .i64 kv, .int .i64 rv, .int .i64 v0, .int .i64 v1, .slice Av nv cv]] w fun e w' => e = .returned (.bool true) ∧ Below w.heap.size w w' := by
  have Sm := Lib.hid hsm
  have Sv := Lib.hid hsv
  clear hsm hsv
  by_cases hf : 405 < nm
  · go_enter Try.func5, Try.ntmps5
    go_wp2_with fail
    refine (far_any _ _ _ _ _ _ _ _).mono ?_
    rintro e w1 ⟨rfl, hst⟩
    obtain ⟨Xm, Xv, hst⟩ := after2 hst
    replace Sm := Lib.hid (Sm.out.step hst)
    replace Sv := Lib.hid (Sv.out.step hst)
    have b : Below w.heap.size w w1 := hst
    clear hst
    rw [decide_eq_true hf]
    have dXm : ∀ i, w1.cell? ⟨w.heap.size, i, none⟩ = _ := Bx.cell Xm
    have eXm : ∀ i, w1.frozen? ⟨w.heap.size, i, none⟩ = false := Bx.frozen Xm
    have qXm := Bx.lt Xm
    have dXv : ∀ i, w1.cell? ⟨w.heap.size + 1, i, none⟩ = _ := Bx.cell Xv
    have eXv : ∀ i, w1.frozen? ⟨w.heap.size + 1, i, none⟩ = false := Bx.frozen Xv
    have qXv := Bx.lt Xv
    go_wp2_with fail
    refine (awake_any _).mono ?_
    rintro e wz ⟨rfl, hbz⟩
    go_wp2
    go_ret
    exact ⟨rfl, bst b hbz⟩
  by_cases hf' : 405 < nv
  · go_enter Try.func5, Try.ntmps5
    go_wp2_with fail
    refine (far_any _ _ _ _ _ _ _ _).mono ?_
    rintro e w1 ⟨rfl, hst⟩
    obtain ⟨Xm, Xv, hst⟩ := after2 hst
    replace Sm := Lib.hid (Sm.out.step hst)
    replace Sv := Lib.hid (Sv.out.step hst)
    have b : Below w.heap.size w w1 := hst
    clear hst
    rw [decide_eq_false hf]
    have dXm : ∀ i, w1.cell? ⟨w.heap.size, i, none⟩ = _ := Bx.cell Xm
    have eXm : ∀ i, w1.frozen? ⟨w.heap.size, i, none⟩ = false := Bx.frozen Xm
    have qXm := Bx.lt Xm
    have dXv : ∀ i, w1.cell? ⟨w.heap.size + 1, i, none⟩ = _ := Bx.cell Xv
    have eXv : ∀ i, w1.frozen? ⟨w.heap.size + 1, i, none⟩ = false := Bx.frozen Xv
    have qXv := Bx.lt Xv
    go_wp2_with fail
    refine (far_any _ _ _ _ _ _ _ _).mono ?_
    rintro e w2 ⟨rfl, hst⟩
    clear dXm eXm qXm dXv eXv qXv
    replace Xm := Bx.step Xm hst
    replace Xv := Bx.step Xv hst
    replace Sm := Lib.hid (Sm.out.step hst)
    replace Sv := Lib.hid (Sv.out.step hst)
    replace b : Below w.heap.size w w2 := bst b hst
    clear hst
    rw [decide_eq_true hf']
    have dXm : ∀ i, w2.cell? ⟨w.heap.size, i, none⟩ = _ := Bx.cell Xm
    have eXm : ∀ i, w2.frozen? ⟨w.heap.size, i, none⟩ = false := Bx.frozen Xm
    have qXm := Bx.lt Xm
    have dXv : ∀ i, w2.cell? ⟨w.heap.size + 1, i, none⟩ = _ := Bx.cell Xv
    have eXv : ∀ i, w2.frozen? ⟨w.heap.size + 1, i, none⟩ = false := Bx.frozen Xv
    have qXv := Bx.lt Xv
    go_wp2_with fail
    refine (awake_any _).mono ?_
    rintro e wz ⟨rfl, hbz⟩
    go_wp2
    go_ret
    exact ⟨rfl, bst b hbz⟩
  obtain ⟨⟨⟨op1, oq1, ou1, ov1, zs1⟩, oe1⟩, hT1⟩ : ∃ R, sPick ⟨km, rm, m0, m1, xsm⟩ ⟨kv, rv, v0, v1, xsv⟩ = R := ⟨_, rfl⟩
  have HT1 := Lib.hid hT1
  clear hT1
  obtain ⟨⟨⟨op2, oq2, ou2, ov2, zs2⟩, oe2⟩, hT2⟩ : ∃ R, sGrade ⟨kv, rv, v0, v1, xsv⟩ = R := ⟨_, rfl⟩
  have HT2 := Lib.hid hT2
  clear hT2
  go_enter Try.func5, Try.ntmps5
  go_wp2_with fail
  refine (far_any _ _ _ _ _ _ _ _).mono ?_
  rintro e w1 ⟨rfl, hst⟩
  obtain ⟨Xm, Xv, hst⟩ := after2 hst
  replace Sm := Lib.hid (Sm.out.step hst)
  replace Sv := Lib.hid (Sv.out.step hst)
  have b : Below w.heap.size w w1 := hst
  clear hst
  rw [decide_eq_false hf]
  have dXm : ∀ i, w1.cell? ⟨w.heap.size, i, none⟩ = _ := Bx.cell Xm
  have eXm : ∀ i, w1.frozen? ⟨w.heap.size, i, none⟩ = false := Bx.frozen Xm
  have qXm := Bx.lt Xm
  have dXv : ∀ i, w1.cell? ⟨w.heap.size + 1, i, none⟩ = _ := Bx.cell Xv
  have eXv : ∀ i, w1.frozen? ⟨w.heap.size + 1, i, none⟩ = false := Bx.frozen Xv
  have qXv := Bx.lt Xv
  go_wp2_with fail
  refine (far_any _ _ _ _ _ _ _ _).mono ?_
  rintro e w2 ⟨rfl, hst⟩
  clear dXm eXm qXm dXv eXv qXv
  replace Xm := Bx.step Xm hst
  replace Xv := Bx.step Xv hst
  replace Sm := Lib.hid (Sm.out.step hst)
  replace Sv := Lib.hid (Sv.out.step hst)
  replace b : Below w.heap.size w w2 := bst b hst
  clear hst
  rw [decide_eq_false hf']
  have dXm : ∀ i, w2.cell? ⟨w.heap.size, i, none⟩ = _ := Bx.cell Xm
  have eXm : ∀ i, w2.frozen? ⟨w.heap.size, i, none⟩ = false := Bx.frozen Xm
  have qXm := Bx.lt Xm
  have dXv : ∀ i, w2.cell? ⟨w.heap.size + 1, i, none⟩ = _ := Bx.cell Xv
  have eXv : ∀ i, w2.frozen? ⟨w.heap.size + 1, i, none⟩ = false := Bx.frozen Xv
  have qXv := Bx.lt Xv
  go_wp2_with fail
  refine (fpick_any _ _ _ _ _ _ _ xsm _ _ _ _ _ _ _ xsv _ _ Sm.out Sv.out HT1.out).mono ?_
  intro e w3 hR
  obtain ⟨A3, n3, c3, rfl, hS3, hN3, hst⟩ := RetA.flat hR
  clear hR
  clear dXm eXm qXm dXv eXv qXv
  replace Xm := Bx.step Xm hst
  replace Xv := Bx.step Xv hst
  replace Sm := Lib.hid (Sm.out.step hst)
  replace Sv := Lib.hid (Sv.out.step hst)
  replace b : Below w.heap.size w w3 := bst b hst
  clear hst
  have T1 := Lib.hid hS3
  have NT1 := Lib.hid hN3
  clear hS3 hN3
  have dXm : ∀ i, w3.cell? ⟨w.heap.size, i, none⟩ = _ := Bx.cell Xm
  have eXm : ∀ i, w3.frozen? ⟨w.heap.size, i, none⟩ = false := Bx.frozen Xm
  have qXm := Bx.lt Xm
  have dXv : ∀ i, w3.cell? ⟨w.heap.size + 1, i, none⟩ = _ := Bx.cell Xv
  have eXv : ∀ i, w3.frozen? ⟨w.heap.size + 1, i, none⟩ = false := Bx.frozen Xv
  have qXv := Bx.lt Xv
  go_wp2_with fail
  refine (rpick_any _ _ _ _ _ _ _ xsm _ _ _ _ _ _ _ xsv _ _ (Sm.out.step (below1 _ _ )) (Sv.out.step (below1 _ _ )) HT1.out).mono ?_
  intro e w4 hR
  obtain ⟨A4, n4, c4, rfl, hS4, hN4, hst⟩ := RetA.flat hR
  clear hR
  clear dXm eXm qXm dXv eXv qXv
  obtain ⟨Y1, hst⟩ := after1 hst
  replace Xm := Bx.step Xm hst
  replace Xv := Bx.step Xv hst
  replace Sm := Lib.hid (Sm.out.step hst)
  replace Sv := Lib.hid (Sv.out.step hst)
  replace T1 := Lib.hid (T1.out.step hst)
  replace b : Below w.heap.size w w4 := bst b hst
  clear hst
  have U1 := Lib.hid hS4
  have NU1 := Lib.hid hN4
  clear hS4 hN4
  have dXm : ∀ i, w4.cell? ⟨w.heap.size, i, none⟩ = _ := Bx.cell Xm
  have eXm : ∀ i, w4.frozen? ⟨w.heap.size, i, none⟩ = false := Bx.frozen Xm
  have qXm := Bx.lt Xm
  have dXv : ∀ i, w4.cell? ⟨w.heap.size + 1, i, none⟩ = _ := Bx.cell Xv
  have eXv : ∀ i, w4.frozen? ⟨w.heap.size + 1, i, none⟩ = false := Bx.frozen Xv
  have qXv := Bx.lt Xv
  have dY1 : ∀ i, w4.cell? ⟨w3.heap.size, i, none⟩ = _ := Bx.cell Y1
  have eY1 : ∀ i, w4.frozen? ⟨w3.heap.size, i, none⟩ = false := Bx.frozen Y1
  have qY1 := Bx.lt Y1
  go_wp2_with fail
  refine (fgrade_any _ _ _ _ _ _ _ xsv _ _ (Sv.out.step (below1 _ _ )) HT2.out).mono ?_
  intro e w5 hR
  obtain ⟨A5, n5, c5, rfl, hS5, hN5, hst⟩ := RetA.flat hR
  clear hR
  clear dXm eXm qXm dXv eXv qXv dY1 eY1 qY1
  obtain ⟨Z1, hst⟩ := after1 hst
  replace Xm := Bx.step Xm hst
  replace Xv := Bx.step Xv hst
  replace Y1 := Bx.step Y1 hst
  replace Sm := Lib.hid (Sm.out.step hst)
  replace Sv := Lib.hid (Sv.out.step hst)
  replace T1 := Lib.hid (T1.out.step hst)
  replace U1 := Lib.hid (U1.out.step hst)
  replace b : Below w.heap.size w w5 := bst b hst
  clear hst
  have T2 := Lib.hid hS5
  have NT2 := Lib.hid hN5
  clear hS5 hN5
  have dXm : ∀ i, w5.cell? ⟨w.heap.size, i, none⟩ = _ := Bx.cell Xm
  have eXm : ∀ i, w5.frozen? ⟨w.heap.size, i, none⟩ = false := Bx.frozen Xm
  have qXm := Bx.lt Xm
  have dXv : ∀ i, w5.cell? ⟨w.heap.size + 1, i, none⟩ = _ := Bx.cell Xv
  have eXv : ∀ i, w5.frozen? ⟨w.heap.size + 1, i, none⟩ = false := Bx.frozen Xv
  have qXv := Bx.lt Xv
  have dY1 : ∀ i, w5.cell? ⟨w3.heap.size, i, none⟩ = _ := Bx.cell Y1
  have eY1 : ∀ i, w5.frozen? ⟨w3.heap.size, i, none⟩ = false := Bx.frozen Y1
  have qY1 := Bx.lt Y1
  have dZ1 : ∀ i, w5.cell? ⟨w4.heap.size, i, none⟩ = _ := Bx.cell Z1
  have eZ1 : ∀ i, w5.frozen? ⟨w4.heap.size, i, none⟩ = false := Bx.frozen Z1
  have qZ1 := Bx.lt Z1
  go_wp2_with fail
  refine (rgrade_any _ _ _ _ _ _ _ xsv _ _ (Sv.out.step (below1 _ _ )) HT2.out).mono ?_
  intro e w6 hR
  obtain ⟨A6, n6, c6, rfl, hS6, hN6, hst⟩ := RetA.flat hR
  clear hR
  clear dXm eXm qXm dXv eXv qXv dY1 eY1 qY1 dZ1 eZ1 qZ1
  obtain ⟨Y2, hst⟩ := after1 hst
  replace Xm := Bx.step Xm hst
  replace Xv := Bx.step Xv hst
  replace Y1 := Bx.step Y1 hst
  replace Z1 := Bx.step Z1 hst
  replace Sm := Lib.hid (Sm.out.step hst)
  replace Sv := Lib.hid (Sv.out.step hst)
  replace T1 := Lib.hid (T1.out.step hst)
  replace U1 := Lib.hid (U1.out.step hst)
  replace T2 := Lib.hid (T2.out.step hst)
  replace b : Below w.heap.size w w6 := bst b hst
  clear hst
  have U2 := Lib.hid hS6
  have NU2 := Lib.hid hN6
  clear hS6 hN6
  have dXm : ∀ i, w6.cell? ⟨w.heap.size, i, none⟩ = _ := Bx.cell Xm
  have eXm : ∀ i, w6.frozen? ⟨w.heap.size, i, none⟩ = false := Bx.frozen Xm
  have qXm := Bx.lt Xm
  have dXv : ∀ i, w6.cell? ⟨w.heap.size + 1, i, none⟩ = _ := Bx.cell Xv
  have eXv : ∀ i, w6.frozen? ⟨w.heap.size + 1, i, none⟩ = false := Bx.frozen Xv
  have qXv := Bx.lt Xv
  have dY1 : ∀ i, w6.cell? ⟨w3.heap.size, i, none⟩ = _ := Bx.cell Y1
  have eY1 : ∀ i, w6.frozen? ⟨w3.heap.size, i, none⟩ = false := Bx.frozen Y1
  have qY1 := Bx.lt Y1
  have dZ1 : ∀ i, w6.cell? ⟨w4.heap.size, i, none⟩ = _ := Bx.cell Z1
  have eZ1 : ∀ i, w6.frozen? ⟨w4.heap.size, i, none⟩ = false := Bx.frozen Z1
  have qZ1 := Bx.lt Z1
  have dY2 : ∀ i, w6.cell? ⟨w5.heap.size, i, none⟩ = _ := Bx.cell Y2
  have eY2 : ∀ i, w6.frozen? ⟨w5.heap.size, i, none⟩ = false := Bx.frozen Y2
  have qY2 := Bx.lt Y2
  go_wp2_with fail
  refine (alike_true _ _ _ _ _ _ _ _ zs1 _ _ _ _ (T1.out.step (below1 _ _ )) (U1.out.step (below1 _ _ ))).mono ?_
  rintro e w7 ⟨rfl, hst⟩
  clear dXm eXm qXm dXv eXv qXv dY1 eY1 qY1 dZ1 eZ1 qZ1 dY2 eY2 qY2
  obtain ⟨Z2, hst⟩ := after1 hst
  replace Xm := Bx.step Xm hst
  replace Xv := Bx.step Xv hst
  replace Y1 := Bx.step Y1 hst
  replace Z1 := Bx.step Z1 hst
  replace Y2 := Bx.step Y2 hst
  replace Sm := Lib.hid (Sm.out.step hst)
  replace Sv := Lib.hid (Sv.out.step hst)
  replace T1 := Lib.hid (T1.out.step hst)
  replace U1 := Lib.hid (U1.out.step hst)
  replace T2 := Lib.hid (T2.out.step hst)
  replace U2 := Lib.hid (U2.out.step hst)
  replace b : Below w.heap.size w w7 := bst b hst
  clear hst
  have dXm : ∀ i, w7.cell? ⟨w.heap.size, i, none⟩ = _ := Bx.cell Xm
  have eXm : ∀ i, w7.frozen? ⟨w.heap.size, i, none⟩ = false := Bx.frozen Xm
  have qXm := Bx.lt Xm
  have dXv : ∀ i, w7.cell? ⟨w.heap.size + 1, i, none⟩ = _ := Bx.cell Xv
  have eXv : ∀ i, w7.frozen? ⟨w.heap.size + 1, i, none⟩ = false := Bx.frozen Xv
  have qXv := Bx.lt Xv
  have dY1 : ∀ i, w7.cell? ⟨w3.heap.size, i, none⟩ = _ := Bx.cell Y1
  have eY1 : ∀ i, w7.frozen? ⟨w3.heap.size, i, none⟩ = false := Bx.frozen Y1
  have qY1 := Bx.lt Y1
  have dZ1 : ∀ i, w7.cell? ⟨w4.heap.size, i, none⟩ = _ := Bx.cell Z1
  have eZ1 : ∀ i, w7.frozen? ⟨w4.heap.size, i, none⟩ = false := Bx.frozen Z1
  have qZ1 := Bx.lt Z1
  have dY2 : ∀ i, w7.cell? ⟨w5.heap.size, i, none⟩ = _ := Bx.cell Y2
  have eY2 : ∀ i, w7.frozen? ⟨w5.heap.size, i, none⟩ = false := Bx.frozen Y2
  have qY2 := Bx.lt Y2
  have dZ2 : ∀ i, w7.cell? ⟨w6.heap.size, i, none⟩ = _ := Bx.cell Z2
  have eZ2 : ∀ i, w7.frozen? ⟨w6.heap.size, i, none⟩ = false := Bx.frozen Z2
  have qZ2 := Bx.lt Z2
  go_wp2_with fail
  refine (alike_true _ _ _ _ _ _ _ _ zs2 _ _ _ _ T2.out U2.out).mono ?_
  rintro e w8 ⟨rfl, hst⟩
  clear dXm eXm qXm dXv eXv qXv dY1 eY1 qY1 dZ1 eZ1 qZ1 dY2 eY2 qY2 dZ2 eZ2 qZ2
  replace Xm := Bx.step Xm hst
  replace Xv := Bx.step Xv hst
  replace Y1 := Bx.step Y1 hst
  replace Z1 := Bx.step Z1 hst
  replace Y2 := Bx.step Y2 hst
  replace Z2 := Bx.step Z2 hst
  replace Sm := Lib.hid (Sm.out.step hst)
  replace Sv := Lib.hid (Sv.out.step hst)
  replace T1 := Lib.hid (T1.out.step hst)
  replace U1 := Lib.hid (U1.out.step hst)
  replace T2 := Lib.hid (T2.out.step hst)
  replace U2 := Lib.hid (U2.out.step hst)
  replace b : Below w.heap.size w w8 := bst b hst
  clear hst
  have dXm : ∀ i, w8.cell? ⟨w.heap.size, i, none⟩ = _ := Bx.cell Xm
  have eXm : ∀ i, w8.frozen? ⟨w.heap.size, i, none⟩ = false := Bx.frozen Xm
  have qXm := Bx.lt Xm
  have dXv : ∀ i, w8.cell? ⟨w.heap.size + 1, i, none⟩ = _ := Bx.cell Xv
  have eXv : ∀ i, w8.frozen? ⟨w.heap.size + 1, i, none⟩ = false := Bx.frozen Xv
  have qXv := Bx.lt Xv
  have dY1 : ∀ i, w8.cell? ⟨w3.heap.size, i, none⟩ = _ := Bx.cell Y1
  have eY1 : ∀ i, w8.frozen? ⟨w3.heap.size, i, none⟩ = false := Bx.frozen Y1
  have qY1 := Bx.lt Y1
  have dZ1 : ∀ i, w8.cell? ⟨w4.heap.size, i, none⟩ = _ := Bx.cell Z1
  have eZ1 : ∀ i, w8.frozen? ⟨w4.heap.size, i, none⟩ = false := Bx.frozen Z1
  have qZ1 := Bx.lt Z1
  have dY2 : ∀ i, w8.cell? ⟨w5.heap.size, i, none⟩ = _ := Bx.cell Y2
  have eY2 : ∀ i, w8.frozen? ⟨w5.heap.size, i, none⟩ = false := Bx.frozen Y2
  have qY2 := Bx.lt Y2
  have dZ2 : ∀ i, w8.cell? ⟨w6.heap.size, i, none⟩ = _ := Bx.cell Z2
  have eZ2 : ∀ i, w8.frozen? ⟨w6.heap.size, i, none⟩ = false := Bx.frozen Z2
  have qZ2 := Bx.lt Z2
  go_wp2_with fail
  refine (awake_any _).mono ?_
  rintro e wz ⟨rfl, hbz⟩
  go_wp2
  go_ret
  exact ⟨rfl, bst b hbz⟩
end Go.Proofs.Ytfbloddffhafdaa

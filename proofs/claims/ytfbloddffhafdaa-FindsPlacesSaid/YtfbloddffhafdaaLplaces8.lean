/-
  The law FindsPlaces: its walk.
-/
import Derived.Test.YtfbloddffhafdaaAwf
import Derived.Test.YtfbloddffhafdaaRat
import Derived.Test.YtfbloddffhafdaaRinn
namespace Go.Proofs.Ytfbloddffhafdaa
open Go.RowKit

set_option maxHeartbeats 8000000 in
theorem lawPlaces8 (ka ra a0 a1 : Int) (Aa : Option Addr) (na ca : Nat) (xsa : List Int) (kb rb b0 b1 : Int) (Ab : Option Addr) (nb cb : Nat) (xsb : List Int) (w : World)
    (hsa : Sl w Aa na ca xsa) (hsb : Sl w Ab nb cb xsb) (hwa : ∀ x ∈ xsa, -9223372036854775808 ≤ x ∧ x ≤ 9223372036854775807) (hwb : ∀ x ∈ xsb, -9223372036854775808 ≤ x ∧ x ≤ 9223372036854775807) :
    Calls Try.prog 4 #[.agg #[.int .i64 ka, .int .i64 ra, .int .i64 a0, .int .i64 a1, .slice Aa na ca], .agg #[.int .i64 kb, .int .i64 rb, .int .i64 b0, .int .i64 b1, .slice Ab nb cb]] w fun e w' => e = .returned (.bool true) ∧ Below w.heap.size w w' := by
  have Sa := Lib.hid hsa
  have Sb := Lib.hid hsb
  have HWa := Lib.hid hwa
  have HWb := Lib.hid hwb
  clear hsa hsb hwa hwb
  by_cases hf : 405 < na
  · go_enter Try.func4, Try.ntmps4
    go_wp2_with fail
    refine (far_any _ _ _ _ _ _ _ _).mono ?_
    rintro e w1 ⟨rfl, hst⟩
    obtain ⟨Xa, Xb, hst⟩ := after2 hst
    replace Sa := Lib.hid (Sa.out.step hst)
    replace Sb := Lib.hid (Sb.out.step hst)
    have b : Below w.heap.size w w1 := hst
    clear hst
    rw [decide_eq_true hf]
    have dXa : ∀ i, w1.cell? ⟨w.heap.size, i, none⟩ = _ := Bx.cell Xa
    have eXa : ∀ i, w1.frozen? ⟨w.heap.size, i, none⟩ = false := Bx.frozen Xa
    have qXa := Bx.lt Xa
    have dXb : ∀ i, w1.cell? ⟨w.heap.size + 1, i, none⟩ = _ := Bx.cell Xb
    have eXb : ∀ i, w1.frozen? ⟨w.heap.size + 1, i, none⟩ = false := Bx.frozen Xb
    have qXb := Bx.lt Xb
    go_wp2_with fail
    refine (awake_any _).mono ?_
    rintro e wz ⟨rfl, hbz⟩
    go_wp2
    go_ret
    exact ⟨rfl, bst b hbz⟩
  by_cases hf' : 405 < nb
  · go_enter Try.func4, Try.ntmps4
    go_wp2_with fail
    refine (far_any _ _ _ _ _ _ _ _).mono ?_
    rintro e w1 ⟨rfl, hst⟩
    obtain ⟨Xa, Xb, hst⟩ := after2 hst
    replace Sa := Lib.hid (Sa.out.step hst)
    replace Sb := Lib.hid (Sb.out.step hst)
    have b : Below w.heap.size w w1 := hst
    clear hst
    rw [decide_eq_false hf]
    have dXa : ∀ i, w1.cell? ⟨w.heap.size, i, none⟩ = _ := Bx.cell Xa
    have eXa : ∀ i, w1.frozen? ⟨w.heap.size, i, none⟩ = false := Bx.frozen Xa
    have qXa := Bx.lt Xa
    have dXb : ∀ i, w1.cell? ⟨w.heap.size + 1, i, none⟩ = _ := Bx.cell Xb
    have eXb : ∀ i, w1.frozen? ⟨w.heap.size + 1, i, none⟩ = false := Bx.frozen Xb
    have qXb := Bx.lt Xb
    go_wp2_with fail
    refine (far_any _ _ _ _ _ _ _ _).mono ?_
    rintro e w2 ⟨rfl, hst⟩
    clear dXa eXa qXa dXb eXb qXb
    replace Xa := Bx.step Xa hst
    replace Xb := Bx.step Xb hst
    replace Sa := Lib.hid (Sa.out.step hst)
    replace Sb := Lib.hid (Sb.out.step hst)
    replace b : Below w.heap.size w w2 := bst b hst
    clear hst
    rw [decide_eq_true hf']
    have dXa : ∀ i, w2.cell? ⟨w.heap.size, i, none⟩ = _ := Bx.cell Xa
    have eXa : ∀ i, w2.frozen? ⟨w.heap.size, i, none⟩ = false := Bx.frozen Xa
    have qXa := Bx.lt Xa
    have dXb : ∀ i, w2.cell? ⟨w.heap.size + 1, i, none⟩ = _ := Bx.cell Xb
    have eXb : ∀ i, w2.frozen? ⟨w.heap.size + 1, i, none⟩ = false := Bx.frozen Xb
    have qXb := Bx.lt Xb
    go_wp2_with fail
    refine (awake_any _).mono ?_
    rintro e wz ⟨rfl, hbz⟩
    go_wp2
    go_ret
    exact ⟨rfl, bst b hbz⟩
  obtain ⟨⟨⟨p1, q1, u1, v1, zs1⟩, e1⟩, hT1⟩ : ∃ R, sFAt ⟨ka, ra, a0, a1, xsa⟩ ⟨kb, rb, b0, b1, xsb⟩ = R := ⟨_, rfl⟩
  have HT1 := Lib.hid hT1
  clear hT1
  obtain ⟨⟨⟨p2, q2, u2, v2, zs2⟩, e2⟩, hT2⟩ : ∃ R, sFIn ⟨ka, ra, a0, a1, xsa⟩ ⟨kb, rb, b0, b1, xsb⟩ = R := ⟨_, rfl⟩
  have HT2 := Lib.hid hT2
  clear hT2
  go_enter Try.func4, Try.ntmps4
  go_wp2_with fail
  refine (far_any _ _ _ _ _ _ _ _).mono ?_
  rintro e w1 ⟨rfl, hst⟩
  obtain ⟨Xa, Xb, hst⟩ := after2 hst
  replace Sa := Lib.hid (Sa.out.step hst)
  replace Sb := Lib.hid (Sb.out.step hst)
  have b : Below w.heap.size w w1 := hst
  clear hst
  rw [decide_eq_false hf]
  have dXa : ∀ i, w1.cell? ⟨w.heap.size, i, none⟩ = _ := Bx.cell Xa
  have eXa : ∀ i, w1.frozen? ⟨w.heap.size, i, none⟩ = false := Bx.frozen Xa
  have qXa := Bx.lt Xa
  have dXb : ∀ i, w1.cell? ⟨w.heap.size + 1, i, none⟩ = _ := Bx.cell Xb
  have eXb : ∀ i, w1.frozen? ⟨w.heap.size + 1, i, none⟩ = false := Bx.frozen Xb
  have qXb := Bx.lt Xb
  go_wp2_with fail
  refine (far_any _ _ _ _ _ _ _ _).mono ?_
  rintro e w2 ⟨rfl, hst⟩
  clear dXa eXa qXa dXb eXb qXb
  replace Xa := Bx.step Xa hst
  replace Xb := Bx.step Xb hst
  replace Sa := Lib.hid (Sa.out.step hst)
  replace Sb := Lib.hid (Sb.out.step hst)
  replace b : Below w.heap.size w w2 := bst b hst
  clear hst
  rw [decide_eq_false hf']
  have dXa : ∀ i, w2.cell? ⟨w.heap.size, i, none⟩ = _ := Bx.cell Xa
  have eXa : ∀ i, w2.frozen? ⟨w.heap.size, i, none⟩ = false := Bx.frozen Xa
  have qXa := Bx.lt Xa
  have dXb : ∀ i, w2.cell? ⟨w.heap.size + 1, i, none⟩ = _ := Bx.cell Xb
  have eXb : ∀ i, w2.frozen? ⟨w.heap.size + 1, i, none⟩ = false := Bx.frozen Xb
  have qXb := Bx.lt Xb
  go_wp2_with fail
  refine (fat_any _ _ _ _ _ _ _ xsa _ _ _ _ _ _ _ xsb _ _ Sa.out Sb.out HT1.out).mono ?_
  intro e w3 hR
  obtain ⟨A3, n3, c3, rfl, hS3, hN3, hst⟩ := RetA.flat hR
  clear hR
  clear dXa eXa qXa dXb eXb qXb
  replace Xa := Bx.step Xa hst
  replace Xb := Bx.step Xb hst
  replace Sa := Lib.hid (Sa.out.step hst)
  replace Sb := Lib.hid (Sb.out.step hst)
  replace b : Below w.heap.size w w3 := bst b hst
  clear hst
  have T1 := Lib.hid hS3
  have NT1 := Lib.hid hN3
  clear hS3 hN3
  have dXa : ∀ i, w3.cell? ⟨w.heap.size, i, none⟩ = _ := Bx.cell Xa
  have eXa : ∀ i, w3.frozen? ⟨w.heap.size, i, none⟩ = false := Bx.frozen Xa
  have qXa := Bx.lt Xa
  have dXb : ∀ i, w3.cell? ⟨w.heap.size + 1, i, none⟩ = _ := Bx.cell Xb
  have eXb : ∀ i, w3.frozen? ⟨w.heap.size + 1, i, none⟩ = false := Bx.frozen Xb
  have qXb := Bx.lt Xb
  go_wp2_with fail
  refine (rat_any _ _ _ _ _ _ _ xsa _ _ _ _ _ _ _ xsb _ _ (Sa.out.step (below1 _ _ )) (Sb.out.step (below1 _ _ )) HT1.out).mono ?_
  intro e w4 hR
  obtain ⟨A4, n4, c4, rfl, hS4, hN4, hst⟩ := RetA.flat hR
  clear hR
  clear dXa eXa qXa dXb eXb qXb
  obtain ⟨Y1, hst⟩ := after1 hst
  replace Xa := Bx.step Xa hst
  replace Xb := Bx.step Xb hst
  replace Sa := Lib.hid (Sa.out.step hst)
  replace Sb := Lib.hid (Sb.out.step hst)
  replace T1 := Lib.hid (T1.out.step hst)
  replace b : Below w.heap.size w w4 := bst b hst
  clear hst
  have U1 := Lib.hid hS4
  have NU1 := Lib.hid hN4
  clear hS4 hN4
  have dXa : ∀ i, w4.cell? ⟨w.heap.size, i, none⟩ = _ := Bx.cell Xa
  have eXa : ∀ i, w4.frozen? ⟨w.heap.size, i, none⟩ = false := Bx.frozen Xa
  have qXa := Bx.lt Xa
  have dXb : ∀ i, w4.cell? ⟨w.heap.size + 1, i, none⟩ = _ := Bx.cell Xb
  have eXb : ∀ i, w4.frozen? ⟨w.heap.size + 1, i, none⟩ = false := Bx.frozen Xb
  have qXb := Bx.lt Xb
  have dY1 : ∀ i, w4.cell? ⟨w3.heap.size, i, none⟩ = _ := Bx.cell Y1
  have eY1 : ∀ i, w4.frozen? ⟨w3.heap.size, i, none⟩ = false := Bx.frozen Y1
  have qY1 := Bx.lt Y1
  go_wp2_with fail
  refine (fin_any _ _ _ _ _ _ _ xsa _ _ _ _ _ _ _ xsb _ _ (Sa.out.step (below1 _ _ )) (Sb.out.step (below1 _ _ )) HWa.out HWb.out HT2.out).mono ?_
  intro e w5 hR
  obtain ⟨A5, n5, c5, rfl, hS5, hN5, hst⟩ := RetA.flat hR
  clear hR
  clear dXa eXa qXa dXb eXb qXb dY1 eY1 qY1
  obtain ⟨Z1, hst⟩ := after1 hst
  replace Xa := Bx.step Xa hst
  replace Xb := Bx.step Xb hst
  replace Y1 := Bx.step Y1 hst
  replace Sa := Lib.hid (Sa.out.step hst)
  replace Sb := Lib.hid (Sb.out.step hst)
  replace T1 := Lib.hid (T1.out.step hst)
  replace U1 := Lib.hid (U1.out.step hst)
  replace b : Below w.heap.size w w5 := bst b hst
  clear hst
  have T2 := Lib.hid hS5
  have NT2 := Lib.hid hN5
  clear hS5 hN5
  have dXa : ∀ i, w5.cell? ⟨w.heap.size, i, none⟩ = _ := Bx.cell Xa
  have eXa : ∀ i, w5.frozen? ⟨w.heap.size, i, none⟩ = false := Bx.frozen Xa
  have qXa := Bx.lt Xa
  have dXb : ∀ i, w5.cell? ⟨w.heap.size + 1, i, none⟩ = _ := Bx.cell Xb
  have eXb : ∀ i, w5.frozen? ⟨w.heap.size + 1, i, none⟩ = false := Bx.frozen Xb
  have qXb := Bx.lt Xb
  have dY1 : ∀ i, w5.cell? ⟨w3.heap.size, i, none⟩ = _ := Bx.cell Y1
  have eY1 : ∀ i, w5.frozen? ⟨w3.heap.size, i, none⟩ = false := Bx.frozen Y1
  have qY1 := Bx.lt Y1
  have dZ1 : ∀ i, w5.cell? ⟨w4.heap.size, i, none⟩ = _ := Bx.cell Z1
  have eZ1 : ∀ i, w5.frozen? ⟨w4.heap.size, i, none⟩ = false := Bx.frozen Z1
  have qZ1 := Bx.lt Z1
  go_wp2_with fail
  refine (rin_any _ _ _ _ _ _ _ xsa _ _ _ _ _ _ _ xsb _ _ (Sa.out.step (below1 _ _ )) (Sb.out.step (below1 _ _ )) HT2.out).mono ?_
  intro e w6 hR
  obtain ⟨A6, n6, c6, rfl, hS6, hN6, hst⟩ := RetA.flat hR
  clear hR
  clear dXa eXa qXa dXb eXb qXb dY1 eY1 qY1 dZ1 eZ1 qZ1
  obtain ⟨Y2, hst⟩ := after1 hst
  replace Xa := Bx.step Xa hst
  replace Xb := Bx.step Xb hst
  replace Y1 := Bx.step Y1 hst
  replace Z1 := Bx.step Z1 hst
  replace Sa := Lib.hid (Sa.out.step hst)
  replace Sb := Lib.hid (Sb.out.step hst)
  replace T1 := Lib.hid (T1.out.step hst)
  replace U1 := Lib.hid (U1.out.step hst)
  replace T2 := Lib.hid (T2.out.step hst)
  replace b : Below w.heap.size w w6 := bst b hst
  clear hst
  have U2 := Lib.hid hS6
  have NU2 := Lib.hid hN6
  clear hS6 hN6
  have dXa : ∀ i, w6.cell? ⟨w.heap.size, i, none⟩ = _ := Bx.cell Xa
  have eXa : ∀ i, w6.frozen? ⟨w.heap.size, i, none⟩ = false := Bx.frozen Xa
  have qXa := Bx.lt Xa
  have dXb : ∀ i, w6.cell? ⟨w.heap.size + 1, i, none⟩ = _ := Bx.cell Xb
  have eXb : ∀ i, w6.frozen? ⟨w.heap.size + 1, i, none⟩ = false := Bx.frozen Xb
  have qXb := Bx.lt Xb
  have dY1 : ∀ i, w6.cell? ⟨w3.heap.size, i, none⟩ = _ := Bx.cell Y1
  have eY1 : ∀ i, w6.frozen? ⟨w3.heap.size, i, none⟩ = false := Bx.frozen Y1
  have qY1 := Bx.lt Y1
  have dZ1 : ∀ i, w6.cell? ⟨w4.heap.size, i, none⟩ = _ := Bx.cell Z1
  have eZ1 : ∀ i, w6.frozen? ⟨w4.heap.size, i, none⟩ = false := Bx.frozen Z1
  have qZ1 := Bx.lt Z1
  have dY2 : ∀ i, w6.cell? ⟨w5.heap.size, i, none⟩ = _ := Bx.cell Y2
  have eY2 : ∀ i, w6.frozen? ⟨w5.heap.size, i, none⟩ = false := Bx.frozen Y2
  have qY2 := Bx.lt Y2
  go_wp2_with fail
  refine (alike_true _ _ _ _ _ _ _ _ zs1 _ _ _ _ (T1.out.step (below1 _ _ )) (U1.out.step (below1 _ _ ))).mono ?_
  rintro e w7 ⟨rfl, hst⟩
  clear dXa eXa qXa dXb eXb qXb dY1 eY1 qY1 dZ1 eZ1 qZ1 dY2 eY2 qY2
  obtain ⟨Z2, hst⟩ := after1 hst
  replace Xa := Bx.step Xa hst
  replace Xb := Bx.step Xb hst
  replace Y1 := Bx.step Y1 hst
  replace Z1 := Bx.step Z1 hst
  replace Y2 := Bx.step Y2 hst
  replace Sa := Lib.hid (Sa.out.step hst)
  replace Sb := Lib.hid (Sb.out.step hst)
  replace T1 := Lib.hid (T1.out.step hst)
  replace U1 := Lib.hid (U1.out.step hst)
  replace T2 := Lib.hid (T2.out.step hst)
  replace U2 := Lib.hid (U2.out.step hst)
  replace b : Below w.heap.size w w7 := bst b hst
  clear hst
  have dXa : ∀ i, w7.cell? ⟨w.heap.size, i, none⟩ = _ := Bx.cell Xa
  have eXa : ∀ i, w7.frozen? ⟨w.heap.size, i, none⟩ = false := Bx.frozen Xa
  have qXa := Bx.lt Xa
  have dXb : ∀ i, w7.cell? ⟨w.heap.size + 1, i, none⟩ = _ := Bx.cell Xb
  have eXb : ∀ i, w7.frozen? ⟨w.heap.size + 1, i, none⟩ = false := Bx.frozen Xb
  have qXb := Bx.lt Xb
  have dY1 : ∀ i, w7.cell? ⟨w3.heap.size, i, none⟩ = _ := Bx.cell Y1
  have eY1 : ∀ i, w7.frozen? ⟨w3.heap.size, i, none⟩ = false := Bx.frozen Y1
  have qY1 := Bx.lt Y1
  have dZ1 : ∀ i, w7.cell? ⟨w4.heap.size, i, none⟩ = _ := Bx.cell Z1
  have eZ1 : ∀ i, w7.frozen? ⟨w4.heap.size, i, none⟩ = false := Bx.frozen Z1
  have qZ1 := Bx.lt Z1
  have dY2 : ∀ i, w7.cell? ⟨w5.heap.size, i, none⟩ = _ := Bx.cell Y2
  have eY2 : ∀ i, w7.frozen? ⟨w5.heap.size, i, none⟩ = false := Bx.frozen Y2
  have qY2 := Bx.lt Y2
  have dZ2 : ∀ i, w7.cell? ⟨w6.heap.size, i, none⟩ = _ := Bx.cell Z2
  have eZ2 : ∀ i, w7.frozen? ⟨w6.heap.size, i, none⟩ = false := Bx.frozen Z2
  have qZ2 := Bx.lt Z2
  go_wp2_with fail
  refine (alike_true _ _ _ _ _ _ _ _ zs2 _ _ _ _ T2.out U2.out).mono ?_
  rintro e w8 ⟨rfl, hst⟩
  clear dXa eXa qXa dXb eXb qXb dY1 eY1 qY1 dZ1 eZ1 qZ1 dY2 eY2 qY2 dZ2 eZ2 qZ2
  replace Xa := Bx.step Xa hst
  replace Xb := Bx.step Xb hst
  replace Y1 := Bx.step Y1 hst
  replace Z1 := Bx.step Z1 hst
  replace Y2 := Bx.step Y2 hst
  replace Z2 := Bx.step Z2 hst
  replace Sa := Lib.hid (Sa.out.step hst)
  replace Sb := Lib.hid (Sb.out.step hst)
  replace T1 := Lib.hid (T1.out.step hst)
  replace U1 := Lib.hid (U1.out.step hst)
  replace T2 := Lib.hid (T2.out.step hst)
  replace U2 := Lib.hid (U2.out.step hst)
  replace b : Below w.heap.size w w8 := bst b hst
  clear hst
  have dXa : ∀ i, w8.cell? ⟨w.heap.size, i, none⟩ = _ := Bx.cell Xa
  have eXa : ∀ i, w8.frozen? ⟨w.heap.size, i, none⟩ = false := Bx.frozen Xa
  have qXa := Bx.lt Xa
  have dXb : ∀ i, w8.cell? ⟨w.heap.size + 1, i, none⟩ = _ := Bx.cell Xb
  have eXb : ∀ i, w8.frozen? ⟨w.heap.size + 1, i, none⟩ = false := Bx.frozen Xb
  have qXb := Bx.lt Xb
  have dY1 : ∀ i, w8.cell? ⟨w3.heap.size, i, none⟩ = _ := Bx.cell Y1
  have eY1 : ∀ i, w8.frozen? ⟨w3.heap.size, i, none⟩ = false := Bx.frozen Y1
  have qY1 := Bx.lt Y1
  have dZ1 : ∀ i, w8.cell? ⟨w4.heap.size, i, none⟩ = _ := Bx.cell Z1
  have eZ1 : ∀ i, w8.frozen? ⟨w4.heap.size, i, none⟩ = false := Bx.frozen Z1
  have qZ1 := Bx.lt Z1
  have dY2 : ∀ i, w8.cell? ⟨w5.heap.size, i, none⟩ = _ := Bx.cell Y2
  have eY2 : ∀ i, w8.frozen? ⟨w5.heap.size, i, none⟩ = false := Bx.frozen Y2
  have qY2 := Bx.lt Y2
  have dZ2 : ∀ i, w8.cell? ⟨w6.heap.size, i, none⟩ = _ := Bx.cell Z2
  have eZ2 : ∀ i, w8.frozen? ⟨w6.heap.size, i, none⟩ = false := Bx.frozen Z2
  have qZ2 := Bx.lt Z2
  go_wp2_with fail
  refine (awake_any _).mono ?_
  rintro e wz ⟨rfl, hbz⟩
  go_wp2
  go_ret
  exact ⟨rfl, bst b hbz⟩
end Go.Proofs.Ytfbloddffhafdaa

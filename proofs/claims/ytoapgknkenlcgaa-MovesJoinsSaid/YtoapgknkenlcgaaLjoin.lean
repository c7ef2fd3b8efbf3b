/-
  The law MovesJoins: its walk.
-/
import Derived.Test.YtoapgknkenlcgaaMcatz
namespace Go.Proofs.Ytoapgknkenlcgaa
open Go.RowKit

set_option maxHeartbeats 8000000 in
theorem join_fa (ka ra ua va : Int) (Aa : Option Addr) (na ca : Nat) (xsa : List Int) (kb rb ub vb : Int) (Ab : Option Addr) (nb cb : Nat) (xsb : List Int) (kd rd ud vd : Int) (Ad : Option Addr) (nd cd : Nat) (xsd : List Int) (w : World) (hsa : Sl w Aa na ca xsa) (hsb : Sl w Ab nb cb xsb) (hsd : Sl w Ad nd cd xsd) (hfa : 405 < na) :
    Calls Try.prog 8 #[.agg #[.int .i64 ka, .int .i64 ra, .int .i64 ua, .int .i64 va, .slice Aa na ca], .agg #[.int .i64 kb, .int .i64 rb, .int .i64 ub, .int .i64 vb, .slice Ab nb cb], .agg #[.int .i64 kd, .int .i64 rd, .int .i64 ud, .int .i64 vd, .slice Ad nd cd]] w fun e w' => e = .returned (.bool true) ∧ Below w.heap.size w w' := by
  have Sa := Lib.hid hsa
  have Sb := Lib.hid hsb
  have Sd := Lib.hid hsd
  clear hsa hsb hsd
  go_enter Try.func8, Try.ntmps8
  go_wp2_with fail
  refine (far_any _ _ _ _ _ _ _ _).mono ?_
  rintro e w1 ⟨rfl, hst⟩
  obtain ⟨Xa, Xb, Xd, hst⟩ := after3 hst
  replace Sa := Lib.hid (Sa.out.step hst)
  replace Sb := Lib.hid (Sb.out.step hst)
  replace Sd := Lib.hid (Sd.out.step hst)
  have b : Below w.heap.size w w1 := hst
  clear hst
  rw [decide_eq_true hfa]
  have dXa : ∀ i, w1.cell? ⟨w.heap.size, i, none⟩ = _ := Bx.cell Xa
  have eXa : ∀ i, w1.frozen? ⟨w.heap.size, i, none⟩ = false := Bx.frozen Xa
  have qXa := Bx.lt Xa
  have dXb : ∀ i, w1.cell? ⟨w.heap.size + 1, i, none⟩ = _ := Bx.cell Xb
  have eXb : ∀ i, w1.frozen? ⟨w.heap.size + 1, i, none⟩ = false := Bx.frozen Xb
  have qXb := Bx.lt Xb
  have dXd : ∀ i, w1.cell? ⟨w.heap.size + 1 + 1, i, none⟩ = _ := Bx.cell Xd
  have eXd : ∀ i, w1.frozen? ⟨w.heap.size + 1 + 1, i, none⟩ = false := Bx.frozen Xd
  have qXd := Bx.lt Xd
  go_wp2_with fail
  refine (awake_any _).mono ?_
  rintro e wz ⟨rfl, hbz⟩
  go_wp2
  go_ret
  exact ⟨rfl, bst b hbz⟩
set_option maxHeartbeats 8000000 in
theorem join_fb (ka ra ua va : Int) (Aa : Option Addr) (na ca : Nat) (xsa : List Int) (kb rb ub vb : Int) (Ab : Option Addr) (nb cb : Nat) (xsb : List Int) (kd rd ud vd : Int) (Ad : Option Addr) (nd cd : Nat) (xsd : List Int) (w : World) (hsa : Sl w Aa na ca xsa) (hsb : Sl w Ab nb cb xsb) (hsd : Sl w Ad nd cd xsd) (hfa : ¬ 405 < na) (hfb : 405 < nb) :
    Calls Try.prog 8 #[.agg #[.int .i64 ka, .int .i64 ra, .int .i64 ua, .int .i64 va, .slice Aa na ca], .agg #[.int .i64 kb, .int .i64 rb, .int .i64 ub, .int .i64 vb, .slice Ab nb cb], .agg #[.int .i64 kd, .int .i64 rd, .int .i64 ud, .int .i64 vd, .slice Ad nd cd]] w fun e w' => e = .returned (.bool true) ∧ Below w.heap.size w w' := by
  have Sa := Lib.hid hsa
  have Sb := Lib.hid hsb
  have Sd := Lib.hid hsd
  clear hsa hsb hsd
  go_enter Try.func8, Try.ntmps8
  go_wp2_with fail
  refine (far_any _ _ _ _ _ _ _ _).mono ?_
  rintro e w1 ⟨rfl, hst⟩
  obtain ⟨Xa, Xb, Xd, hst⟩ := after3 hst
  replace Sa := Lib.hid (Sa.out.step hst)
  replace Sb := Lib.hid (Sb.out.step hst)
  replace Sd := Lib.hid (Sd.out.step hst)
  have b : Below w.heap.size w w1 := hst
  clear hst
  rw [decide_eq_false hfa]
  have dXa : ∀ i, w1.cell? ⟨w.heap.size, i, none⟩ = _ := Bx.cell Xa
  have eXa : ∀ i, w1.frozen? ⟨w.heap.size, i, none⟩ = false := Bx.frozen Xa
  have qXa := Bx.lt Xa
  have dXb : ∀ i, w1.cell? ⟨w.heap.size + 1, i, none⟩ = _ := Bx.cell Xb
  have eXb : ∀ i, w1.frozen? ⟨w.heap.size + 1, i, none⟩ = false := Bx.frozen Xb
  have qXb := Bx.lt Xb
  have dXd : ∀ i, w1.cell? ⟨w.heap.size + 1 + 1, i, none⟩ = _ := Bx.cell Xd
  have eXd : ∀ i, w1.frozen? ⟨w.heap.size + 1 + 1, i, none⟩ = false := Bx.frozen Xd
  have qXd := Bx.lt Xd
  go_wp2_with fail
  refine (far_any _ _ _ _ _ _ _ _).mono ?_
  rintro e w2 ⟨rfl, hst⟩
  clear dXa eXa qXa dXb eXb qXb dXd eXd qXd
  replace Xa := Bx.step Xa hst
  replace Xb := Bx.step Xb hst
  replace Xd := Bx.step Xd hst
  replace Sa := Lib.hid (Sa.out.step hst)
  replace Sb := Lib.hid (Sb.out.step hst)
  replace Sd := Lib.hid (Sd.out.step hst)
  replace b : Below w.heap.size w w2 := bst b hst
  clear hst
  rw [decide_eq_true hfb]
  have dXa : ∀ i, w2.cell? ⟨w.heap.size, i, none⟩ = _ := Bx.cell Xa
  have eXa : ∀ i, w2.frozen? ⟨w.heap.size, i, none⟩ = false := Bx.frozen Xa
  have qXa := Bx.lt Xa
  have dXb : ∀ i, w2.cell? ⟨w.heap.size + 1, i, none⟩ = _ := Bx.cell Xb
  have eXb : ∀ i, w2.frozen? ⟨w.heap.size + 1, i, none⟩ = false := Bx.frozen Xb
  have qXb := Bx.lt Xb
  have dXd : ∀ i, w2.cell? ⟨w.heap.size + 1 + 1, i, none⟩ = _ := Bx.cell Xd
  have eXd : ∀ i, w2.frozen? ⟨w.heap.size + 1 + 1, i, none⟩ = false := Bx.frozen Xd
  have qXd := Bx.lt Xd
  go_wp2_with fail
  refine (awake_any _).mono ?_
  rintro e wz ⟨rfl, hbz⟩
  go_wp2
  go_ret
  exact ⟨rfl, bst b hbz⟩
set_option maxHeartbeats 8000000 in
theorem join_fd (ka ra ua va : Int) (Aa : Option Addr) (na ca : Nat) (xsa : List Int) (kb rb ub vb : Int) (Ab : Option Addr) (nb cb : Nat) (xsb : List Int) (kd rd ud vd : Int) (Ad : Option Addr) (nd cd : Nat) (xsd : List Int) (w : World) (hsa : Sl w Aa na ca xsa) (hsb : Sl w Ab nb cb xsb) (hsd : Sl w Ad nd cd xsd) (hfa : ¬ 405 < na) (hfb : ¬ 405 < nb) (hfd : 405 < nd) :
    Calls Try.prog 8 #[.agg #[.int .i64 ka, .int .i64 ra, .int .i64 ua, .int .i64 va, .slice Aa na ca], .agg #[.int .i64 kb, .int .i64 rb, .int .i64 ub, .int .i64 vb, .slice Ab nb cb], .agg #[.int .i64 kd, .int .i64 rd, .int .i64 ud, .int .i64 vd, .slice Ad nd cd]] w fun e w' => e = .returned (.bool true) ∧ Below w.heap.size w w' := by
  have Sa := Lib.hid hsa
  have Sb := Lib.hid hsb
  have Sd := Lib.hid hsd
  clear hsa hsb hsd
  go_enter Try.func8, Try.ntmps8
  go_wp2_with fail
  refine (far_any _ _ _ _ _ _ _ _).mono ?_
  rintro e w1 ⟨rfl, hst⟩
  obtain ⟨Xa, Xb, Xd, hst⟩ := after3 hst
  replace Sa := Lib.hid (Sa.out.step hst)
  replace Sb := Lib.hid (Sb.out.step hst)
  replace Sd := Lib.hid (Sd.out.step hst)
  have b : Below w.heap.size w w1 := hst
  clear hst
  rw [decide_eq_false hfa]
  have dXa : ∀ i, w1.cell? ⟨w.heap.size, i, none⟩ = _ := Bx.cell Xa
  have eXa : ∀ i, w1.frozen? ⟨w.heap.size, i, none⟩ = false := Bx.frozen Xa
  have qXa := Bx.lt Xa
  have dXb : ∀ i, w1.cell? ⟨w.heap.size + 1, i, none⟩ = _ := Bx.cell Xb
  have eXb : ∀ i, w1.frozen? ⟨w.heap.size + 1, i, none⟩ = false := Bx.frozen Xb
  have qXb := Bx.lt Xb
  have dXd : ∀ i, w1.cell? ⟨w.heap.size + 1 + 1, i, none⟩ = _ := Bx.cell Xd
  have eXd : ∀ i, w1.frozen? ⟨w.heap.size + 1 + 1, i, none⟩ = false := Bx.frozen Xd
  have qXd := Bx.lt Xd
  go_wp2_with fail
  refine (far_any _ _ _ _ _ _ _ _).mono ?_
  rintro e w2 ⟨rfl, hst⟩
  clear dXa eXa qXa dXb eXb qXb dXd eXd qXd
  replace Xa := Bx.step Xa hst
  replace Xb := Bx.step Xb hst
  replace Xd := Bx.step Xd hst
  replace Sa := Lib.hid (Sa.out.step hst)
  replace Sb := Lib.hid (Sb.out.step hst)
  replace Sd := Lib.hid (Sd.out.step hst)
  replace b : Below w.heap.size w w2 := bst b hst
  clear hst
  rw [decide_eq_false hfb]
  have dXa : ∀ i, w2.cell? ⟨w.heap.size, i, none⟩ = _ := Bx.cell Xa
  have eXa : ∀ i, w2.frozen? ⟨w.heap.size, i, none⟩ = false := Bx.frozen Xa
  have qXa := Bx.lt Xa
  have dXb : ∀ i, w2.cell? ⟨w.heap.size + 1, i, none⟩ = _ := Bx.cell Xb
  have eXb : ∀ i, w2.frozen? ⟨w.heap.size + 1, i, none⟩ = false := Bx.frozen Xb
  have qXb := Bx.lt Xb
  have dXd : ∀ i, w2.cell? ⟨w.heap.size + 1 + 1, i, none⟩ = _ := Bx.cell Xd
  have eXd : ∀ i, w2.frozen? ⟨w.heap.size + 1 + 1, i, none⟩ = false := Bx.frozen Xd
  have qXd := Bx.lt Xd
  go_wp2_with fail
  refine (far_any _ _ _ _ _ _ _ _).mono ?_
  rintro e w3 ⟨rfl, hst⟩
  clear dXa eXa qXa dXb eXb qXb dXd eXd qXd
  replace Xa := Bx.step Xa hst
  replace Xb := Bx.step Xb hst
  replace Xd := Bx.step Xd hst
  replace Sa := Lib.hid (Sa.out.step hst)
  replace Sb := Lib.hid (Sb.out.step hst)
  replace Sd := Lib.hid (Sd.out.step hst)
  replace b : Below w.heap.size w w3 := bst b hst
  clear hst
  rw [decide_eq_true hfd]
  have dXa : ∀ i, w3.cell? ⟨w.heap.size, i, none⟩ = _ := Bx.cell Xa
  have eXa : ∀ i, w3.frozen? ⟨w.heap.size, i, none⟩ = false := Bx.frozen Xa
  have qXa := Bx.lt Xa
  have dXb : ∀ i, w3.cell? ⟨w.heap.size + 1, i, none⟩ = _ := Bx.cell Xb
  have eXb : ∀ i, w3.frozen? ⟨w.heap.size + 1, i, none⟩ = false := Bx.frozen Xb
  have qXb := Bx.lt Xb
  have dXd : ∀ i, w3.cell? ⟨w.heap.size + 1 + 1, i, none⟩ = _ := Bx.cell Xd
  have eXd : ∀ i, w3.frozen? ⟨w.heap.size + 1 + 1, i, none⟩ = false := Bx.frozen Xd
  have qXd := Bx.lt Xd
  go_wp2_with fail
  refine (awake_any _).mono ?_
  rintro e wz ⟨rfl, hbz⟩
  go_wp2
  go_ret
  exact ⟨rfl, bst b hbz⟩
set_option maxHeartbeats 8000000 in
theorem join_bad (ka ra ua va : Int) (Aa : Option Addr) (na ca : Nat) (xsa : List Int) (kb rb ub vb : Int) (Ab : Option Addr) (nb cb : Nat) (xsb : List Int) (kd rd ud vd : Int) (Ad : Option Addr) (nd cd : Nat) (xsd : List Int) (w : World) (hsa : Sl w Aa na ca xsa) (hsb : Sl w Ab nb cb xsb) (hsd : Sl w Ad nd cd xsd) (hfa : ¬ 405 < na) (hfb : ¬ 405 < nb) (hfd : ¬ 405 < nd) (k1 r1 u1 v1 : Int) (xs1 : List Int) (k2 r2 u2 v2 : Int) (xs2 : List Int) (e1 e2 : Int)
    (h1 : sCat ⟨ka, ra, ua, va, xsa⟩ ⟨kb, rb, ub, vb, xsb⟩ = (⟨k1, r1, u1, v1, xs1⟩, e1)) (h2 : sCat ⟨kb, rb, ub, vb, xsb⟩ ⟨kd, rd, ud, vd, xsd⟩ = (⟨k2, r2, u2, v2, xs2⟩, e2)) (hbad : (e1 != 0) = true ∨ ((e1 != 0) = false ∧ (e2 != 0) = true)) :
    Calls Try.prog 8 #[.agg #[.int .i64 ka, .int .i64 ra, .int .i64 ua, .int .i64 va, .slice Aa na ca], .agg #[.int .i64 kb, .int .i64 rb, .int .i64 ub, .int .i64 vb, .slice Ab nb cb], .agg #[.int .i64 kd, .int .i64 rd, .int .i64 ud, .int .i64 vd, .slice Ad nd cd]] w fun e w' => e = .returned (.bool true) ∧ Below w.heap.size w w' := by
  have Sa := Lib.hid hsa
  have Sb := Lib.hid hsb
  have Sd := Lib.hid hsd
  clear hsa hsb hsd
  have H1 := Lib.hid h1
  have H2 := Lib.hid h2
  clear h1 h2
  go_enter Try.func8, Try.ntmps8
  go_wp2_with fail
  refine (far_any _ _ _ _ _ _ _ _).mono ?_
  rintro e w1 ⟨rfl, hst⟩
  obtain ⟨Xa, Xb, Xd, hst⟩ := after3 hst
  replace Sa := Lib.hid (Sa.out.step hst)
  replace Sb := Lib.hid (Sb.out.step hst)
  replace Sd := Lib.hid (Sd.out.step hst)
  have b : Below w.heap.size w w1 := hst
  clear hst
  rw [decide_eq_false hfa]
  have dXa : ∀ i, w1.cell? ⟨w.heap.size, i, none⟩ = _ := Bx.cell Xa
  have eXa : ∀ i, w1.frozen? ⟨w.heap.size, i, none⟩ = false := Bx.frozen Xa
  have qXa := Bx.lt Xa
  have dXb : ∀ i, w1.cell? ⟨w.heap.size + 1, i, none⟩ = _ := Bx.cell Xb
  have eXb : ∀ i, w1.frozen? ⟨w.heap.size + 1, i, none⟩ = false := Bx.frozen Xb
  have qXb := Bx.lt Xb
  have dXd : ∀ i, w1.cell? ⟨w.heap.size + 1 + 1, i, none⟩ = _ := Bx.cell Xd
  have eXd : ∀ i, w1.frozen? ⟨w.heap.size + 1 + 1, i, none⟩ = false := Bx.frozen Xd
  have qXd := Bx.lt Xd
  go_wp2_with fail
  refine (far_any _ _ _ _ _ _ _ _).mono ?_
  rintro e w2 ⟨rfl, hst⟩
  clear dXa eXa qXa dXb eXb qXb dXd eXd qXd
  replace Xa := Bx.step Xa hst
  replace Xb := Bx.step Xb hst
  replace Xd := Bx.step Xd hst
  replace Sa := Lib.hid (Sa.out.step hst)
  replace Sb := Lib.hid (Sb.out.step hst)
  replace Sd := Lib.hid (Sd.out.step hst)
  replace b : Below w.heap.size w w2 := bst b hst
  clear hst
  rw [decide_eq_false hfb]
  have dXa : ∀ i, w2.cell? ⟨w.heap.size, i, none⟩ = _ := Bx.cell Xa
  have eXa : ∀ i, w2.frozen? ⟨w.heap.size, i, none⟩ = false := Bx.frozen Xa
  have qXa := Bx.lt Xa
  have dXb : ∀ i, w2.cell? ⟨w.heap.size + 1, i, none⟩ = _ := Bx.cell Xb
  have eXb : ∀ i, w2.frozen? ⟨w.heap.size + 1, i, none⟩ = false := Bx.frozen Xb
  have qXb := Bx.lt Xb
  have dXd : ∀ i, w2.cell? ⟨w.heap.size + 1 + 1, i, none⟩ = _ := Bx.cell Xd
  have eXd : ∀ i, w2.frozen? ⟨w.heap.size + 1 + 1, i, none⟩ = false := Bx.frozen Xd
  have qXd := Bx.lt Xd
  go_wp2_with fail
  refine (far_any _ _ _ _ _ _ _ _).mono ?_
  rintro e w3 ⟨rfl, hst⟩
  clear dXa eXa qXa dXb eXb qXb dXd eXd qXd
  replace Xa := Bx.step Xa hst
  replace Xb := Bx.step Xb hst
  replace Xd := Bx.step Xd hst
  replace Sa := Lib.hid (Sa.out.step hst)
  replace Sb := Lib.hid (Sb.out.step hst)
  replace Sd := Lib.hid (Sd.out.step hst)
  replace b : Below w.heap.size w w3 := bst b hst
  clear hst
  rw [decide_eq_false hfd]
  have dXa : ∀ i, w3.cell? ⟨w.heap.size, i, none⟩ = _ := Bx.cell Xa
  have eXa : ∀ i, w3.frozen? ⟨w.heap.size, i, none⟩ = false := Bx.frozen Xa
  have qXa := Bx.lt Xa
  have dXb : ∀ i, w3.cell? ⟨w.heap.size + 1, i, none⟩ = _ := Bx.cell Xb
  have eXb : ∀ i, w3.frozen? ⟨w.heap.size + 1, i, none⟩ = false := Bx.frozen Xb
  have qXb := Bx.lt Xb
  have dXd : ∀ i, w3.cell? ⟨w.heap.size + 1 + 1, i, none⟩ = _ := Bx.cell Xd
  have eXd : ∀ i, w3.frozen? ⟨w.heap.size + 1 + 1, i, none⟩ = false := Bx.frozen Xd
  have qXd := Bx.lt Xd
  go_wp2_with fail
  refine (mCat_any _ _ _ _ _ _ _ xsa _ _ _ _ _ _ _ xsb _ _ Sa.out Sb.out H1.out).mono ?_
  intro e w4 hR
  obtain ⟨A4, n4, c4, rfl, hS4, hN4, hst⟩ := RetA.flat hR
  clear hR
  clear dXa eXa qXa dXb eXb qXb dXd eXd qXd
  replace Xa := Bx.step Xa hst
  replace Xb := Bx.step Xb hst
  replace Xd := Bx.step Xd hst
  replace Sa := Lib.hid (Sa.out.step hst)
  replace Sb := Lib.hid (Sb.out.step hst)
  replace Sd := Lib.hid (Sd.out.step hst)
  replace b : Below w.heap.size w w4 := bst b hst
  clear hst
  have S1 := Lib.hid hS4
  have NS1 := Lib.hid hN4
  clear hS4 hN4
  have dXa : ∀ i, w4.cell? ⟨w.heap.size, i, none⟩ = _ := Bx.cell Xa
  have eXa : ∀ i, w4.frozen? ⟨w.heap.size, i, none⟩ = false := Bx.frozen Xa
  have qXa := Bx.lt Xa
  have dXb : ∀ i, w4.cell? ⟨w.heap.size + 1, i, none⟩ = _ := Bx.cell Xb
  have eXb : ∀ i, w4.frozen? ⟨w.heap.size + 1, i, none⟩ = false := Bx.frozen Xb
  have qXb := Bx.lt Xb
  have dXd : ∀ i, w4.cell? ⟨w.heap.size + 1 + 1, i, none⟩ = _ := Bx.cell Xd
  have eXd : ∀ i, w4.frozen? ⟨w.heap.size + 1 + 1, i, none⟩ = false := Bx.frozen Xd
  have qXd := Bx.lt Xd
  go_wp2_with fail
  refine (mCat_any _ _ _ _ _ _ _ xsb _ _ _ _ _ _ _ xsd _ _ (Sb.out.step (below1 _ _ )) (Sd.out.step (below1 _ _ )) H2.out).mono ?_
  intro e w5 hR
  obtain ⟨A5, n5, c5, rfl, hS5, hN5, hst⟩ := RetA.flat hR
  clear hR
  clear dXa eXa qXa dXb eXb qXb dXd eXd qXd
  obtain ⟨X1, hst⟩ := after1 hst
  replace Xa := Bx.step Xa hst
  replace Xb := Bx.step Xb hst
  replace Xd := Bx.step Xd hst
  replace Sa := Lib.hid (Sa.out.step hst)
  replace Sb := Lib.hid (Sb.out.step hst)
  replace Sd := Lib.hid (Sd.out.step hst)
  replace S1 := Lib.hid (S1.out.step hst)
  replace b : Below w.heap.size w w5 := bst b hst
  clear hst
  have S2 := Lib.hid hS5
  have NS2 := Lib.hid hN5
  clear hS5 hN5
  have dXa : ∀ i, w5.cell? ⟨w.heap.size, i, none⟩ = _ := Bx.cell Xa
  have eXa : ∀ i, w5.frozen? ⟨w.heap.size, i, none⟩ = false := Bx.frozen Xa
  have qXa := Bx.lt Xa
  have dXb : ∀ i, w5.cell? ⟨w.heap.size + 1, i, none⟩ = _ := Bx.cell Xb
  have eXb : ∀ i, w5.frozen? ⟨w.heap.size + 1, i, none⟩ = false := Bx.frozen Xb
  have qXb := Bx.lt Xb
  have dXd : ∀ i, w5.cell? ⟨w.heap.size + 1 + 1, i, none⟩ = _ := Bx.cell Xd
  have eXd : ∀ i, w5.frozen? ⟨w.heap.size + 1 + 1, i, none⟩ = false := Bx.frozen Xd
  have qXd := Bx.lt Xd
  have dX1 : ∀ i, w5.cell? ⟨w4.heap.size, i, none⟩ = _ := Bx.cell X1
  have eX1 : ∀ i, w5.frozen? ⟨w4.heap.size, i, none⟩ = false := Bx.frozen X1
  have qX1 := Bx.lt X1
  rcases hbad with hbad | ⟨hbad, hbad2⟩
  · go_wp2_with fail
    refine (awake_any _).mono ?_
    rintro e wz ⟨rfl, hbz⟩
    go_wp2
    go_ret
    exact ⟨rfl, bst (bal b _) hbz⟩
  · go_wp2_with fail
    refine (awake_any _).mono ?_
    rintro e wz ⟨rfl, hbz⟩
    go_wp2
    go_ret
    exact ⟨rfl, bst (bal b _) hbz⟩
set_option maxHeartbeats 8000000 in
theorem join_good (ka ra ua va : Int) (Aa : Option Addr) (na ca : Nat) (xsa : List Int) (kb rb ub vb : Int) (Ab : Option Addr) (nb cb : Nat) (xsb : List Int) (kd rd ud vd : Int) (Ad : Option Addr) (nd cd : Nat) (xsd : List Int) (w : World) (hsa : Sl w Aa na ca xsa) (hsb : Sl w Ab nb cb xsb) (hsd : Sl w Ad nd cd xsd) (hfa : ¬ 405 < na) (hfb : ¬ 405 < nb) (hfd : ¬ 405 < nd) (k1 r1 u1 v1 : Int) (xs1 : List Int) (k2 r2 u2 v2 : Int) (xs2 : List Int) (k3 r3 u3 v3 : Int) (xs3 : List Int) (k5 r5 u5 v5 : Int) (xs5 : List Int) (k6 r6 u6 v6 : Int) (xs6 : List Int) (k7 r7 u7 v7 : Int) (xs7 : List Int) (e3 : Int)
    (h1 : sCat ⟨ka, ra, ua, va, xsa⟩ ⟨kb, rb, ub, vb, xsb⟩ = (⟨k1, r1, u1, v1, xs1⟩, 0)) (h2 : sCat ⟨kb, rb, ub, vb, xsb⟩ ⟨kd, rd, ud, vd, xsd⟩ = (⟨k2, r2, u2, v2, xs2⟩, 0)) (h3 : sCat ⟨k1, r1, u1, v1, xs1⟩ ⟨kd, rd, ud, vd, xsd⟩ = (⟨k3, r3, u3, v3, xs3⟩, e3)) (h4 : sCat ⟨ka, ra, ua, va, xsa⟩ ⟨k2, r2, u2, v2, xs2⟩ = (⟨k3, r3, u3, v3, xs3⟩, e3)) (h5 : sReverse ⟨k1, r1, u1, v1, xs1⟩ = (⟨k5, r5, u5, v5, xs5⟩, 0)) (h6 : sReverse ⟨ka, ra, ua, va, xsa⟩ = (⟨k6, r6, u6, v6, xs6⟩, 0)) (h7 : sReverse ⟨kb, rb, ub, vb, xsb⟩ = (⟨k7, r7, u7, v7, xs7⟩, 0)) (h8 : sCat ⟨k7, r7, u7, v7, xs7⟩ ⟨k6, r6, u6, v6, xs6⟩ = (⟨k5, r5, u5, v5, xs5⟩, 0)) :
    Calls Try.prog 8 #[.agg #[.int .i64 ka, .int .i64 ra, .int .i64 ua, .int .i64 va, .slice Aa na ca], .agg #[.int .i64 kb, .int .i64 rb, .int .i64 ub, .int .i64 vb, .slice Ab nb cb], .agg #[.int .i64 kd, .int .i64 rd, .int .i64 ud, .int .i64 vd, .slice Ad nd cd]] w fun e w' => e = .returned (.bool true) ∧ Below w.heap.size w w' := by
  have Sa := Lib.hid hsa
  have Sb := Lib.hid hsb
  have Sd := Lib.hid hsd
  clear hsa hsb hsd
  have H1 := Lib.hid h1
  have H2 := Lib.hid h2
  have H3 := Lib.hid h3
  have H4 := Lib.hid h4
  have H5 := Lib.hid h5
  have H6 := Lib.hid h6
  have H7 := Lib.hid h7
  have H8 := Lib.hid h8
  clear h1 h2 h3 h4 h5 h6 h7 h8
  go_enter Try.func8, Try.ntmps8
  go_wp2_with fail
  refine (far_any _ _ _ _ _ _ _ _).mono ?_
  rintro e w1 ⟨rfl, hst⟩
  obtain ⟨Xa, Xb, Xd, hst⟩ := after3 hst
  replace Sa := Lib.hid (Sa.out.step hst)
  replace Sb := Lib.hid (Sb.out.step hst)
  replace Sd := Lib.hid (Sd.out.step hst)
  have b : Below w.heap.size w w1 := hst
  clear hst
  rw [decide_eq_false hfa]
  have dXa : ∀ i, w1.cell? ⟨w.heap.size, i, none⟩ = _ := Bx.cell Xa
  have eXa : ∀ i, w1.frozen? ⟨w.heap.size, i, none⟩ = false := Bx.frozen Xa
  have qXa := Bx.lt Xa
  have dXb : ∀ i, w1.cell? ⟨w.heap.size + 1, i, none⟩ = _ := Bx.cell Xb
  have eXb : ∀ i, w1.frozen? ⟨w.heap.size + 1, i, none⟩ = false := Bx.frozen Xb
  have qXb := Bx.lt Xb
  have dXd : ∀ i, w1.cell? ⟨w.heap.size + 1 + 1, i, none⟩ = _ := Bx.cell Xd
  have eXd : ∀ i, w1.frozen? ⟨w.heap.size + 1 + 1, i, none⟩ = false := Bx.frozen Xd
  have qXd := Bx.lt Xd
  go_wp2_with fail
  refine (far_any _ _ _ _ _ _ _ _).mono ?_
  rintro e w2 ⟨rfl, hst⟩
  clear dXa eXa qXa dXb eXb qXb dXd eXd qXd
  replace Xa := Bx.step Xa hst
  replace Xb := Bx.step Xb hst
  replace Xd := Bx.step Xd hst
  replace Sa := Lib.hid (Sa.out.step hst)
  replace Sb := Lib.hid (Sb.out.step hst)
  replace Sd := Lib.hid (Sd.out.step hst)
  replace b : Below w.heap.size w w2 := bst b hst
  clear hst
  rw [decide_eq_false hfb]
  have dXa : ∀ i, w2.cell? ⟨w.heap.size, i, none⟩ = _ := Bx.cell Xa
  have eXa : ∀ i, w2.frozen? ⟨w.heap.size, i, none⟩ = false := Bx.frozen Xa
  have qXa := Bx.lt Xa
  have dXb : ∀ i, w2.cell? ⟨w.heap.size + 1, i, none⟩ = _ := Bx.cell Xb
  have eXb : ∀ i, w2.frozen? ⟨w.heap.size + 1, i, none⟩ = false := Bx.frozen Xb
  have qXb := Bx.lt Xb
  have dXd : ∀ i, w2.cell? ⟨w.heap.size + 1 + 1, i, none⟩ = _ := Bx.cell Xd
  have eXd : ∀ i, w2.frozen? ⟨w.heap.size + 1 + 1, i, none⟩ = false := Bx.frozen Xd
  have qXd := Bx.lt Xd
  go_wp2_with fail
  refine (far_any _ _ _ _ _ _ _ _).mono ?_
  rintro e w3 ⟨rfl, hst⟩
  clear dXa eXa qXa dXb eXb qXb dXd eXd qXd
  replace Xa := Bx.step Xa hst
  replace Xb := Bx.step Xb hst
  replace Xd := Bx.step Xd hst
  replace Sa := Lib.hid (Sa.out.step hst)
  replace Sb := Lib.hid (Sb.out.step hst)
  replace Sd := Lib.hid (Sd.out.step hst)
  replace b : Below w.heap.size w w3 := bst b hst
  clear hst
  rw [decide_eq_false hfd]
  have dXa : ∀ i, w3.cell? ⟨w.heap.size, i, none⟩ = _ := Bx.cell Xa
  have eXa : ∀ i, w3.frozen? ⟨w.heap.size, i, none⟩ = false := Bx.frozen Xa
  have qXa := Bx.lt Xa
  have dXb : ∀ i, w3.cell? ⟨w.heap.size + 1, i, none⟩ = _ := Bx.cell Xb
  have eXb : ∀ i, w3.frozen? ⟨w.heap.size + 1, i, none⟩ = false := Bx.frozen Xb
  have qXb := Bx.lt Xb
  have dXd : ∀ i, w3.cell? ⟨w.heap.size + 1 + 1, i, none⟩ = _ := Bx.cell Xd
  have eXd : ∀ i, w3.frozen? ⟨w.heap.size + 1 + 1, i, none⟩ = false := Bx.frozen Xd
  have qXd := Bx.lt Xd
  go_wp2_with fail
  refine (mCat_any _ _ _ _ _ _ _ xsa _ _ _ _ _ _ _ xsb _ _ Sa.out Sb.out H1.out).mono ?_
  intro e w4 hR
  obtain ⟨A4, n4, c4, rfl, hS4, hN4, hst⟩ := RetA.flat hR
  clear hR
  clear dXa eXa qXa dXb eXb qXb dXd eXd qXd
  replace Xa := Bx.step Xa hst
  replace Xb := Bx.step Xb hst
  replace Xd := Bx.step Xd hst
  replace Sa := Lib.hid (Sa.out.step hst)
  replace Sb := Lib.hid (Sb.out.step hst)
  replace Sd := Lib.hid (Sd.out.step hst)
  replace b : Below w.heap.size w w4 := bst b hst
  clear hst
  have S1 := Lib.hid hS4
  have NS1 := Lib.hid hN4
  clear hS4 hN4
  have dXa : ∀ i, w4.cell? ⟨w.heap.size, i, none⟩ = _ := Bx.cell Xa
  have eXa : ∀ i, w4.frozen? ⟨w.heap.size, i, none⟩ = false := Bx.frozen Xa
  have qXa := Bx.lt Xa
  have dXb : ∀ i, w4.cell? ⟨w.heap.size + 1, i, none⟩ = _ := Bx.cell Xb
  have eXb : ∀ i, w4.frozen? ⟨w.heap.size + 1, i, none⟩ = false := Bx.frozen Xb
  have qXb := Bx.lt Xb
  have dXd : ∀ i, w4.cell? ⟨w.heap.size + 1 + 1, i, none⟩ = _ := Bx.cell Xd
  have eXd : ∀ i, w4.frozen? ⟨w.heap.size + 1 + 1, i, none⟩ = false := Bx.frozen Xd
  have qXd := Bx.lt Xd
  go_wp2_with fail
  refine (mCat_any _ _ _ _ _ _ _ xsb _ _ _ _ _ _ _ xsd _ _ (Sb.out.step (below1 _ _ )) (Sd.out.step (below1 _ _ )) H2.out).mono ?_
  intro e w5 hR
  obtain ⟨A5, n5, c5, rfl, hS5, hN5, hst⟩ := RetA.flat hR
  clear hR
  clear dXa eXa qXa dXb eXb qXb dXd eXd qXd
  obtain ⟨X1, hst⟩ := after1 hst
  replace Xa := Bx.step Xa hst
  replace Xb := Bx.step Xb hst
  replace Xd := Bx.step Xd hst
  replace Sa := Lib.hid (Sa.out.step hst)
  replace Sb := Lib.hid (Sb.out.step hst)
  replace Sd := Lib.hid (Sd.out.step hst)
  replace S1 := Lib.hid (S1.out.step hst)
  replace b : Below w.heap.size w w5 := bst b hst
  clear hst
  have S2 := Lib.hid hS5
  have NS2 := Lib.hid hN5
  clear hS5 hN5
  have dXa : ∀ i, w5.cell? ⟨w.heap.size, i, none⟩ = _ := Bx.cell Xa
  have eXa : ∀ i, w5.frozen? ⟨w.heap.size, i, none⟩ = false := Bx.frozen Xa
  have qXa := Bx.lt Xa
  have dXb : ∀ i, w5.cell? ⟨w.heap.size + 1, i, none⟩ = _ := Bx.cell Xb
  have eXb : ∀ i, w5.frozen? ⟨w.heap.size + 1, i, none⟩ = false := Bx.frozen Xb
  have qXb := Bx.lt Xb
  have dXd : ∀ i, w5.cell? ⟨w.heap.size + 1 + 1, i, none⟩ = _ := Bx.cell Xd
  have eXd : ∀ i, w5.frozen? ⟨w.heap.size + 1 + 1, i, none⟩ = false := Bx.frozen Xd
  have qXd := Bx.lt Xd
  have dX1 : ∀ i, w5.cell? ⟨w4.heap.size, i, none⟩ = _ := Bx.cell X1
  have eX1 : ∀ i, w5.frozen? ⟨w4.heap.size, i, none⟩ = false := Bx.frozen X1
  have qX1 := Bx.lt X1
  go_wp2_with fail
  refine (mCat_any _ _ _ _ _ _ _ xs1 _ _ _ _ _ _ _ xsd _ _ (S1.out.step (below1 _ _ )) (Sd.out.step (below1 _ _ )) H3.out).mono ?_
  intro e w6 hR
  obtain ⟨A6, n6, c6, rfl, hS6, hN6, hst⟩ := RetA.flat hR
  clear hR
  clear dXa eXa qXa dXb eXb qXb dXd eXd qXd dX1 eX1 qX1
  obtain ⟨X2, hst⟩ := after1 hst
  replace Xa := Bx.step Xa hst
  replace Xb := Bx.step Xb hst
  replace Xd := Bx.step Xd hst
  replace X1 := Bx.step X1 hst
  replace Sa := Lib.hid (Sa.out.step hst)
  replace Sb := Lib.hid (Sb.out.step hst)
  replace Sd := Lib.hid (Sd.out.step hst)
  replace S1 := Lib.hid (S1.out.step hst)
  replace S2 := Lib.hid (S2.out.step hst)
  replace b : Below w.heap.size w w6 := bst b hst
  clear hst
  have S3 := Lib.hid hS6
  have NS3 := Lib.hid hN6
  clear hS6 hN6
  have dXa : ∀ i, w6.cell? ⟨w.heap.size, i, none⟩ = _ := Bx.cell Xa
  have eXa : ∀ i, w6.frozen? ⟨w.heap.size, i, none⟩ = false := Bx.frozen Xa
  have qXa := Bx.lt Xa
  have dXb : ∀ i, w6.cell? ⟨w.heap.size + 1, i, none⟩ = _ := Bx.cell Xb
  have eXb : ∀ i, w6.frozen? ⟨w.heap.size + 1, i, none⟩ = false := Bx.frozen Xb
  have qXb := Bx.lt Xb
  have dXd : ∀ i, w6.cell? ⟨w.heap.size + 1 + 1, i, none⟩ = _ := Bx.cell Xd
  have eXd : ∀ i, w6.frozen? ⟨w.heap.size + 1 + 1, i, none⟩ = false := Bx.frozen Xd
  have qXd := Bx.lt Xd
  have dX1 : ∀ i, w6.cell? ⟨w4.heap.size, i, none⟩ = _ := Bx.cell X1
  have eX1 : ∀ i, w6.frozen? ⟨w4.heap.size, i, none⟩ = false := Bx.frozen X1
  have qX1 := Bx.lt X1
  have dX2 : ∀ i, w6.cell? ⟨w5.heap.size, i, none⟩ = _ := Bx.cell X2
  have eX2 : ∀ i, w6.frozen? ⟨w5.heap.size, i, none⟩ = false := Bx.frozen X2
  have qX2 := Bx.lt X2
  go_wp2_with fail
  refine (mCat_any _ _ _ _ _ _ _ xsa _ _ _ _ _ _ _ xs2 _ _ (Sa.out.step (below1 _ _ )) (S2.out.step (below1 _ _ )) H4.out).mono ?_
  intro e w7 hR
  obtain ⟨A7, n7, c7, rfl, hS7, hN7, hst⟩ := RetA.flat hR
  clear hR
  clear dXa eXa qXa dXb eXb qXb dXd eXd qXd dX1 eX1 qX1 dX2 eX2 qX2
  obtain ⟨X3, hst⟩ := after1 hst
  replace Xa := Bx.step Xa hst
  replace Xb := Bx.step Xb hst
  replace Xd := Bx.step Xd hst
  replace X1 := Bx.step X1 hst
  replace X2 := Bx.step X2 hst
  replace Sa := Lib.hid (Sa.out.step hst)
  replace Sb := Lib.hid (Sb.out.step hst)
  replace Sd := Lib.hid (Sd.out.step hst)
  replace S1 := Lib.hid (S1.out.step hst)
  replace S2 := Lib.hid (S2.out.step hst)
  replace S3 := Lib.hid (S3.out.step hst)
  replace b : Below w.heap.size w w7 := bst b hst
  clear hst
  have S4 := Lib.hid hS7
  have NS4 := Lib.hid hN7
  clear hS7 hN7
  have dXa : ∀ i, w7.cell? ⟨w.heap.size, i, none⟩ = _ := Bx.cell Xa
  have eXa : ∀ i, w7.frozen? ⟨w.heap.size, i, none⟩ = false := Bx.frozen Xa
  have qXa := Bx.lt Xa
  have dXb : ∀ i, w7.cell? ⟨w.heap.size + 1, i, none⟩ = _ := Bx.cell Xb
  have eXb : ∀ i, w7.frozen? ⟨w.heap.size + 1, i, none⟩ = false := Bx.frozen Xb
  have qXb := Bx.lt Xb
  have dXd : ∀ i, w7.cell? ⟨w.heap.size + 1 + 1, i, none⟩ = _ := Bx.cell Xd
  have eXd : ∀ i, w7.frozen? ⟨w.heap.size + 1 + 1, i, none⟩ = false := Bx.frozen Xd
  have qXd := Bx.lt Xd
  have dX1 : ∀ i, w7.cell? ⟨w4.heap.size, i, none⟩ = _ := Bx.cell X1
  have eX1 : ∀ i, w7.frozen? ⟨w4.heap.size, i, none⟩ = false := Bx.frozen X1
  have qX1 := Bx.lt X1
  have dX2 : ∀ i, w7.cell? ⟨w5.heap.size, i, none⟩ = _ := Bx.cell X2
  have eX2 : ∀ i, w7.frozen? ⟨w5.heap.size, i, none⟩ = false := Bx.frozen X2
  have qX2 := Bx.lt X2
  have dX3 : ∀ i, w7.cell? ⟨w6.heap.size, i, none⟩ = _ := Bx.cell X3
  have eX3 : ∀ i, w7.frozen? ⟨w6.heap.size, i, none⟩ = false := Bx.frozen X3
  have qX3 := Bx.lt X3
  go_wp2_with fail
  refine (alike_true _ _ _ _ _ _ _ _ xs3 _ _ _ _ (S3.out.step (below1 _ _ )) (S4.out.step (below1 _ _ ))).mono ?_
  rintro e w8 ⟨rfl, hst⟩
  clear dXa eXa qXa dXb eXb qXb dXd eXd qXd dX1 eX1 qX1 dX2 eX2 qX2 dX3 eX3 qX3
  obtain ⟨X4, hst⟩ := after1 hst
  replace Xa := Bx.step Xa hst
  replace Xb := Bx.step Xb hst
  replace Xd := Bx.step Xd hst
  replace X1 := Bx.step X1 hst
  replace X2 := Bx.step X2 hst
  replace X3 := Bx.step X3 hst
  replace Sa := Lib.hid (Sa.out.step hst)
  replace Sb := Lib.hid (Sb.out.step hst)
  replace Sd := Lib.hid (Sd.out.step hst)
  replace S1 := Lib.hid (S1.out.step hst)
  replace S2 := Lib.hid (S2.out.step hst)
  replace S3 := Lib.hid (S3.out.step hst)
  replace S4 := Lib.hid (S4.out.step hst)
  replace b : Below w.heap.size w w8 := bst b hst
  clear hst
  have dXa : ∀ i, w8.cell? ⟨w.heap.size, i, none⟩ = _ := Bx.cell Xa
  have eXa : ∀ i, w8.frozen? ⟨w.heap.size, i, none⟩ = false := Bx.frozen Xa
  have qXa := Bx.lt Xa
  have dXb : ∀ i, w8.cell? ⟨w.heap.size + 1, i, none⟩ = _ := Bx.cell Xb
  have eXb : ∀ i, w8.frozen? ⟨w.heap.size + 1, i, none⟩ = false := Bx.frozen Xb
  have qXb := Bx.lt Xb
  have dXd : ∀ i, w8.cell? ⟨w.heap.size + 1 + 1, i, none⟩ = _ := Bx.cell Xd
  have eXd : ∀ i, w8.frozen? ⟨w.heap.size + 1 + 1, i, none⟩ = false := Bx.frozen Xd
  have qXd := Bx.lt Xd
  have dX1 : ∀ i, w8.cell? ⟨w4.heap.size, i, none⟩ = _ := Bx.cell X1
  have eX1 : ∀ i, w8.frozen? ⟨w4.heap.size, i, none⟩ = false := Bx.frozen X1
  have qX1 := Bx.lt X1
  have dX2 : ∀ i, w8.cell? ⟨w5.heap.size, i, none⟩ = _ := Bx.cell X2
  have eX2 : ∀ i, w8.frozen? ⟨w5.heap.size, i, none⟩ = false := Bx.frozen X2
  have qX2 := Bx.lt X2
  have dX3 : ∀ i, w8.cell? ⟨w6.heap.size, i, none⟩ = _ := Bx.cell X3
  have eX3 : ∀ i, w8.frozen? ⟨w6.heap.size, i, none⟩ = false := Bx.frozen X3
  have qX3 := Bx.lt X3
  have dX4 : ∀ i, w8.cell? ⟨w7.heap.size, i, none⟩ = _ := Bx.cell X4
  have eX4 : ∀ i, w8.frozen? ⟨w7.heap.size, i, none⟩ = false := Bx.frozen X4
  have qX4 := Bx.lt X4
  go_wp2_with fail
  clear S2
  clear S3
  clear S4
  clear dX2 eX2 qX2
  clear X2
  clear dX3 eX3 qX3
  clear X3
  clear dX4 eX4 qX4
  clear X4
  clear Sd
  clear dXd eXd qXd
  clear Xd
  refine (mReverse_any _ _ _ _ _ _ _ xs1 _ _ S1.out H5.out).mono ?_
  intro e w9 hR
  obtain ⟨A9, n9, c9, rfl, hS9, hN9, hst⟩ := RetA.flat hR
  clear hR
  clear dXa eXa qXa dXb eXb qXb dX1 eX1 qX1
  replace Xa := Bx.step Xa hst
  replace Xb := Bx.step Xb hst
  replace X1 := Bx.step X1 hst
  replace Sa := Lib.hid (Sa.out.step hst)
  replace Sb := Lib.hid (Sb.out.step hst)
  replace S1 := Lib.hid (S1.out.step hst)
  replace b : Below w.heap.size w w9 := bst b hst
  clear hst
  have S5 := Lib.hid hS9
  have NS5 := Lib.hid hN9
  clear hS9 hN9
  have dXa : ∀ i, w9.cell? ⟨w.heap.size, i, none⟩ = _ := Bx.cell Xa
  have eXa : ∀ i, w9.frozen? ⟨w.heap.size, i, none⟩ = false := Bx.frozen Xa
  have qXa := Bx.lt Xa
  have dXb : ∀ i, w9.cell? ⟨w.heap.size + 1, i, none⟩ = _ := Bx.cell Xb
  have eXb : ∀ i, w9.frozen? ⟨w.heap.size + 1, i, none⟩ = false := Bx.frozen Xb
  have qXb := Bx.lt Xb
  have dX1 : ∀ i, w9.cell? ⟨w4.heap.size, i, none⟩ = _ := Bx.cell X1
  have eX1 : ∀ i, w9.frozen? ⟨w4.heap.size, i, none⟩ = false := Bx.frozen X1
  have qX1 := Bx.lt X1
  go_wp2_with fail
  refine (mReverse_any _ _ _ _ _ _ _ xsa _ _ (Sa.out.step (below1 _ _ )) H6.out).mono ?_
  intro e w10 hR
  obtain ⟨A10, n10, c10, rfl, hS10, hN10, hst⟩ := RetA.flat hR
  clear hR
  clear dXa eXa qXa dXb eXb qXb dX1 eX1 qX1
  obtain ⟨X5, hst⟩ := after1 hst
  replace Xa := Bx.step Xa hst
  replace Xb := Bx.step Xb hst
  replace X1 := Bx.step X1 hst
  replace Sa := Lib.hid (Sa.out.step hst)
  replace Sb := Lib.hid (Sb.out.step hst)
  replace S1 := Lib.hid (S1.out.step hst)
  replace S5 := Lib.hid (S5.out.step hst)
  replace b : Below w.heap.size w w10 := bst b hst
  clear hst
  have S6 := Lib.hid hS10
  have NS6 := Lib.hid hN10
  clear hS10 hN10
  have dXa : ∀ i, w10.cell? ⟨w.heap.size, i, none⟩ = _ := Bx.cell Xa
  have eXa : ∀ i, w10.frozen? ⟨w.heap.size, i, none⟩ = false := Bx.frozen Xa
  have qXa := Bx.lt Xa
  have dXb : ∀ i, w10.cell? ⟨w.heap.size + 1, i, none⟩ = _ := Bx.cell Xb
  have eXb : ∀ i, w10.frozen? ⟨w.heap.size + 1, i, none⟩ = false := Bx.frozen Xb
  have qXb := Bx.lt Xb
  have dX1 : ∀ i, w10.cell? ⟨w4.heap.size, i, none⟩ = _ := Bx.cell X1
  have eX1 : ∀ i, w10.frozen? ⟨w4.heap.size, i, none⟩ = false := Bx.frozen X1
  have qX1 := Bx.lt X1
  have dX5 : ∀ i, w10.cell? ⟨w9.heap.size, i, none⟩ = _ := Bx.cell X5
  have eX5 : ∀ i, w10.frozen? ⟨w9.heap.size, i, none⟩ = false := Bx.frozen X5
  have qX5 := Bx.lt X5
  go_wp2_with fail
  refine (mReverse_any _ _ _ _ _ _ _ xsb _ _ (Sb.out.step (below1 _ _ )) H7.out).mono ?_
  intro e w11 hR
  obtain ⟨A11, n11, c11, rfl, hS11, hN11, hst⟩ := RetA.flat hR
  clear hR
  clear dXa eXa qXa dXb eXb qXb dX1 eX1 qX1 dX5 eX5 qX5
  obtain ⟨X6, hst⟩ := after1 hst
  replace Xa := Bx.step Xa hst
  replace Xb := Bx.step Xb hst
  replace X1 := Bx.step X1 hst
  replace X5 := Bx.step X5 hst
  replace Sa := Lib.hid (Sa.out.step hst)
  replace Sb := Lib.hid (Sb.out.step hst)
  replace S1 := Lib.hid (S1.out.step hst)
  replace S5 := Lib.hid (S5.out.step hst)
  replace S6 := Lib.hid (S6.out.step hst)
  replace b : Below w.heap.size w w11 := bst b hst
  clear hst
  have S7 := Lib.hid hS11
  have NS7 := Lib.hid hN11
  clear hS11 hN11
  have dXa : ∀ i, w11.cell? ⟨w.heap.size, i, none⟩ = _ := Bx.cell Xa
  have eXa : ∀ i, w11.frozen? ⟨w.heap.size, i, none⟩ = false := Bx.frozen Xa
  have qXa := Bx.lt Xa
  have dXb : ∀ i, w11.cell? ⟨w.heap.size + 1, i, none⟩ = _ := Bx.cell Xb
  have eXb : ∀ i, w11.frozen? ⟨w.heap.size + 1, i, none⟩ = false := Bx.frozen Xb
  have qXb := Bx.lt Xb
  have dX1 : ∀ i, w11.cell? ⟨w4.heap.size, i, none⟩ = _ := Bx.cell X1
  have eX1 : ∀ i, w11.frozen? ⟨w4.heap.size, i, none⟩ = false := Bx.frozen X1
  have qX1 := Bx.lt X1
  have dX5 : ∀ i, w11.cell? ⟨w9.heap.size, i, none⟩ = _ := Bx.cell X5
  have eX5 : ∀ i, w11.frozen? ⟨w9.heap.size, i, none⟩ = false := Bx.frozen X5
  have qX5 := Bx.lt X5
  have dX6 : ∀ i, w11.cell? ⟨w10.heap.size, i, none⟩ = _ := Bx.cell X6
  have eX6 : ∀ i, w11.frozen? ⟨w10.heap.size, i, none⟩ = false := Bx.frozen X6
  have qX6 := Bx.lt X6
  go_wp2_with fail
  refine (mCat_any _ _ _ _ _ _ _ xs7 _ _ _ _ _ _ _ xs6 _ _ (S7.out.step (below1 _ _ )) (S6.out.step (below1 _ _ )) H8.out).mono ?_
  intro e w12 hR
  obtain ⟨A12, n12, c12, rfl, hS12, hN12, hst⟩ := RetA.flat hR
  clear hR
  clear dXa eXa qXa dXb eXb qXb dX1 eX1 qX1 dX5 eX5 qX5 dX6 eX6 qX6
  obtain ⟨X7, hst⟩ := after1 hst
  replace Xa := Bx.step Xa hst
  replace Xb := Bx.step Xb hst
  replace X1 := Bx.step X1 hst
  replace X5 := Bx.step X5 hst
  replace X6 := Bx.step X6 hst
  replace Sa := Lib.hid (Sa.out.step hst)
  replace Sb := Lib.hid (Sb.out.step hst)
  replace S1 := Lib.hid (S1.out.step hst)
  replace S5 := Lib.hid (S5.out.step hst)
  replace S6 := Lib.hid (S6.out.step hst)
  replace S7 := Lib.hid (S7.out.step hst)
  replace b : Below w.heap.size w w12 := bst b hst
  clear hst
  have S8 := Lib.hid hS12
  have NS8 := Lib.hid hN12
  clear hS12 hN12
  have dXa : ∀ i, w12.cell? ⟨w.heap.size, i, none⟩ = _ := Bx.cell Xa
  have eXa : ∀ i, w12.frozen? ⟨w.heap.size, i, none⟩ = false := Bx.frozen Xa
  have qXa := Bx.lt Xa
  have dXb : ∀ i, w12.cell? ⟨w.heap.size + 1, i, none⟩ = _ := Bx.cell Xb
  have eXb : ∀ i, w12.frozen? ⟨w.heap.size + 1, i, none⟩ = false := Bx.frozen Xb
  have qXb := Bx.lt Xb
  have dX1 : ∀ i, w12.cell? ⟨w4.heap.size, i, none⟩ = _ := Bx.cell X1
  have eX1 : ∀ i, w12.frozen? ⟨w4.heap.size, i, none⟩ = false := Bx.frozen X1
  have qX1 := Bx.lt X1
  have dX5 : ∀ i, w12.cell? ⟨w9.heap.size, i, none⟩ = _ := Bx.cell X5
  have eX5 : ∀ i, w12.frozen? ⟨w9.heap.size, i, none⟩ = false := Bx.frozen X5
  have qX5 := Bx.lt X5
  have dX6 : ∀ i, w12.cell? ⟨w10.heap.size, i, none⟩ = _ := Bx.cell X6
  have eX6 : ∀ i, w12.frozen? ⟨w10.heap.size, i, none⟩ = false := Bx.frozen X6
  have qX6 := Bx.lt X6
  have dX7 : ∀ i, w12.cell? ⟨w11.heap.size, i, none⟩ = _ := Bx.cell X7
  have eX7 : ∀ i, w12.frozen? ⟨w11.heap.size, i, none⟩ = false := Bx.frozen X7
  have qX7 := Bx.lt X7
  go_wp2_with fail
  refine (is_true _ _ _ _ _ _ _ xs5 _ _ _ _ (S8.out.step (below1 _ _ )) (S5.out.step (below1 _ _ ))).mono ?_
  rintro e w13 ⟨rfl, hst⟩
  clear dXa eXa qXa dXb eXb qXb dX1 eX1 qX1 dX5 eX5 qX5 dX6 eX6 qX6 dX7 eX7 qX7
  obtain ⟨X8, hst⟩ := after1 hst
  replace Xa := Bx.step Xa hst
  replace Xb := Bx.step Xb hst
  replace X1 := Bx.step X1 hst
  replace X5 := Bx.step X5 hst
  replace X6 := Bx.step X6 hst
  replace X7 := Bx.step X7 hst
  replace Sa := Lib.hid (Sa.out.step hst)
  replace Sb := Lib.hid (Sb.out.step hst)
  replace S1 := Lib.hid (S1.out.step hst)
  replace S5 := Lib.hid (S5.out.step hst)
  replace S6 := Lib.hid (S6.out.step hst)
  replace S7 := Lib.hid (S7.out.step hst)
  replace S8 := Lib.hid (S8.out.step hst)
  replace b : Below w.heap.size w w13 := bst b hst
  clear hst
  have dXa : ∀ i, w13.cell? ⟨w.heap.size, i, none⟩ = _ := Bx.cell Xa
  have eXa : ∀ i, w13.frozen? ⟨w.heap.size, i, none⟩ = false := Bx.frozen Xa
  have qXa := Bx.lt Xa
  have dXb : ∀ i, w13.cell? ⟨w.heap.size + 1, i, none⟩ = _ := Bx.cell Xb
  have eXb : ∀ i, w13.frozen? ⟨w.heap.size + 1, i, none⟩ = false := Bx.frozen Xb
  have qXb := Bx.lt Xb
  have dX1 : ∀ i, w13.cell? ⟨w4.heap.size, i, none⟩ = _ := Bx.cell X1
  have eX1 : ∀ i, w13.frozen? ⟨w4.heap.size, i, none⟩ = false := Bx.frozen X1
  have qX1 := Bx.lt X1
  have dX5 : ∀ i, w13.cell? ⟨w9.heap.size, i, none⟩ = _ := Bx.cell X5
  have eX5 : ∀ i, w13.frozen? ⟨w9.heap.size, i, none⟩ = false := Bx.frozen X5
  have qX5 := Bx.lt X5
  have dX6 : ∀ i, w13.cell? ⟨w10.heap.size, i, none⟩ = _ := Bx.cell X6
  have eX6 : ∀ i, w13.frozen? ⟨w10.heap.size, i, none⟩ = false := Bx.frozen X6
  have qX6 := Bx.lt X6
  have dX7 : ∀ i, w13.cell? ⟨w11.heap.size, i, none⟩ = _ := Bx.cell X7
  have eX7 : ∀ i, w13.frozen? ⟨w11.heap.size, i, none⟩ = false := Bx.frozen X7
  have qX7 := Bx.lt X7
  have dX8 : ∀ i, w13.cell? ⟨w12.heap.size, i, none⟩ = _ := Bx.cell X8
  have eX8 : ∀ i, w13.frozen? ⟨w12.heap.size, i, none⟩ = false := Bx.frozen X8
  have qX8 := Bx.lt X8
  go_wp2_with fail
  refine (awake_any _).mono ?_
  rintro e wz ⟨rfl, hbz⟩
  go_wp2
  go_ret
  exact ⟨rfl, bst b hbz⟩
end Go.Proofs.Ytoapgknkenlcgaa

/-
  The law MovesParts: its walk.
-/
import Derived.Test.YtoapgknkenlcgaaMjoin
namespace Go.Proofs.Ytoapgknkenlcgaa
open Go.RowKit

set_option maxHeartbeats 16000000 in
theorem part_fa (ka ra ua va : Int) (Aa : Option Addr) (na ca : Nat) (xsa : List Int) (kb rb ub vb : Int) (Ab : Option Addr) (nb cb : Nat) (xsb : List Int) (x : Int) (w : World) (hsa : Sl w Aa na ca xsa) (hsb : Sl w Ab nb cb xsb) (hfa : 405 < na) :
    Calls Try.prog 7 #[.agg #[.int .i64 ka, .int .i64 ra, .int .i64 ua, .int .i64 va, .slice Aa na ca], .agg #[.int .i64 kb, .int .i64 rb, .int .i64 ub, .int .i64 vb, .slice Ab nb cb], .int .i64 x] w fun e w' => e = .returned (.bool true) ∧ Below w.heap.size w w' := by
  have Sa := Lib.hid hsa
  have Sb := Lib.hid hsb
  clear hsa hsb
  go_enter Try.func7, Try.ntmps7
  go_wp2_with fail
  refine (far_any _ _ _ _ _ _ _ _).mono ?_
  rintro e w1 ⟨rfl, hst⟩
  obtain ⟨Xa, Xb, hst⟩ := after2 hst
  replace Sa := Lib.hid (Sa.out.step hst)
  replace Sb := Lib.hid (Sb.out.step hst)
  have b : Below w.heap.size w w1 := hst
  clear hst
  rw [decide_eq_true hfa]
  have dXa : ∀ i, w1.cell? ⟨w.heap.size, i, none⟩ = _ := Bx.cell Xa
  have eXa : ∀ i, w1.frozen? ⟨w.heap.size, i, none⟩ = false := Bx.frozen Xa
  have qXa := Bx.lt Xa
  have dXb : ∀ i, w1.cell? ⟨w.heap.size + 1, i, none⟩ = _ := Bx.cell Xb
  have eXb : ∀ i, w1.frozen? ⟨w.heap.size + 1, i, none⟩ = false := Bx.frozen Xb
  have qXb := Bx.lt Xb
  go_wp2_with fail
  refine (awake_any _).mono ?_
  rintro e wz ⟨rfl, hbz⟩
  go_wp2
  go_ret
  exact ⟨rfl, bst b hbz⟩
set_option maxHeartbeats 16000000 in
theorem part_fb (ka ra ua va : Int) (Aa : Option Addr) (na ca : Nat) (xsa : List Int) (kb rb ub vb : Int) (Ab : Option Addr) (nb cb : Nat) (xsb : List Int) (x : Int) (w : World) (hsa : Sl w Aa na ca xsa) (hsb : Sl w Ab nb cb xsb) (hfa : ¬ 405 < na) (hfb : 405 < nb) :
    Calls Try.prog 7 #[.agg #[.int .i64 ka, .int .i64 ra, .int .i64 ua, .int .i64 va, .slice Aa na ca], .agg #[.int .i64 kb, .int .i64 rb, .int .i64 ub, .int .i64 vb, .slice Ab nb cb], .int .i64 x] w fun e w' => e = .returned (.bool true) ∧ Below w.heap.size w w' := by
  have Sa := Lib.hid hsa
  have Sb := Lib.hid hsb
  clear hsa hsb
  go_enter Try.func7, Try.ntmps7
  go_wp2_with fail
  refine (far_any _ _ _ _ _ _ _ _).mono ?_
  rintro e w1 ⟨rfl, hst⟩
  obtain ⟨Xa, Xb, hst⟩ := after2 hst
  replace Sa := Lib.hid (Sa.out.step hst)
  replace Sb := Lib.hid (Sb.out.step hst)
  have b : Below w.heap.size w w1 := hst
  clear hst
  rw [decide_eq_false hfa]
  have dXa : ∀ i, w1.cell? ⟨w.heap.size, i, none⟩ = _ := Bx.cell Xa
  have eXa : ∀ i, w1.frozen? ⟨w.heap.size, i, none⟩ = false := Bx.frozen Xa
  have qXa := Bx.lt Xa
  have dXb : ∀ i, w1.cell? ⟨w.heap.size + 1, i, none⟩ = _ := Bx.cell Xb
  have eXb : ∀ i, w1.frozen? ⟨w.heap.size + 1, i, none⟩ = false := Bx.frozen Xb
  have qXb := Bx.lt Xb
  go_wp2_with fail
  refine (far_any _ _ _ _ _ _ _ _).mono ?_
  rintro e w2 ⟨rfl, hst⟩
  clear dXa eXa qXa dXb eXb qXb
  replace Xa := Bx.step Xa hst
  replace Xb := Bx.step Xb hst
  replace Sa := Lib.hid (Sa.out.step hst)
  replace Sb := Lib.hid (Sb.out.step hst)
  replace b : Below w.heap.size w w2 := bst b hst
  clear hst
  rw [decide_eq_true hfb]
  have dXa : ∀ i, w2.cell? ⟨w.heap.size, i, none⟩ = _ := Bx.cell Xa
  have eXa : ∀ i, w2.frozen? ⟨w.heap.size, i, none⟩ = false := Bx.frozen Xa
  have qXa := Bx.lt Xa
  have dXb : ∀ i, w2.cell? ⟨w.heap.size + 1, i, none⟩ = _ := Bx.cell Xb
  have eXb : ∀ i, w2.frozen? ⟨w.heap.size + 1, i, none⟩ = false := Bx.frozen Xb
  have qXb := Bx.lt Xb
  go_wp2_with fail
  refine (awake_any _).mono ?_
  rintro e wz ⟨rfl, hbz⟩
  go_wp2
  go_ret
  exact ⟨rfl, bst b hbz⟩
set_option maxHeartbeats 16000000 in
theorem part_bad (ka ra ua va : Int) (Aa : Option Addr) (na ca : Nat) (xsa : List Int) (kb rb ub vb : Int) (Ab : Option Addr) (nb cb : Nat) (xsb : List Int) (x : Int) (w : World) (hsa : Sl w Aa na ca xsa) (hsb : Sl w Ab nb cb xsb) (hfa : ¬ 405 < na) (hfb : ¬ 405 < nb) (ec : Int) (hC : achk ka ra ua va xsa = ec) (he : (ec != 0) = true ∨ ((ec != 0) = false ∧ (ra != 1) = true)) :
    Calls Try.prog 7 #[.agg #[.int .i64 ka, .int .i64 ra, .int .i64 ua, .int .i64 va, .slice Aa na ca], .agg #[.int .i64 kb, .int .i64 rb, .int .i64 ub, .int .i64 vb, .slice Ab nb cb], .int .i64 x] w fun e w' => e = .returned (.bool true) ∧ Below w.heap.size w w' := by
  have Sa := Lib.hid hsa
  have Sb := Lib.hid hsb
  clear hsa hsb
  have HC := Lib.hid hC
  clear hC
  go_enter Try.func7, Try.ntmps7
  go_wp2_with fail
  refine (far_any _ _ _ _ _ _ _ _).mono ?_
  rintro e w1 ⟨rfl, hst⟩
  obtain ⟨Xa, Xb, hst⟩ := after2 hst
  replace Sa := Lib.hid (Sa.out.step hst)
  replace Sb := Lib.hid (Sb.out.step hst)
  have b : Below w.heap.size w w1 := hst
  clear hst
  rw [decide_eq_false hfa]
  have dXa : ∀ i, w1.cell? ⟨w.heap.size, i, none⟩ = _ := Bx.cell Xa
  have eXa : ∀ i, w1.frozen? ⟨w.heap.size, i, none⟩ = false := Bx.frozen Xa
  have qXa := Bx.lt Xa
  have dXb : ∀ i, w1.cell? ⟨w.heap.size + 1, i, none⟩ = _ := Bx.cell Xb
  have eXb : ∀ i, w1.frozen? ⟨w.heap.size + 1, i, none⟩ = false := Bx.frozen Xb
  have qXb := Bx.lt Xb
  go_wp2_with fail
  refine (far_any _ _ _ _ _ _ _ _).mono ?_
  rintro e w2 ⟨rfl, hst⟩
  clear dXa eXa qXa dXb eXb qXb
  replace Xa := Bx.step Xa hst
  replace Xb := Bx.step Xb hst
  replace Sa := Lib.hid (Sa.out.step hst)
  replace Sb := Lib.hid (Sb.out.step hst)
  replace b : Below w.heap.size w w2 := bst b hst
  clear hst
  rw [decide_eq_false hfb]
  have dXa : ∀ i, w2.cell? ⟨w.heap.size, i, none⟩ = _ := Bx.cell Xa
  have eXa : ∀ i, w2.frozen? ⟨w.heap.size, i, none⟩ = false := Bx.frozen Xa
  have qXa := Bx.lt Xa
  have dXb : ∀ i, w2.cell? ⟨w.heap.size + 1, i, none⟩ = _ := Bx.cell Xb
  have eXb : ∀ i, w2.frozen? ⟨w.heap.size + 1, i, none⟩ = false := Bx.frozen Xb
  have qXb := Bx.lt Xb
  go_wp2_with fail
  refine (racheck_any _ _ _ _ _ _ _ xsa ec _ Sa.out HC.out).mono ?_
  rintro e w3 ⟨rfl, hst⟩
  clear dXa eXa qXa dXb eXb qXb
  replace Xa := Bx.step Xa hst
  replace Xb := Bx.step Xb hst
  replace Sa := Lib.hid (Sa.out.step hst)
  replace Sb := Lib.hid (Sb.out.step hst)
  replace b : Below w.heap.size w w3 := bst b hst
  clear hst
  have dXa : ∀ i, w3.cell? ⟨w.heap.size, i, none⟩ = _ := Bx.cell Xa
  have eXa : ∀ i, w3.frozen? ⟨w.heap.size, i, none⟩ = false := Bx.frozen Xa
  have qXa := Bx.lt Xa
  have dXb : ∀ i, w3.cell? ⟨w.heap.size + 1, i, none⟩ = _ := Bx.cell Xb
  have eXb : ∀ i, w3.frozen? ⟨w.heap.size + 1, i, none⟩ = false := Bx.frozen Xb
  have qXb := Bx.lt Xb
  rcases he with he | ⟨he, he2⟩
  · go_wp2_with fail
    refine (awake_any _).mono ?_
    rintro e wz ⟨rfl, hbz⟩
    go_wp2
    go_ret
    exact ⟨rfl, bst b hbz⟩
  · go_wp2_with fail
    refine (awake_any _).mono ?_
    rintro e wz ⟨rfl, hbz⟩
    go_wp2
    go_ret
    exact ⟨rfl, bst b hbz⟩
set_option maxHeartbeats 16000000 in
theorem part_stay_good (ka ra ua va : Int) (Aa : Option Addr) (na ca : Nat) (xsa : List Int) (kb rb ub vb : Int) (Ab : Option Addr) (nb cb : Nat) (xsb : List Int) (x : Int) (w : World) (hsa : Sl w Aa na ca xsa) (hsb : Sl w Ab nb cb xsb) (hfa : ¬ 405 < na) (hfb : ¬ 405 < nb) (hC : achk ka ra ua va xsa = 0) (hra : (ra != 1) = false) (hX : ∀ y ∈ [x], -9223372036854775808 ≤ y ∧ y ≤ 9223372036854775807) (hx : ¬ x < 0) (k1 r1 u1 v1 : Int) (xs1 : List Int) (k2 r2 u2 v2 : Int) (xs2 : List Int) (k4 r4 u4 v4 : Int) (xs4 : List Int)
    (h1 : sTake ⟨1, 0, 0, 0, [x]⟩ ⟨ka, ra, ua, va, xsa⟩ = (⟨k1, r1, u1, v1, xs1⟩, 0)) (h2 : sDrop ⟨1, 0, 0, 0, [x]⟩ ⟨ka, ra, ua, va, xsa⟩ = (⟨k2, r2, u2, v2, xs2⟩, 0)) (h3 : sCat ⟨k1, r1, u1, v1, xs1⟩ ⟨k2, r2, u2, v2, xs2⟩ = (⟨ka, ra, ua, va, xsa⟩, 0)) (h4 : sCat ⟨ka, ra, ua, va, xsa⟩ ⟨kb, rb, ub, vb, xsb⟩ = (⟨k4, r4, u4, v4, xs4⟩, 0)) (h5 : sTake ⟨1, 0, 0, 0, [(na : Int)]⟩ ⟨k4, r4, u4, v4, xs4⟩ = (⟨ka, ra, ua, va, xsa⟩, 0)) (h6 : sDrop ⟨1, 0, 0, 0, [(na : Int)]⟩ ⟨k4, r4, u4, v4, xs4⟩ = (⟨kb, rb, ub, vb, xsb⟩, 0)) :
    Calls Try.prog 7 #[.agg #[.int .i64 ka, .int .i64 ra, .int .i64 ua, .int .i64 va, .slice Aa na ca], .agg #[.int .i64 kb, .int .i64 rb, .int .i64 ub, .int .i64 vb, .slice Ab nb cb], .int .i64 x] w fun e w' => e = .returned (.bool true) ∧ Below w.heap.size w w' := by
  have Sa := Lib.hid hsa
  have Sb := Lib.hid hsb
  clear hsa hsb
  have HC := Lib.hid hC
  have HX := Lib.hid hX
  have H1 := Lib.hid h1
  have H2 := Lib.hid h2
  have H3 := Lib.hid h3
  have H4 := Lib.hid h4
  have H5 := Lib.hid h5
  have H6 := Lib.hid h6
  clear hC hX h1 h2 h3 h4 h5 h6
  go_enter Try.func7, Try.ntmps7
  go_wp2_with fail
  have HL := Lib.hid (show ∀ y ∈ [(na : Int)], -9223372036854775808 ≤ y ∧ y ≤ 9223372036854775807 from fun y hy => by rw [List.mem_singleton] at hy; omega)
  refine (far_any _ _ _ _ _ _ _ _).mono ?_
  rintro e w1 ⟨rfl, hst⟩
  obtain ⟨Xa, Xb, hst⟩ := after2 hst
  replace Sa := Lib.hid (Sa.out.step hst)
  replace Sb := Lib.hid (Sb.out.step hst)
  have b : Below w.heap.size w w1 := hst
  clear hst
  rw [decide_eq_false hfa]
  have dXa : ∀ i, w1.cell? ⟨w.heap.size, i, none⟩ = _ := Bx.cell Xa
  have eXa : ∀ i, w1.frozen? ⟨w.heap.size, i, none⟩ = false := Bx.frozen Xa
  have qXa := Bx.lt Xa
  have dXb : ∀ i, w1.cell? ⟨w.heap.size + 1, i, none⟩ = _ := Bx.cell Xb
  have eXb : ∀ i, w1.frozen? ⟨w.heap.size + 1, i, none⟩ = false := Bx.frozen Xb
  have qXb := Bx.lt Xb
  go_wp2_with fail
  refine (far_any _ _ _ _ _ _ _ _).mono ?_
  rintro e w2 ⟨rfl, hst⟩
  clear dXa eXa qXa dXb eXb qXb
  replace Xa := Bx.step Xa hst
  replace Xb := Bx.step Xb hst
  replace Sa := Lib.hid (Sa.out.step hst)
  replace Sb := Lib.hid (Sb.out.step hst)
  replace b : Below w.heap.size w w2 := bst b hst
  clear hst
  rw [decide_eq_false hfb]
  have dXa : ∀ i, w2.cell? ⟨w.heap.size, i, none⟩ = _ := Bx.cell Xa
  have eXa : ∀ i, w2.frozen? ⟨w.heap.size, i, none⟩ = false := Bx.frozen Xa
  have qXa := Bx.lt Xa
  have dXb : ∀ i, w2.cell? ⟨w.heap.size + 1, i, none⟩ = _ := Bx.cell Xb
  have eXb : ∀ i, w2.frozen? ⟨w.heap.size + 1, i, none⟩ = false := Bx.frozen Xb
  have qXb := Bx.lt Xb
  go_wp2_with fail
  refine (racheck_any _ _ _ _ _ _ _ xsa 0 _ Sa.out HC.out).mono ?_
  rintro e w3 ⟨rfl, hst⟩
  clear dXa eXa qXa dXb eXb qXb
  replace Xa := Bx.step Xa hst
  replace Xb := Bx.step Xb hst
  replace Sa := Lib.hid (Sa.out.step hst)
  replace Sb := Lib.hid (Sb.out.step hst)
  replace b : Below w.heap.size w w3 := bst b hst
  clear hst
  have dXa : ∀ i, w3.cell? ⟨w.heap.size, i, none⟩ = _ := Bx.cell Xa
  have eXa : ∀ i, w3.frozen? ⟨w.heap.size, i, none⟩ = false := Bx.frozen Xa
  have qXa := Bx.lt Xa
  have dXb : ∀ i, w3.cell? ⟨w.heap.size + 1, i, none⟩ = _ := Bx.cell Xb
  have eXb : ∀ i, w3.frozen? ⟨w.heap.size + 1, i, none⟩ = false := Bx.frozen Xb
  have qXb := Bx.lt Xb
  go_wp2_with fail
  have hlt := Bx.lt Xa
  go_cut [7, 8] from 37 to 43 (fun p e wx => ∃ (B : Nat) (A : Option Addr) (n c : Nat), p = .pointer (some ⟨B, 0, none⟩) ∧ e = .int .i64 0 ∧ Below w3.heap.size w3 wx ∧ Hid (Bx wx B #[.int .i64 k1, .int .i64 r1, .int .i64 u1, .int .i64 v1, .slice A n c] 25) ∧ Hid (Sl wx A n c xs1) ∧ w3.heap.size ≤ B ∧ Hid (New w3 A) ∧ Hid (0 < n → ∀ b o, A = some ⟨b, o, none⟩ → b ≠ B))
  case first =>
    have hS : ∀ u, Below w3.heap.size w3 u → ∀ i, u.cell? ⟨w.heap.size, i, none⟩ = #[.int .i64 ka, .int .i64 ra, .int .i64 ua, .int .i64 va, .slice Aa na ca][i]? := fun u h => Bx.cell (Bx.step Xa h)
    have P0 : Below w3.heap.size w3 w3.drew := bdr (Below.refl _ _)
    have P1 : Below w3.heap.size w3 (w3.alloc (.cells #[.int .i64 0, .int .i64 0, .int .i64 0, .int .i64 0, .slice none 0 0] 25)).drew := bdr (bal (Below.refl _ _) _)
    have N1 : Bx (w3.alloc (.cells #[.int .i64 0, .int .i64 0, .int .i64 0, .int .i64 0, .slice none 0 0] 25)).drew w3.heap.size #[.int .i64 0, .int .i64 0, .int .i64 0, .int .i64 0, .slice none 0 0] 25 := Bx.new w3 _ _
    have ne5 : w.heap.size ≠ w3.heap.size := by omega
    go_region_held3 (fun w' => ∀ i, w'.cell? ⟨w.heap.size, i, none⟩ = #[.int .i64 ka, .int .i64 ra, .int .i64 ua, .int .i64 va, .slice Aa na ca][i]?)
      (with_reducible first | exact hS _ P0 | exact hS _ P1 | exact hS _ P6 | exact hS _ P7 | exact hS _ (bst P6 P8) | exact hS _ (bal (bst P6 P8) _) | exact hS _ (below_set5' (bst P6 P8) (Nat.le_refl _) _ _ _ _ _) | exact hS _ (below_set5' (bst P6 P8) zz6 _ _ _ _ _))
      (first
        | (go_at_call 30; (with_reducible refine (int_any x _).mono ?_); rintro e u6 ⟨⟨Ai, ni, ci, rfl, hS6, hN6⟩, hb6⟩; have P6 : Below w3.heap.size w3 u6 := (by with_reducible first | exact bst P0 hb6 | exact bst P1 hb6); have P7 : Below w3.heap.size w3 (u6.alloc (.cells #[.int .i64 0, .int .i64 0, .int .i64 0, .int .i64 0, .slice none 0 0] 25)) := bal P6 _; have zz6 := P6.size; have ne6 : w.heap.size ≠ u6.heap.size := (by omega); have Q1 := Lib.hid (Sa.out.step P6); have Q6 := Lib.hid hS6; clear hS6 hN6; have P9 : Below u6.heap.size u6 (u6.alloc (.cells #[.int .i64 0, .int .i64 0, .int .i64 0, .int .i64 0, .slice none 0 0] 25)) := below1 _ _; have N2 : Bx (u6.alloc (.cells #[.int .i64 0, .int .i64 0, .int .i64 0, .int .i64 0, .slice none 0 0] 25)) u6.heap.size #[.int .i64 0, .int .i64 0, .int .i64 0, .int .i64 0, .slice none 0 0] 25 := Bx.new u6 _ _; (try (have M1 : Bx u6 (w3.heap.size) #[.int .i64 0, .int .i64 0, .int .i64 0, .int .i64 0, .slice none 0 0] 25 := (by with_reducible exact Bx.step N1 hb6))))
        | (go_at_call 13; (with_reducible first | refine (mTake_any _ _ _ _ _ _ _ [x] _ _ _ _ _ _ _ xsa (⟨k1, r1, u1, v1, xs1⟩, 0) u6 Q6.out Q1.out HX.out H1.out).mono ?_ | refine (mTake_any _ _ _ _ _ _ _ [x] _ _ _ _ _ _ _ xsa (⟨k1, r1, u1, v1, xs1⟩, 0) _ (Q6.out.step P9) (Q1.out.step P9) HX.out H1.out).mono ?_); intro e u7 hR; obtain ⟨Ar, nr, cr, rfl, hS7, hN7, hb7⟩ := RetA.flat hR; have P8 : Below u6.heap.size u6 u7 := (by with_reducible first | exact hb7 | exact bst P9 hb7); have zz7 := P8.size; (first | (have N8 : Bx u7 (w3.heap.size) #[.int .i64 0, .int .i64 0, .int .i64 0, .int .i64 0, .slice none 0 0] 25 := (by with_reducible exact Bx.step M1 hb7); have gB : ∀ i, u7.cell? ⟨w3.heap.size, i, none⟩ = _ := Bx.cell N8; have kB : ∀ i, u7.frozen? ⟨w3.heap.size, i, none⟩ = false := Bx.frozen N8) | (have N8 : Bx u7 (u6.heap.size) #[.int .i64 0, .int .i64 0, .int .i64 0, .int .i64 0, .slice none 0 0] 25 := (by with_reducible exact Bx.step N2 hb7); have gB : ∀ i, u7.cell? ⟨u6.heap.size, i, none⟩ = _ := Bx.cell N8; have kB : ∀ i, u7.frozen? ⟨u6.heap.size, i, none⟩ = false := Bx.frozen N8) | skip)))
    all_goals go_wp2_with fail
    all_goals go_meet
    · exact ⟨u7.heap.size, Ar, nr, cr, rfl, rfl, bst P6 (bst P8 (below1 _ _)), Lib.hid (Bx.new u7 _ _), Lib.hid (hS7.step (below1 _ _)), Nat.le_trans zz6 zz7, Lib.hid (hN7.mono zz6), Lib.hid (hS7.ne_lo (Nat.le_refl _))⟩
    · exact ⟨u6.heap.size, Ar, nr, cr, rfl, rfl, below_set5' (bst P6 P8) zz6 _ _ _ _ _, Lib.hid (Bx.set5 N8 _ _ _ _ _), Lib.hid (hS7.past5 _ _ _ _ _ fun b o e => by have := hN7 b o none e; rw [World.size_alloc] at this; omega), zz6, Lib.hid (hN7.mono (by rw [World.size_alloc]; omega)), Lib.hid (fun _ b o e => by have := hN7 b o none e; rw [World.size_alloc] at this; omega)⟩
    · exact ⟨w3.heap.size, Ar, nr, cr, rfl, rfl, below_set5' (bst P6 P8) (Nat.le_refl _) _ _ _ _ _, Lib.hid (Bx.set5 N8 _ _ _ _ _), Lib.hid (hS7.past5 _ _ _ _ _ fun b o e => by have := hN7 b o none e; have := M1.lt; omega), Nat.le_refl _, Lib.hid (hN7.mono zz6), Lib.hid (fun _ b o e => by have := hN7 b o none e; have := M1.lt; omega)⟩
  case rest =>
  obtain ⟨B4, A4, n4, c4, rfl, rfl, hst, HX, HS_, hB4, NS1, ne_S1_X1⟩ := hcut
  obtain ⟨w4, hw4⟩ : ∃ w4, wc = w4 := ⟨_, rfl⟩
  rw [hw4] at hst HX HS_
  rw [hw4]
  clear hlt hw4
  clear dXa eXa qXa dXb eXb qXb
  have hlo4 : ∀ B, B < w3.heap.size → B ≠ B4 := fun B h => by omega
  have nx_Xa_X1 := hlo4 _ (Bx.lt Xa)
  have nx_X1_Xa := Ne.symm nx_Xa_X1
  have nx_Xb_X1 := hlo4 _ (Bx.lt Xb)
  have nx_X1_Xb := Ne.symm nx_Xb_X1
  have ne_Sa_X1 := Lib.hid (Sa.out.ne_lo hB4)
  have ne_Sb_X1 := Lib.hid (Sb.out.ne_lo hB4)
  have ne_S1_Xa := Lib.hid (New.ne_hi (n := n4) NS1.out (Bx.lt Xa))
  have ne_S1_Xb := Lib.hid (New.ne_hi (n := n4) NS1.out (Bx.lt Xb))
  replace Xa := Bx.step Xa hst
  replace Xb := Bx.step Xb hst
  replace Sa := Lib.hid (Sa.out.step hst)
  replace Sb := Lib.hid (Sb.out.step hst)
  have zX1 : w.heap.size ≤ B4 := Nat.le_trans b.size hB4
  replace b := bst b hst
  have X1 := HX.out
  have S1 := HS_
  clear hst HX HS_
  have dXa : ∀ i, w4.cell? ⟨w.heap.size, i, none⟩ = _ := Bx.cell Xa
  have eXa : ∀ i, w4.frozen? ⟨w.heap.size, i, none⟩ = false := Bx.frozen Xa
  have qXa := Bx.lt Xa
  have dXb : ∀ i, w4.cell? ⟨w.heap.size + 1, i, none⟩ = _ := Bx.cell Xb
  have eXb : ∀ i, w4.frozen? ⟨w.heap.size + 1, i, none⟩ = false := Bx.frozen Xb
  have qXb := Bx.lt Xb
  have dX1 : ∀ i, w4.cell? ⟨B4, i, none⟩ = _ := Bx.cell X1
  have eX1 : ∀ i, w4.frozen? ⟨B4, i, none⟩ = false := Bx.frozen X1
  have qX1 := Bx.lt X1
  go_wp2_with fail
  have hlt := Bx.lt Xa
  go_cut [9, 10] from 44 to 50 (fun p e wx => ∃ (B : Nat) (A : Option Addr) (n c : Nat), p = .pointer (some ⟨B, 0, none⟩) ∧ e = .int .i64 0 ∧ Below w4.heap.size w4 wx ∧ Hid (Bx wx B #[.int .i64 k2, .int .i64 r2, .int .i64 u2, .int .i64 v2, .slice A n c] 25) ∧ Hid (Sl wx A n c xs2) ∧ w4.heap.size ≤ B ∧ Hid (New w4 A) ∧ Hid (0 < n → ∀ b o, A = some ⟨b, o, none⟩ → b ≠ B))
  case first =>
    have hS : ∀ u, Below w4.heap.size w4 u → ∀ i, u.cell? ⟨w.heap.size, i, none⟩ = #[.int .i64 ka, .int .i64 ra, .int .i64 ua, .int .i64 va, .slice Aa na ca][i]? := fun u h => Bx.cell (Bx.step Xa h)
    have P0 : Below w4.heap.size w4 w4.drew := bdr (Below.refl _ _)
    have P1 : Below w4.heap.size w4 (w4.alloc (.cells #[.int .i64 0, .int .i64 0, .int .i64 0, .int .i64 0, .slice none 0 0] 25)).drew := bdr (bal (Below.refl _ _) _)
    have N1 : Bx (w4.alloc (.cells #[.int .i64 0, .int .i64 0, .int .i64 0, .int .i64 0, .slice none 0 0] 25)).drew w4.heap.size #[.int .i64 0, .int .i64 0, .int .i64 0, .int .i64 0, .slice none 0 0] 25 := Bx.new w4 _ _
    have ne5 : w.heap.size ≠ w4.heap.size := by omega
    go_region_held3 (fun w' => ∀ i, w'.cell? ⟨w.heap.size, i, none⟩ = #[.int .i64 ka, .int .i64 ra, .int .i64 ua, .int .i64 va, .slice Aa na ca][i]?)
      (with_reducible first | exact hS _ P0 | exact hS _ P1 | exact hS _ P6 | exact hS _ P7 | exact hS _ (bst P6 P8) | exact hS _ (bal (bst P6 P8) _) | exact hS _ (below_set5' (bst P6 P8) (Nat.le_refl _) _ _ _ _ _) | exact hS _ (below_set5' (bst P6 P8) zz6 _ _ _ _ _))
      (first
        | (go_at_call 30; (with_reducible refine (int_any x _).mono ?_); rintro e u6 ⟨⟨Ai, ni, ci, rfl, hS6, hN6⟩, hb6⟩; have P6 : Below w4.heap.size w4 u6 := (by with_reducible first | exact bst P0 hb6 | exact bst P1 hb6); have P7 : Below w4.heap.size w4 (u6.alloc (.cells #[.int .i64 0, .int .i64 0, .int .i64 0, .int .i64 0, .slice none 0 0] 25)) := bal P6 _; have zz6 := P6.size; have ne6 : w.heap.size ≠ u6.heap.size := (by omega); have Q1 := Lib.hid (Sa.out.step P6); have Q6 := Lib.hid hS6; clear hS6 hN6; have P9 : Below u6.heap.size u6 (u6.alloc (.cells #[.int .i64 0, .int .i64 0, .int .i64 0, .int .i64 0, .slice none 0 0] 25)) := below1 _ _; have N2 : Bx (u6.alloc (.cells #[.int .i64 0, .int .i64 0, .int .i64 0, .int .i64 0, .slice none 0 0] 25)) u6.heap.size #[.int .i64 0, .int .i64 0, .int .i64 0, .int .i64 0, .slice none 0 0] 25 := Bx.new u6 _ _; (try (have M1 : Bx u6 (w4.heap.size) #[.int .i64 0, .int .i64 0, .int .i64 0, .int .i64 0, .slice none 0 0] 25 := (by with_reducible exact Bx.step N1 hb6))))
        | (go_at_call 15; (with_reducible first | refine (mDrop_any _ _ _ _ _ _ _ [x] _ _ _ _ _ _ _ xsa (⟨k2, r2, u2, v2, xs2⟩, 0) u6 Q6.out Q1.out HX.out H2.out).mono ?_ | refine (mDrop_any _ _ _ _ _ _ _ [x] _ _ _ _ _ _ _ xsa (⟨k2, r2, u2, v2, xs2⟩, 0) _ (Q6.out.step P9) (Q1.out.step P9) HX.out H2.out).mono ?_); intro e u7 hR; obtain ⟨Ar, nr, cr, rfl, hS7, hN7, hb7⟩ := RetA.flat hR; have P8 : Below u6.heap.size u6 u7 := (by with_reducible first | exact hb7 | exact bst P9 hb7); have zz7 := P8.size; (first | (have N8 : Bx u7 (w4.heap.size) #[.int .i64 0, .int .i64 0, .int .i64 0, .int .i64 0, .slice none 0 0] 25 := (by with_reducible exact Bx.step M1 hb7); have gB : ∀ i, u7.cell? ⟨w4.heap.size, i, none⟩ = _ := Bx.cell N8; have kB : ∀ i, u7.frozen? ⟨w4.heap.size, i, none⟩ = false := Bx.frozen N8) | (have N8 : Bx u7 (u6.heap.size) #[.int .i64 0, .int .i64 0, .int .i64 0, .int .i64 0, .slice none 0 0] 25 := (by with_reducible exact Bx.step N2 hb7); have gB : ∀ i, u7.cell? ⟨u6.heap.size, i, none⟩ = _ := Bx.cell N8; have kB : ∀ i, u7.frozen? ⟨u6.heap.size, i, none⟩ = false := Bx.frozen N8) | skip)))
    all_goals go_wp2_with fail
    all_goals go_meet
    · exact ⟨u7.heap.size, Ar, nr, cr, rfl, rfl, bst P6 (bst P8 (below1 _ _)), Lib.hid (Bx.new u7 _ _), Lib.hid (hS7.step (below1 _ _)), Nat.le_trans zz6 zz7, Lib.hid (hN7.mono zz6), Lib.hid (hS7.ne_lo (Nat.le_refl _))⟩
    · exact ⟨u6.heap.size, Ar, nr, cr, rfl, rfl, below_set5' (bst P6 P8) zz6 _ _ _ _ _, Lib.hid (Bx.set5 N8 _ _ _ _ _), Lib.hid (hS7.past5 _ _ _ _ _ fun b o e => by have := hN7 b o none e; rw [World.size_alloc] at this; omega), zz6, Lib.hid (hN7.mono (by rw [World.size_alloc]; omega)), Lib.hid (fun _ b o e => by have := hN7 b o none e; rw [World.size_alloc] at this; omega)⟩
    · exact ⟨w4.heap.size, Ar, nr, cr, rfl, rfl, below_set5' (bst P6 P8) (Nat.le_refl _) _ _ _ _ _, Lib.hid (Bx.set5 N8 _ _ _ _ _), Lib.hid (hS7.past5 _ _ _ _ _ fun b o e => by have := hN7 b o none e; have := M1.lt; omega), Nat.le_refl _, Lib.hid (hN7.mono zz6), Lib.hid (fun _ b o e => by have := hN7 b o none e; have := M1.lt; omega)⟩
  case rest =>
  obtain ⟨B5, A5, n5, c5, rfl, rfl, hst, HX, HS_, hB5, NS2, ne_S2_X2⟩ := hcut
  obtain ⟨w5, hw5⟩ : ∃ w5, wc = w5 := ⟨_, rfl⟩
  rw [hw5] at hst HX HS_
  rw [hw5]
  clear hlt hw5
  clear dXa eXa qXa dXb eXb qXb dX1 eX1 qX1
  have hlo5 : ∀ B, B < w4.heap.size → B ≠ B5 := fun B h => by omega
  have nx_Xa_X2 := hlo5 _ (Bx.lt Xa)
  have nx_X2_Xa := Ne.symm nx_Xa_X2
  have nx_Xb_X2 := hlo5 _ (Bx.lt Xb)
  have nx_X2_Xb := Ne.symm nx_Xb_X2
  have nx_X1_X2 := hlo5 _ (Bx.lt X1)
  have nx_X2_X1 := Ne.symm nx_X1_X2
  have ne_Sa_X2 := Lib.hid (Sa.out.ne_lo hB5)
  have ne_Sb_X2 := Lib.hid (Sb.out.ne_lo hB5)
  have ne_S1_X2 := Lib.hid (S1.out.ne_lo hB5)
  have ne_S2_Xa := Lib.hid (New.ne_hi (n := n5) NS2.out (Bx.lt Xa))
  have ne_S2_Xb := Lib.hid (New.ne_hi (n := n5) NS2.out (Bx.lt Xb))
  have ne_S2_X1 := Lib.hid (New.ne_hi (n := n5) NS2.out (Bx.lt X1))
  replace Xa := Bx.step Xa hst
  replace Xb := Bx.step Xb hst
  replace X1 := Bx.step X1 hst
  replace Sa := Lib.hid (Sa.out.step hst)
  replace Sb := Lib.hid (Sb.out.step hst)
  replace S1 := Lib.hid (S1.out.step hst)
  have zX2 : w.heap.size ≤ B5 := Nat.le_trans b.size hB5
  replace b := bst b hst
  have X2 := HX.out
  have S2 := HS_
  clear hst HX HS_
  have dXa : ∀ i, w5.cell? ⟨w.heap.size, i, none⟩ = _ := Bx.cell Xa
  have eXa : ∀ i, w5.frozen? ⟨w.heap.size, i, none⟩ = false := Bx.frozen Xa
  have qXa := Bx.lt Xa
  have dXb : ∀ i, w5.cell? ⟨w.heap.size + 1, i, none⟩ = _ := Bx.cell Xb
  have eXb : ∀ i, w5.frozen? ⟨w.heap.size + 1, i, none⟩ = false := Bx.frozen Xb
  have qXb := Bx.lt Xb
  have dX1 : ∀ i, w5.cell? ⟨B4, i, none⟩ = _ := Bx.cell X1
  have eX1 : ∀ i, w5.frozen? ⟨B4, i, none⟩ = false := Bx.frozen X1
  have qX1 := Bx.lt X1
  have dX2 : ∀ i, w5.cell? ⟨B5, i, none⟩ = _ := Bx.cell X2
  have eX2 : ∀ i, w5.frozen? ⟨B5, i, none⟩ = false := Bx.frozen X2
  have qX2 := Bx.lt X2
  go_wp2_with fail
  refine (mCat_any _ _ _ _ _ _ _ xs1 _ _ _ _ _ _ _ xs2 _ _ S1.out S2.out H3.out).mono ?_
  intro e w6 hR
  obtain ⟨A6, n6, c6, rfl, hS6, hN6, hst⟩ := RetA.flat hR
  clear hR
  clear dXa eXa qXa dXb eXb qXb dX1 eX1 qX1 dX2 eX2 qX2
  replace Xa := Bx.step Xa hst
  replace Xb := Bx.step Xb hst
  replace X1 := Bx.step X1 hst
  replace X2 := Bx.step X2 hst
  replace Sa := Lib.hid (Sa.out.step hst)
  replace Sb := Lib.hid (Sb.out.step hst)
  replace S1 := Lib.hid (S1.out.step hst)
  replace S2 := Lib.hid (S2.out.step hst)
  replace b : Below w.heap.size w w6 := bst b hst
  clear hst
  have S3 := Lib.hid hS6
  have NS3 := Lib.hid hN6
  clear hS6 hN6
  have dXa : ∀ i, w6.cell? ⟨w.heap.size, i, none⟩ = _ := Bx.cell Xa
  have eXa : ∀ i, w6.frozen? ⟨w.heap.size, i, none⟩ = false := Bx.frozen Xa
  have qXa := Bx.lt Xa
  have dXb : ∀ i, w6.cell? ⟨w.heap.size + 1, i, none⟩ = _ := Bx.cell Xb
  have eXb : ∀ i, w6.frozen? ⟨w.heap.size + 1, i, none⟩ = false := Bx.frozen Xb
  have qXb := Bx.lt Xb
  have dX1 : ∀ i, w6.cell? ⟨B4, i, none⟩ = _ := Bx.cell X1
  have eX1 : ∀ i, w6.frozen? ⟨B4, i, none⟩ = false := Bx.frozen X1
  have qX1 := Bx.lt X1
  have dX2 : ∀ i, w6.cell? ⟨B5, i, none⟩ = _ := Bx.cell X2
  have eX2 : ∀ i, w6.frozen? ⟨B5, i, none⟩ = false := Bx.frozen X2
  have qX2 := Bx.lt X2
  go_wp2_with fail
  refine (is_true _ _ _ _ _ _ _ xsa _ _ _ _ (S3.out.step (below1 _ _ )) (Sa.out.step (below1 _ _ ))).mono ?_
  rintro e w7 ⟨rfl, hst⟩
  clear dXa eXa qXa dXb eXb qXb dX1 eX1 qX1 dX2 eX2 qX2
  obtain ⟨X3, hst⟩ := after1 hst
  replace Xa := Bx.step Xa hst
  replace Xb := Bx.step Xb hst
  replace X1 := Bx.step X1 hst
  replace X2 := Bx.step X2 hst
  replace Sa := Lib.hid (Sa.out.step hst)
  replace Sb := Lib.hid (Sb.out.step hst)
  replace S1 := Lib.hid (S1.out.step hst)
  replace S2 := Lib.hid (S2.out.step hst)
  replace S3 := Lib.hid (S3.out.step hst)
  replace b : Below w.heap.size w w7 := bst b hst
  clear hst
  have dXa : ∀ i, w7.cell? ⟨w.heap.size, i, none⟩ = _ := Bx.cell Xa
  have eXa : ∀ i, w7.frozen? ⟨w.heap.size, i, none⟩ = false := Bx.frozen Xa
  have qXa := Bx.lt Xa
  have dXb : ∀ i, w7.cell? ⟨w.heap.size + 1, i, none⟩ = _ := Bx.cell Xb
  have eXb : ∀ i, w7.frozen? ⟨w.heap.size + 1, i, none⟩ = false := Bx.frozen Xb
  have qXb := Bx.lt Xb
  have dX1 : ∀ i, w7.cell? ⟨B4, i, none⟩ = _ := Bx.cell X1
  have eX1 : ∀ i, w7.frozen? ⟨B4, i, none⟩ = false := Bx.frozen X1
  have qX1 := Bx.lt X1
  have dX2 : ∀ i, w7.cell? ⟨B5, i, none⟩ = _ := Bx.cell X2
  have eX2 : ∀ i, w7.frozen? ⟨B5, i, none⟩ = false := Bx.frozen X2
  have qX2 := Bx.lt X2
  have dX3 : ∀ i, w7.cell? ⟨w6.heap.size, i, none⟩ = _ := Bx.cell X3
  have eX3 : ∀ i, w7.frozen? ⟨w6.heap.size, i, none⟩ = false := Bx.frozen X3
  have qX3 := Bx.lt X3
  go_wp2_with fail
  clear S1
  clear S2
  clear S3
  clear dX1 eX1 qX1
  clear X1
  clear dX2 eX2 qX2
  clear X2
  clear dX3 eX3 qX3
  clear X3
  refine (mCat_any _ _ _ _ _ _ _ xsa _ _ _ _ _ _ _ xsb _ _ Sa.out Sb.out H4.out).mono ?_
  intro e w8 hR
  obtain ⟨A8, n8, c8, rfl, hS8, hN8, hst⟩ := RetA.flat hR
  clear hR
  clear dXa eXa qXa dXb eXb qXb
  replace Xa := Bx.step Xa hst
  replace Xb := Bx.step Xb hst
  replace Sa := Lib.hid (Sa.out.step hst)
  replace Sb := Lib.hid (Sb.out.step hst)
  replace b : Below w.heap.size w w8 := bst b hst
  clear hst
  have S4 := Lib.hid hS8
  have NS4 := Lib.hid hN8
  clear hS8 hN8
  have dXa : ∀ i, w8.cell? ⟨w.heap.size, i, none⟩ = _ := Bx.cell Xa
  have eXa : ∀ i, w8.frozen? ⟨w.heap.size, i, none⟩ = false := Bx.frozen Xa
  have qXa := Bx.lt Xa
  have dXb : ∀ i, w8.cell? ⟨w.heap.size + 1, i, none⟩ = _ := Bx.cell Xb
  have eXb : ∀ i, w8.frozen? ⟨w.heap.size + 1, i, none⟩ = false := Bx.frozen Xb
  have qXb := Bx.lt Xb
  go_wp2_with fail
  refine (int_any (na : Int) _).mono ?_
  rintro e w9 ⟨⟨A9, n9, c9, rfl, hS9, hN9⟩, hst⟩
  clear dXa eXa qXa dXb eXb qXb
  obtain ⟨X4, hst⟩ := after1 hst
  replace Xa := Bx.step Xa hst
  replace Xb := Bx.step Xb hst
  replace Sa := Lib.hid (Sa.out.step hst)
  replace Sb := Lib.hid (Sb.out.step hst)
  replace S4 := Lib.hid (S4.out.step hst)
  replace b : Below w.heap.size w w9 := bst b hst
  clear hst
  have SL := Lib.hid hS9
  have NSL := Lib.hid hN9
  clear hS9 hN9
  have dXa : ∀ i, w9.cell? ⟨w.heap.size, i, none⟩ = _ := Bx.cell Xa
  have eXa : ∀ i, w9.frozen? ⟨w.heap.size, i, none⟩ = false := Bx.frozen Xa
  have qXa := Bx.lt Xa
  have dXb : ∀ i, w9.cell? ⟨w.heap.size + 1, i, none⟩ = _ := Bx.cell Xb
  have eXb : ∀ i, w9.frozen? ⟨w.heap.size + 1, i, none⟩ = false := Bx.frozen Xb
  have qXb := Bx.lt Xb
  have dX4 : ∀ i, w9.cell? ⟨w8.heap.size, i, none⟩ = _ := Bx.cell X4
  have eX4 : ∀ i, w9.frozen? ⟨w8.heap.size, i, none⟩ = false := Bx.frozen X4
  have qX4 := Bx.lt X4
  go_wp2_with fail
  refine (mTake_any _ _ _ _ _ _ _ [(na : Int)] _ _ _ _ _ _ _ xs4 _ _ (SL.out.step (below1 _ _ )) (S4.out.step (below1 _ _ )) HL.out H5.out).mono ?_
  intro e w10 hR
  obtain ⟨A10, n10, c10, rfl, hS10, hN10, hst⟩ := RetA.flat hR
  clear hR
  clear dXa eXa qXa dXb eXb qXb dX4 eX4 qX4
  obtain ⟨XL, hst⟩ := after1 hst
  replace Xa := Bx.step Xa hst
  replace Xb := Bx.step Xb hst
  replace X4 := Bx.step X4 hst
  replace Sa := Lib.hid (Sa.out.step hst)
  replace Sb := Lib.hid (Sb.out.step hst)
  replace S4 := Lib.hid (S4.out.step hst)
  replace SL := Lib.hid (SL.out.step hst)
  replace b : Below w.heap.size w w10 := bst b hst
  clear hst
  have S5 := Lib.hid hS10
  have NS5 := Lib.hid hN10
  clear hS10 hN10
  have dXa : ∀ i, w10.cell? ⟨w.heap.size, i, none⟩ = _ := Bx.cell Xa
  have eXa : ∀ i, w10.frozen? ⟨w.heap.size, i, none⟩ = false := Bx.frozen Xa
  have qXa := Bx.lt Xa
  have dXb : ∀ i, w10.cell? ⟨w.heap.size + 1, i, none⟩ = _ := Bx.cell Xb
  have eXb : ∀ i, w10.frozen? ⟨w.heap.size + 1, i, none⟩ = false := Bx.frozen Xb
  have qXb := Bx.lt Xb
  have dX4 : ∀ i, w10.cell? ⟨w8.heap.size, i, none⟩ = _ := Bx.cell X4
  have eX4 : ∀ i, w10.frozen? ⟨w8.heap.size, i, none⟩ = false := Bx.frozen X4
  have qX4 := Bx.lt X4
  have dXL : ∀ i, w10.cell? ⟨w9.heap.size, i, none⟩ = _ := Bx.cell XL
  have eXL : ∀ i, w10.frozen? ⟨w9.heap.size, i, none⟩ = false := Bx.frozen XL
  have qXL := Bx.lt XL
  go_wp2_with fail
  refine (mDrop_any _ _ _ _ _ _ _ [(na : Int)] _ _ _ _ _ _ _ xs4 _ _ (SL.out.step (below1 _ _ )) (S4.out.step (below1 _ _ )) HL.out H6.out).mono ?_
  intro e w11 hR
  obtain ⟨A11, n11, c11, rfl, hS11, hN11, hst⟩ := RetA.flat hR
  clear hR
  clear dXa eXa qXa dXb eXb qXb dX4 eX4 qX4 dXL eXL qXL
  obtain ⟨X5, hst⟩ := after1 hst
  replace Xa := Bx.step Xa hst
  replace Xb := Bx.step Xb hst
  replace X4 := Bx.step X4 hst
  replace XL := Bx.step XL hst
  replace Sa := Lib.hid (Sa.out.step hst)
  replace Sb := Lib.hid (Sb.out.step hst)
  replace S4 := Lib.hid (S4.out.step hst)
  replace SL := Lib.hid (SL.out.step hst)
  replace S5 := Lib.hid (S5.out.step hst)
  replace b : Below w.heap.size w w11 := bst b hst
  clear hst
  have S6 := Lib.hid hS11
  have NS6 := Lib.hid hN11
  clear hS11 hN11
  have dXa : ∀ i, w11.cell? ⟨w.heap.size, i, none⟩ = _ := Bx.cell Xa
  have eXa : ∀ i, w11.frozen? ⟨w.heap.size, i, none⟩ = false := Bx.frozen Xa
  have qXa := Bx.lt Xa
  have dXb : ∀ i, w11.cell? ⟨w.heap.size + 1, i, none⟩ = _ := Bx.cell Xb
  have eXb : ∀ i, w11.frozen? ⟨w.heap.size + 1, i, none⟩ = false := Bx.frozen Xb
  have qXb := Bx.lt Xb
  have dX4 : ∀ i, w11.cell? ⟨w8.heap.size, i, none⟩ = _ := Bx.cell X4
  have eX4 : ∀ i, w11.frozen? ⟨w8.heap.size, i, none⟩ = false := Bx.frozen X4
  have qX4 := Bx.lt X4
  have dXL : ∀ i, w11.cell? ⟨w9.heap.size, i, none⟩ = _ := Bx.cell XL
  have eXL : ∀ i, w11.frozen? ⟨w9.heap.size, i, none⟩ = false := Bx.frozen XL
  have qXL := Bx.lt XL
  have dX5 : ∀ i, w11.cell? ⟨w10.heap.size, i, none⟩ = _ := Bx.cell X5
  have eX5 : ∀ i, w11.frozen? ⟨w10.heap.size, i, none⟩ = false := Bx.frozen X5
  have qX5 := Bx.lt X5
  go_wp2_with fail
  refine (is_true _ _ _ _ _ _ _ xsa _ _ _ _ (S5.out.step (below1 _ _ )) (Sa.out.step (below1 _ _ ))).mono ?_
  rintro e w12 ⟨rfl, hst⟩
  clear dXa eXa qXa dXb eXb qXb dX4 eX4 qX4 dXL eXL qXL dX5 eX5 qX5
  obtain ⟨X6, hst⟩ := after1 hst
  replace Xa := Bx.step Xa hst
  replace Xb := Bx.step Xb hst
  replace X4 := Bx.step X4 hst
  replace XL := Bx.step XL hst
  replace X5 := Bx.step X5 hst
  replace Sa := Lib.hid (Sa.out.step hst)
  replace Sb := Lib.hid (Sb.out.step hst)
  replace S4 := Lib.hid (S4.out.step hst)
  replace SL := Lib.hid (SL.out.step hst)
  replace S5 := Lib.hid (S5.out.step hst)
  replace S6 := Lib.hid (S6.out.step hst)
  replace b : Below w.heap.size w w12 := bst b hst
  clear hst
  have dXa : ∀ i, w12.cell? ⟨w.heap.size, i, none⟩ = _ := Bx.cell Xa
  have eXa : ∀ i, w12.frozen? ⟨w.heap.size, i, none⟩ = false := Bx.frozen Xa
  have qXa := Bx.lt Xa
  have dXb : ∀ i, w12.cell? ⟨w.heap.size + 1, i, none⟩ = _ := Bx.cell Xb
  have eXb : ∀ i, w12.frozen? ⟨w.heap.size + 1, i, none⟩ = false := Bx.frozen Xb
  have qXb := Bx.lt Xb
  have dX4 : ∀ i, w12.cell? ⟨w8.heap.size, i, none⟩ = _ := Bx.cell X4
  have eX4 : ∀ i, w12.frozen? ⟨w8.heap.size, i, none⟩ = false := Bx.frozen X4
  have qX4 := Bx.lt X4
  have dXL : ∀ i, w12.cell? ⟨w9.heap.size, i, none⟩ = _ := Bx.cell XL
  have eXL : ∀ i, w12.frozen? ⟨w9.heap.size, i, none⟩ = false := Bx.frozen XL
  have qXL := Bx.lt XL
  have dX5 : ∀ i, w12.cell? ⟨w10.heap.size, i, none⟩ = _ := Bx.cell X5
  have eX5 : ∀ i, w12.frozen? ⟨w10.heap.size, i, none⟩ = false := Bx.frozen X5
  have qX5 := Bx.lt X5
  have dX6 : ∀ i, w12.cell? ⟨w11.heap.size, i, none⟩ = _ := Bx.cell X6
  have eX6 : ∀ i, w12.frozen? ⟨w11.heap.size, i, none⟩ = false := Bx.frozen X6
  have qX6 := Bx.lt X6
  go_wp2_with fail
  refine (is_true _ _ _ _ _ _ _ xsb _ _ _ _ S6.out Sb.out).mono ?_
  rintro e w13 ⟨rfl, hst⟩
  clear dXa eXa qXa dXb eXb qXb dX4 eX4 qX4 dXL eXL qXL dX5 eX5 qX5 dX6 eX6 qX6
  replace Xa := Bx.step Xa hst
  replace Xb := Bx.step Xb hst
  replace X4 := Bx.step X4 hst
  replace XL := Bx.step XL hst
  replace X5 := Bx.step X5 hst
  replace X6 := Bx.step X6 hst
  replace Sa := Lib.hid (Sa.out.step hst)
  replace Sb := Lib.hid (Sb.out.step hst)
  replace S4 := Lib.hid (S4.out.step hst)
  replace SL := Lib.hid (SL.out.step hst)
  replace S5 := Lib.hid (S5.out.step hst)
  replace S6 := Lib.hid (S6.out.step hst)
  replace b : Below w.heap.size w w13 := bst b hst
  clear hst
  have dXa : ∀ i, w13.cell? ⟨w.heap.size, i, none⟩ = _ := Bx.cell Xa
  have eXa : ∀ i, w13.frozen? ⟨w.heap.size, i, none⟩ = false := Bx.frozen Xa
  have qXa := Bx.lt Xa
  have dXb : ∀ i, w13.cell? ⟨w.heap.size + 1, i, none⟩ = _ := Bx.cell Xb
  have eXb : ∀ i, w13.frozen? ⟨w.heap.size + 1, i, none⟩ = false := Bx.frozen Xb
  have qXb := Bx.lt Xb
  have dX4 : ∀ i, w13.cell? ⟨w8.heap.size, i, none⟩ = _ := Bx.cell X4
  have eX4 : ∀ i, w13.frozen? ⟨w8.heap.size, i, none⟩ = false := Bx.frozen X4
  have qX4 := Bx.lt X4
  have dXL : ∀ i, w13.cell? ⟨w9.heap.size, i, none⟩ = _ := Bx.cell XL
  have eXL : ∀ i, w13.frozen? ⟨w9.heap.size, i, none⟩ = false := Bx.frozen XL
  have qXL := Bx.lt XL
  have dX5 : ∀ i, w13.cell? ⟨w10.heap.size, i, none⟩ = _ := Bx.cell X5
  have eX5 : ∀ i, w13.frozen? ⟨w10.heap.size, i, none⟩ = false := Bx.frozen X5
  have qX5 := Bx.lt X5
  have dX6 : ∀ i, w13.cell? ⟨w11.heap.size, i, none⟩ = _ := Bx.cell X6
  have eX6 : ∀ i, w13.frozen? ⟨w11.heap.size, i, none⟩ = false := Bx.frozen X6
  have qX6 := Bx.lt X6
  go_wp2_with fail
  refine (awake_any _).mono ?_
  rintro e wz ⟨rfl, hbz⟩
  go_wp2
  go_ret
  exact ⟨rfl, bst b hbz⟩
set_option maxHeartbeats 16000000 in
theorem part_stay_bad (ka ra ua va : Int) (Aa : Option Addr) (na ca : Nat) (xsa : List Int) (kb rb ub vb : Int) (Ab : Option Addr) (nb cb : Nat) (xsb : List Int) (x : Int) (w : World) (hsa : Sl w Aa na ca xsa) (hsb : Sl w Ab nb cb xsb) (hfa : ¬ 405 < na) (hfb : ¬ 405 < nb) (hC : achk ka ra ua va xsa = 0) (hra : (ra != 1) = false) (hX : ∀ y ∈ [x], -9223372036854775808 ≤ y ∧ y ≤ 9223372036854775807) (hx : ¬ x < 0) (k1 r1 u1 v1 : Int) (xs1 : List Int) (k2 r2 u2 v2 : Int) (xs2 : List Int) (k4 r4 u4 v4 : Int) (xs4 : List Int) (e4 : Int)
    (h1 : sTake ⟨1, 0, 0, 0, [x]⟩ ⟨ka, ra, ua, va, xsa⟩ = (⟨k1, r1, u1, v1, xs1⟩, 0)) (h2 : sDrop ⟨1, 0, 0, 0, [x]⟩ ⟨ka, ra, ua, va, xsa⟩ = (⟨k2, r2, u2, v2, xs2⟩, 0)) (h3 : sCat ⟨k1, r1, u1, v1, xs1⟩ ⟨k2, r2, u2, v2, xs2⟩ = (⟨ka, ra, ua, va, xsa⟩, 0)) (h4 : sCat ⟨ka, ra, ua, va, xsa⟩ ⟨kb, rb, ub, vb, xsb⟩ = (⟨k4, r4, u4, v4, xs4⟩, e4)) (he4 : (e4 != 0) = true) :
    Calls Try.prog 7 #[.agg #[.int .i64 ka, .int .i64 ra, .int .i64 ua, .int .i64 va, .slice Aa na ca], .agg #[.int .i64 kb, .int .i64 rb, .int .i64 ub, .int .i64 vb, .slice Ab nb cb], .int .i64 x] w fun e w' => e = .returned (.bool true) ∧ Below w.heap.size w w' := by
  have Sa := Lib.hid hsa
  have Sb := Lib.hid hsb
  clear hsa hsb
  have HC := Lib.hid hC
  have HX := Lib.hid hX
  have H1 := Lib.hid h1
  have H2 := Lib.hid h2
  have H3 := Lib.hid h3
  have H4 := Lib.hid h4
  clear hC hX h1 h2 h3 h4
  go_enter Try.func7, Try.ntmps7
  go_wp2_with fail
  refine (far_any _ _ _ _ _ _ _ _).mono ?_
  rintro e w1 ⟨rfl, hst⟩
  obtain ⟨Xa, Xb, hst⟩ := after2 hst
  replace Sa := Lib.hid (Sa.out.step hst)
  replace Sb := Lib.hid (Sb.out.step hst)
  have b : Below w.heap.size w w1 := hst
  clear hst
  rw [decide_eq_false hfa]
  have dXa : ∀ i, w1.cell? ⟨w.heap.size, i, none⟩ = _ := Bx.cell Xa
  have eXa : ∀ i, w1.frozen? ⟨w.heap.size, i, none⟩ = false := Bx.frozen Xa
  have qXa := Bx.lt Xa
  have dXb : ∀ i, w1.cell? ⟨w.heap.size + 1, i, none⟩ = _ := Bx.cell Xb
  have eXb : ∀ i, w1.frozen? ⟨w.heap.size + 1, i, none⟩ = false := Bx.frozen Xb
  have qXb := Bx.lt Xb
  go_wp2_with fail
  refine (far_any _ _ _ _ _ _ _ _).mono ?_
  rintro e w2 ⟨rfl, hst⟩
  clear dXa eXa qXa dXb eXb qXb
  replace Xa := Bx.step Xa hst
  replace Xb := Bx.step Xb hst
  replace Sa := Lib.hid (Sa.out.step hst)
  replace Sb := Lib.hid (Sb.out.step hst)
  replace b : Below w.heap.size w w2 := bst b hst
  clear hst
  rw [decide_eq_false hfb]
  have dXa : ∀ i, w2.cell? ⟨w.heap.size, i, none⟩ = _ := Bx.cell Xa
  have eXa : ∀ i, w2.frozen? ⟨w.heap.size, i, none⟩ = false := Bx.frozen Xa
  have qXa := Bx.lt Xa
  have dXb : ∀ i, w2.cell? ⟨w.heap.size + 1, i, none⟩ = _ := Bx.cell Xb
  have eXb : ∀ i, w2.frozen? ⟨w.heap.size + 1, i, none⟩ = false := Bx.frozen Xb
  have qXb := Bx.lt Xb
  go_wp2_with fail
  refine (racheck_any _ _ _ _ _ _ _ xsa 0 _ Sa.out HC.out).mono ?_
  rintro e w3 ⟨rfl, hst⟩
  clear dXa eXa qXa dXb eXb qXb
  replace Xa := Bx.step Xa hst
  replace Xb := Bx.step Xb hst
  replace Sa := Lib.hid (Sa.out.step hst)
  replace Sb := Lib.hid (Sb.out.step hst)
  replace b : Below w.heap.size w w3 := bst b hst
  clear hst
  have dXa : ∀ i, w3.cell? ⟨w.heap.size, i, none⟩ = _ := Bx.cell Xa
  have eXa : ∀ i, w3.frozen? ⟨w.heap.size, i, none⟩ = false := Bx.frozen Xa
  have qXa := Bx.lt Xa
  have dXb : ∀ i, w3.cell? ⟨w.heap.size + 1, i, none⟩ = _ := Bx.cell Xb
  have eXb : ∀ i, w3.frozen? ⟨w.heap.size + 1, i, none⟩ = false := Bx.frozen Xb
  have qXb := Bx.lt Xb
  go_wp2_with fail
  have hlt := Bx.lt Xa
  go_cut [7, 8] from 37 to 43 (fun p e wx => ∃ (B : Nat) (A : Option Addr) (n c : Nat), p = .pointer (some ⟨B, 0, none⟩) ∧ e = .int .i64 0 ∧ Below w3.heap.size w3 wx ∧ Hid (Bx wx B #[.int .i64 k1, .int .i64 r1, .int .i64 u1, .int .i64 v1, .slice A n c] 25) ∧ Hid (Sl wx A n c xs1) ∧ w3.heap.size ≤ B ∧ Hid (New w3 A) ∧ Hid (0 < n → ∀ b o, A = some ⟨b, o, none⟩ → b ≠ B))
  case first =>
    have hS : ∀ u, Below w3.heap.size w3 u → ∀ i, u.cell? ⟨w.heap.size, i, none⟩ = #[.int .i64 ka, .int .i64 ra, .int .i64 ua, .int .i64 va, .slice Aa na ca][i]? := fun u h => Bx.cell (Bx.step Xa h)
    have P0 : Below w3.heap.size w3 w3.drew := bdr (Below.refl _ _)
    have P1 : Below w3.heap.size w3 (w3.alloc (.cells #[.int .i64 0, .int .i64 0, .int .i64 0, .int .i64 0, .slice none 0 0] 25)).drew := bdr (bal (Below.refl _ _) _)
    have N1 : Bx (w3.alloc (.cells #[.int .i64 0, .int .i64 0, .int .i64 0, .int .i64 0, .slice none 0 0] 25)).drew w3.heap.size #[.int .i64 0, .int .i64 0, .int .i64 0, .int .i64 0, .slice none 0 0] 25 := Bx.new w3 _ _
    have ne5 : w.heap.size ≠ w3.heap.size := by omega
    go_region_held3 (fun w' => ∀ i, w'.cell? ⟨w.heap.size, i, none⟩ = #[.int .i64 ka, .int .i64 ra, .int .i64 ua, .int .i64 va, .slice Aa na ca][i]?)
      (with_reducible first | exact hS _ P0 | exact hS _ P1 | exact hS _ P6 | exact hS _ P7 | exact hS _ (bst P6 P8) | exact hS _ (bal (bst P6 P8) _) | exact hS _ (below_set5' (bst P6 P8) (Nat.le_refl _) _ _ _ _ _) | exact hS _ (below_set5' (bst P6 P8) zz6 _ _ _ _ _))
      (first
        | (go_at_call 30; (with_reducible refine (int_any x _).mono ?_); rintro e u6 ⟨⟨Ai, ni, ci, rfl, hS6, hN6⟩, hb6⟩; have P6 : Below w3.heap.size w3 u6 := (by with_reducible first | exact bst P0 hb6 | exact bst P1 hb6); have P7 : Below w3.heap.size w3 (u6.alloc (.cells #[.int .i64 0, .int .i64 0, .int .i64 0, .int .i64 0, .slice none 0 0] 25)) := bal P6 _; have zz6 := P6.size; have ne6 : w.heap.size ≠ u6.heap.size := (by omega); have Q1 := Lib.hid (Sa.out.step P6); have Q6 := Lib.hid hS6; clear hS6 hN6; have P9 : Below u6.heap.size u6 (u6.alloc (.cells #[.int .i64 0, .int .i64 0, .int .i64 0, .int .i64 0, .slice none 0 0] 25)) := below1 _ _; have N2 : Bx (u6.alloc (.cells #[.int .i64 0, .int .i64 0, .int .i64 0, .int .i64 0, .slice none 0 0] 25)) u6.heap.size #[.int .i64 0, .int .i64 0, .int .i64 0, .int .i64 0, .slice none 0 0] 25 := Bx.new u6 _ _; (try (have M1 : Bx u6 (w3.heap.size) #[.int .i64 0, .int .i64 0, .int .i64 0, .int .i64 0, .slice none 0 0] 25 := (by with_reducible exact Bx.step N1 hb6))))
        | (go_at_call 13; (with_reducible first | refine (mTake_any _ _ _ _ _ _ _ [x] _ _ _ _ _ _ _ xsa (⟨k1, r1, u1, v1, xs1⟩, 0) u6 Q6.out Q1.out HX.out H1.out).mono ?_ | refine (mTake_any _ _ _ _ _ _ _ [x] _ _ _ _ _ _ _ xsa (⟨k1, r1, u1, v1, xs1⟩, 0) _ (Q6.out.step P9) (Q1.out.step P9) HX.out H1.out).mono ?_); intro e u7 hR; obtain ⟨Ar, nr, cr, rfl, hS7, hN7, hb7⟩ := RetA.flat hR; have P8 : Below u6.heap.size u6 u7 := (by with_reducible first | exact hb7 | exact bst P9 hb7); have zz7 := P8.size; (first | (have N8 : Bx u7 (w3.heap.size) #[.int .i64 0, .int .i64 0, .int .i64 0, .int .i64 0, .slice none 0 0] 25 := (by with_reducible exact Bx.step M1 hb7); have gB : ∀ i, u7.cell? ⟨w3.heap.size, i, none⟩ = _ := Bx.cell N8; have kB : ∀ i, u7.frozen? ⟨w3.heap.size, i, none⟩ = false := Bx.frozen N8) | (have N8 : Bx u7 (u6.heap.size) #[.int .i64 0, .int .i64 0, .int .i64 0, .int .i64 0, .slice none 0 0] 25 := (by with_reducible exact Bx.step N2 hb7); have gB : ∀ i, u7.cell? ⟨u6.heap.size, i, none⟩ = _ := Bx.cell N8; have kB : ∀ i, u7.frozen? ⟨u6.heap.size, i, none⟩ = false := Bx.frozen N8) | skip)))
    all_goals go_wp2_with fail
    all_goals go_meet
    · exact ⟨u7.heap.size, Ar, nr, cr, rfl, rfl, bst P6 (bst P8 (below1 _ _)), Lib.hid (Bx.new u7 _ _), Lib.hid (hS7.step (below1 _ _)), Nat.le_trans zz6 zz7, Lib.hid (hN7.mono zz6), Lib.hid (hS7.ne_lo (Nat.le_refl _))⟩
    · exact ⟨u6.heap.size, Ar, nr, cr, rfl, rfl, below_set5' (bst P6 P8) zz6 _ _ _ _ _, Lib.hid (Bx.set5 N8 _ _ _ _ _), Lib.hid (hS7.past5 _ _ _ _ _ fun b o e => by have := hN7 b o none e; rw [World.size_alloc] at this; omega), zz6, Lib.hid (hN7.mono (by rw [World.size_alloc]; omega)), Lib.hid (fun _ b o e => by have := hN7 b o none e; rw [World.size_alloc] at this; omega)⟩
    · exact ⟨w3.heap.size, Ar, nr, cr, rfl, rfl, below_set5' (bst P6 P8) (Nat.le_refl _) _ _ _ _ _, Lib.hid (Bx.set5 N8 _ _ _ _ _), Lib.hid (hS7.past5 _ _ _ _ _ fun b o e => by have := hN7 b o none e; have := M1.lt; omega), Nat.le_refl _, Lib.hid (hN7.mono zz6), Lib.hid (fun _ b o e => by have := hN7 b o none e; have := M1.lt; omega)⟩
  case rest =>
  obtain ⟨B4, A4, n4, c4, rfl, rfl, hst, HX, HS_, hB4, NS1, ne_S1_X1⟩ := hcut
  obtain ⟨w4, hw4⟩ : ∃ w4, wc = w4 := ⟨_, rfl⟩
  rw [hw4] at hst HX HS_
  rw [hw4]
  clear hlt hw4
  clear dXa eXa qXa dXb eXb qXb
  have hlo4 : ∀ B, B < w3.heap.size → B ≠ B4 := fun B h => by omega
  have nx_Xa_X1 := hlo4 _ (Bx.lt Xa)
  have nx_X1_Xa := Ne.symm nx_Xa_X1
  have nx_Xb_X1 := hlo4 _ (Bx.lt Xb)
  have nx_X1_Xb := Ne.symm nx_Xb_X1
  have ne_Sa_X1 := Lib.hid (Sa.out.ne_lo hB4)
  have ne_Sb_X1 := Lib.hid (Sb.out.ne_lo hB4)
  have ne_S1_Xa := Lib.hid (New.ne_hi (n := n4) NS1.out (Bx.lt Xa))
  have ne_S1_Xb := Lib.hid (New.ne_hi (n := n4) NS1.out (Bx.lt Xb))
  replace Xa := Bx.step Xa hst
  replace Xb := Bx.step Xb hst
  replace Sa := Lib.hid (Sa.out.step hst)
  replace Sb := Lib.hid (Sb.out.step hst)
  have zX1 : w.heap.size ≤ B4 := Nat.le_trans b.size hB4
  replace b := bst b hst
  have X1 := HX.out
  have S1 := HS_
  clear hst HX HS_
  have dXa : ∀ i, w4.cell? ⟨w.heap.size, i, none⟩ = _ := Bx.cell Xa
  have eXa : ∀ i, w4.frozen? ⟨w.heap.size, i, none⟩ = false := Bx.frozen Xa
  have qXa := Bx.lt Xa
  have dXb : ∀ i, w4.cell? ⟨w.heap.size + 1, i, none⟩ = _ := Bx.cell Xb
  have eXb : ∀ i, w4.frozen? ⟨w.heap.size + 1, i, none⟩ = false := Bx.frozen Xb
  have qXb := Bx.lt Xb
  have dX1 : ∀ i, w4.cell? ⟨B4, i, none⟩ = _ := Bx.cell X1
  have eX1 : ∀ i, w4.frozen? ⟨B4, i, none⟩ = false := Bx.frozen X1
  have qX1 := Bx.lt X1
  go_wp2_with fail
  have hlt := Bx.lt Xa
  go_cut [9, 10] from 44 to 50 (fun p e wx => ∃ (B : Nat) (A : Option Addr) (n c : Nat), p = .pointer (some ⟨B, 0, none⟩) ∧ e = .int .i64 0 ∧ Below w4.heap.size w4 wx ∧ Hid (Bx wx B #[.int .i64 k2, .int .i64 r2, .int .i64 u2, .int .i64 v2, .slice A n c] 25) ∧ Hid (Sl wx A n c xs2) ∧ w4.heap.size ≤ B ∧ Hid (New w4 A) ∧ Hid (0 < n → ∀ b o, A = some ⟨b, o, none⟩ → b ≠ B))
  case first =>
    have hS : ∀ u, Below w4.heap.size w4 u → ∀ i, u.cell? ⟨w.heap.size, i, none⟩ = #[.int .i64 ka, .int .i64 ra, .int .i64 ua, .int .i64 va, .slice Aa na ca][i]? := fun u h => Bx.cell (Bx.step Xa h)
    have P0 : Below w4.heap.size w4 w4.drew := bdr (Below.refl _ _)
    have P1 : Below w4.heap.size w4 (w4.alloc (.cells #[.int .i64 0, .int .i64 0, .int .i64 0, .int .i64 0, .slice none 0 0] 25)).drew := bdr (bal (Below.refl _ _) _)
    have N1 : Bx (w4.alloc (.cells #[.int .i64 0, .int .i64 0, .int .i64 0, .int .i64 0, .slice none 0 0] 25)).drew w4.heap.size #[.int .i64 0, .int .i64 0, .int .i64 0, .int .i64 0, .slice none 0 0] 25 := Bx.new w4 _ _
    have ne5 : w.heap.size ≠ w4.heap.size := by omega
    go_region_held3 (fun w' => ∀ i, w'.cell? ⟨w.heap.size, i, none⟩ = #[.int .i64 ka, .int .i64 ra, .int .i64 ua, .int .i64 va, .slice Aa na ca][i]?)
      (with_reducible first | exact hS _ P0 | exact hS _ P1 | exact hS _ P6 | exact hS _ P7 | exact hS _ (bst P6 P8) | exact hS _ (bal (bst P6 P8) _) | exact hS _ (below_set5' (bst P6 P8) (Nat.le_refl _) _ _ _ _ _) | exact hS _ (below_set5' (bst P6 P8) zz6 _ _ _ _ _))
      (first
        | (go_at_call 30; (with_reducible refine (int_any x _).mono ?_); rintro e u6 ⟨⟨Ai, ni, ci, rfl, hS6, hN6⟩, hb6⟩; have P6 : Below w4.heap.size w4 u6 := (by with_reducible first | exact bst P0 hb6 | exact bst P1 hb6); have P7 : Below w4.heap.size w4 (u6.alloc (.cells #[.int .i64 0, .int .i64 0, .int .i64 0, .int .i64 0, .slice none 0 0] 25)) := bal P6 _; have zz6 := P6.size; have ne6 : w.heap.size ≠ u6.heap.size := (by omega); have Q1 := Lib.hid (Sa.out.step P6); have Q6 := Lib.hid hS6; clear hS6 hN6; have P9 : Below u6.heap.size u6 (u6.alloc (.cells #[.int .i64 0, .int .i64 0, .int .i64 0, .int .i64 0, .slice none 0 0] 25)) := below1 _ _; have N2 : Bx (u6.alloc (.cells #[.int .i64 0, .int .i64 0, .int .i64 0, .int .i64 0, .slice none 0 0] 25)) u6.heap.size #[.int .i64 0, .int .i64 0, .int .i64 0, .int .i64 0, .slice none 0 0] 25 := Bx.new u6 _ _; (try (have M1 : Bx u6 (w4.heap.size) #[.int .i64 0, .int .i64 0, .int .i64 0, .int .i64 0, .slice none 0 0] 25 := (by with_reducible exact Bx.step N1 hb6))))
        | (go_at_call 15; (with_reducible first | refine (mDrop_any _ _ _ _ _ _ _ [x] _ _ _ _ _ _ _ xsa (⟨k2, r2, u2, v2, xs2⟩, 0) u6 Q6.out Q1.out HX.out H2.out).mono ?_ | refine (mDrop_any _ _ _ _ _ _ _ [x] _ _ _ _ _ _ _ xsa (⟨k2, r2, u2, v2, xs2⟩, 0) _ (Q6.out.step P9) (Q1.out.step P9) HX.out H2.out).mono ?_); intro e u7 hR; obtain ⟨Ar, nr, cr, rfl, hS7, hN7, hb7⟩ := RetA.flat hR; have P8 : Below u6.heap.size u6 u7 := (by with_reducible first | exact hb7 | exact bst P9 hb7); have zz7 := P8.size; (first | (have N8 : Bx u7 (w4.heap.size) #[.int .i64 0, .int .i64 0, .int .i64 0, .int .i64 0, .slice none 0 0] 25 := (by with_reducible exact Bx.step M1 hb7); have gB : ∀ i, u7.cell? ⟨w4.heap.size, i, none⟩ = _ := Bx.cell N8; have kB : ∀ i, u7.frozen? ⟨w4.heap.size, i, none⟩ = false := Bx.frozen N8) | (have N8 : Bx u7 (u6.heap.size) #[.int .i64 0, .int .i64 0, .int .i64 0, .int .i64 0, .slice none 0 0] 25 := (by with_reducible exact Bx.step N2 hb7); have gB : ∀ i, u7.cell? ⟨u6.heap.size, i, none⟩ = _ := Bx.cell N8; have kB : ∀ i, u7.frozen? ⟨u6.heap.size, i, none⟩ = false := Bx.frozen N8) | skip)))
    all_goals go_wp2_with fail
    all_goals go_meet
    · exact ⟨u7.heap.size, Ar, nr, cr, rfl, rfl, bst P6 (bst P8 (below1 _ _)), Lib.hid (Bx.new u7 _ _), Lib.hid (hS7.step (below1 _ _)), Nat.le_trans zz6 zz7, Lib.hid (hN7.mono zz6), Lib.hid (hS7.ne_lo (Nat.le_refl _))⟩
    · exact ⟨u6.heap.size, Ar, nr, cr, rfl, rfl, below_set5' (bst P6 P8) zz6 _ _ _ _ _, Lib.hid (Bx.set5 N8 _ _ _ _ _), Lib.hid (hS7.past5 _ _ _ _ _ fun b o e => by have := hN7 b o none e; rw [World.size_alloc] at this; omega), zz6, Lib.hid (hN7.mono (by rw [World.size_alloc]; omega)), Lib.hid (fun _ b o e => by have := hN7 b o none e; rw [World.size_alloc] at this; omega)⟩
    · exact ⟨w4.heap.size, Ar, nr, cr, rfl, rfl, below_set5' (bst P6 P8) (Nat.le_refl _) _ _ _ _ _, Lib.hid (Bx.set5 N8 _ _ _ _ _), Lib.hid (hS7.past5 _ _ _ _ _ fun b o e => by have := hN7 b o none e; have := M1.lt; omega), Nat.le_refl _, Lib.hid (hN7.mono zz6), Lib.hid (fun _ b o e => by have := hN7 b o none e; have := M1.lt; omega)⟩
  case rest =>
  obtain ⟨B5, A5, n5, c5, rfl, rfl, hst, HX, HS_, hB5, NS2, ne_S2_X2⟩ := hcut
  obtain ⟨w5, hw5⟩ : ∃ w5, wc = w5 := ⟨_, rfl⟩
  rw [hw5] at hst HX HS_
  rw [hw5]
  clear hlt hw5
  clear dXa eXa qXa dXb eXb qXb dX1 eX1 qX1
  have hlo5 : ∀ B, B < w4.heap.size → B ≠ B5 := fun B h => by omega
  have nx_Xa_X2 := hlo5 _ (Bx.lt Xa)
  have nx_X2_Xa := Ne.symm nx_Xa_X2
  have nx_Xb_X2 := hlo5 _ (Bx.lt Xb)
  have nx_X2_Xb := Ne.symm nx_Xb_X2
  have nx_X1_X2 := hlo5 _ (Bx.lt X1)
  have nx_X2_X1 := Ne.symm nx_X1_X2
  have ne_Sa_X2 := Lib.hid (Sa.out.ne_lo hB5)
  have ne_Sb_X2 := Lib.hid (Sb.out.ne_lo hB5)
  have ne_S1_X2 := Lib.hid (S1.out.ne_lo hB5)
  have ne_S2_Xa := Lib.hid (New.ne_hi (n := n5) NS2.out (Bx.lt Xa))
  have ne_S2_Xb := Lib.hid (New.ne_hi (n := n5) NS2.out (Bx.lt Xb))
  have ne_S2_X1 := Lib.hid (New.ne_hi (n := n5) NS2.out (Bx.lt X1))
  replace Xa := Bx.step Xa hst
  replace Xb := Bx.step Xb hst
  replace X1 := Bx.step X1 hst
  replace Sa := Lib.hid (Sa.out.step hst)
  replace Sb := Lib.hid (Sb.out.step hst)
  replace S1 := Lib.hid (S1.out.step hst)
  have zX2 : w.heap.size ≤ B5 := Nat.le_trans b.size hB5
  replace b := bst b hst
  have X2 := HX.out
  have S2 := HS_
  clear hst HX HS_
  have dXa : ∀ i, w5.cell? ⟨w.heap.size, i, none⟩ = _ := Bx.cell Xa
  have eXa : ∀ i, w5.frozen? ⟨w.heap.size, i, none⟩ = false := Bx.frozen Xa
  have qXa := Bx.lt Xa
  have dXb : ∀ i, w5.cell? ⟨w.heap.size + 1, i, none⟩ = _ := Bx.cell Xb
  have eXb : ∀ i, w5.frozen? ⟨w.heap.size + 1, i, none⟩ = false := Bx.frozen Xb
  have qXb := Bx.lt Xb
  have dX1 : ∀ i, w5.cell? ⟨B4, i, none⟩ = _ := Bx.cell X1
  have eX1 : ∀ i, w5.frozen? ⟨B4, i, none⟩ = false := Bx.frozen X1
  have qX1 := Bx.lt X1
  have dX2 : ∀ i, w5.cell? ⟨B5, i, none⟩ = _ := Bx.cell X2
  have eX2 : ∀ i, w5.frozen? ⟨B5, i, none⟩ = false := Bx.frozen X2
  have qX2 := Bx.lt X2
  go_wp2_with fail
  refine (mCat_any _ _ _ _ _ _ _ xs1 _ _ _ _ _ _ _ xs2 _ _ S1.out S2.out H3.out).mono ?_
  intro e w6 hR
  obtain ⟨A6, n6, c6, rfl, hS6, hN6, hst⟩ := RetA.flat hR
  clear hR
  clear dXa eXa qXa dXb eXb qXb dX1 eX1 qX1 dX2 eX2 qX2
  replace Xa := Bx.step Xa hst
  replace Xb := Bx.step Xb hst
  replace X1 := Bx.step X1 hst
  replace X2 := Bx.step X2 hst
  replace Sa := Lib.hid (Sa.out.step hst)
  replace Sb := Lib.hid (Sb.out.step hst)
  replace S1 := Lib.hid (S1.out.step hst)
  replace S2 := Lib.hid (S2.out.step hst)
  replace b : Below w.heap.size w w6 := bst b hst
  clear hst
  have S3 := Lib.hid hS6
  have NS3 := Lib.hid hN6
  clear hS6 hN6
  have dXa : ∀ i, w6.cell? ⟨w.heap.size, i, none⟩ = _ := Bx.cell Xa
  have eXa : ∀ i, w6.frozen? ⟨w.heap.size, i, none⟩ = false := Bx.frozen Xa
  have qXa := Bx.lt Xa
  have dXb : ∀ i, w6.cell? ⟨w.heap.size + 1, i, none⟩ = _ := Bx.cell Xb
  have eXb : ∀ i, w6.frozen? ⟨w.heap.size + 1, i, none⟩ = false := Bx.frozen Xb
  have qXb := Bx.lt Xb
  have dX1 : ∀ i, w6.cell? ⟨B4, i, none⟩ = _ := Bx.cell X1
  have eX1 : ∀ i, w6.frozen? ⟨B4, i, none⟩ = false := Bx.frozen X1
  have qX1 := Bx.lt X1
  have dX2 : ∀ i, w6.cell? ⟨B5, i, none⟩ = _ := Bx.cell X2
  have eX2 : ∀ i, w6.frozen? ⟨B5, i, none⟩ = false := Bx.frozen X2
  have qX2 := Bx.lt X2
  go_wp2_with fail
  refine (is_true _ _ _ _ _ _ _ xsa _ _ _ _ (S3.out.step (below1 _ _ )) (Sa.out.step (below1 _ _ ))).mono ?_
  rintro e w7 ⟨rfl, hst⟩
  clear dXa eXa qXa dXb eXb qXb dX1 eX1 qX1 dX2 eX2 qX2
  obtain ⟨X3, hst⟩ := after1 hst
  replace Xa := Bx.step Xa hst
  replace Xb := Bx.step Xb hst
  replace X1 := Bx.step X1 hst
  replace X2 := Bx.step X2 hst
  replace Sa := Lib.hid (Sa.out.step hst)
  replace Sb := Lib.hid (Sb.out.step hst)
  replace S1 := Lib.hid (S1.out.step hst)
  replace S2 := Lib.hid (S2.out.step hst)
  replace S3 := Lib.hid (S3.out.step hst)
  replace b : Below w.heap.size w w7 := bst b hst
  clear hst
  have dXa : ∀ i, w7.cell? ⟨w.heap.size, i, none⟩ = _ := Bx.cell Xa
  have eXa : ∀ i, w7.frozen? ⟨w.heap.size, i, none⟩ = false := Bx.frozen Xa
  have qXa := Bx.lt Xa
  have dXb : ∀ i, w7.cell? ⟨w.heap.size + 1, i, none⟩ = _ := Bx.cell Xb
  have eXb : ∀ i, w7.frozen? ⟨w.heap.size + 1, i, none⟩ = false := Bx.frozen Xb
  have qXb := Bx.lt Xb
  have dX1 : ∀ i, w7.cell? ⟨B4, i, none⟩ = _ := Bx.cell X1
  have eX1 : ∀ i, w7.frozen? ⟨B4, i, none⟩ = false := Bx.frozen X1
  have qX1 := Bx.lt X1
  have dX2 : ∀ i, w7.cell? ⟨B5, i, none⟩ = _ := Bx.cell X2
  have eX2 : ∀ i, w7.frozen? ⟨B5, i, none⟩ = false := Bx.frozen X2
  have qX2 := Bx.lt X2
  have dX3 : ∀ i, w7.cell? ⟨w6.heap.size, i, none⟩ = _ := Bx.cell X3
  have eX3 : ∀ i, w7.frozen? ⟨w6.heap.size, i, none⟩ = false := Bx.frozen X3
  have qX3 := Bx.lt X3
  go_wp2_with fail
  clear S1
  clear S2
  clear S3
  clear dX1 eX1 qX1
  clear X1
  clear dX2 eX2 qX2
  clear X2
  clear dX3 eX3 qX3
  clear X3
  refine (mCat_any _ _ _ _ _ _ _ xsa _ _ _ _ _ _ _ xsb _ _ Sa.out Sb.out H4.out).mono ?_
  intro e w8 hR
  obtain ⟨A8, n8, c8, rfl, hS8, hN8, hst⟩ := RetA.flat hR
  clear hR
  clear dXa eXa qXa dXb eXb qXb
  replace Xa := Bx.step Xa hst
  replace Xb := Bx.step Xb hst
  replace Sa := Lib.hid (Sa.out.step hst)
  replace Sb := Lib.hid (Sb.out.step hst)
  replace b : Below w.heap.size w w8 := bst b hst
  clear hst
  have S4 := Lib.hid hS8
  have NS4 := Lib.hid hN8
  clear hS8 hN8
  have dXa : ∀ i, w8.cell? ⟨w.heap.size, i, none⟩ = _ := Bx.cell Xa
  have eXa : ∀ i, w8.frozen? ⟨w.heap.size, i, none⟩ = false := Bx.frozen Xa
  have qXa := Bx.lt Xa
  have dXb : ∀ i, w8.cell? ⟨w.heap.size + 1, i, none⟩ = _ := Bx.cell Xb
  have eXb : ∀ i, w8.frozen? ⟨w.heap.size + 1, i, none⟩ = false := Bx.frozen Xb
  have qXb := Bx.lt Xb
  go_wp2_with fail
  refine (awake_any _).mono ?_
  rintro e wz ⟨rfl, hbz⟩
  go_wp2
  go_ret
  exact ⟨rfl, bst (bal b _) hbz⟩
set_option maxHeartbeats 16000000 in
theorem part_swap_good (ka ra ua va : Int) (Aa : Option Addr) (na ca : Nat) (xsa : List Int) (kb rb ub vb : Int) (Ab : Option Addr) (nb cb : Nat) (xsb : List Int) (x : Int) (w : World) (hsa : Sl w Aa na ca xsa) (hsb : Sl w Ab nb cb xsb) (hfa : ¬ 405 < na) (hfb : ¬ 405 < nb) (hC : achk ka ra ua va xsa = 0) (hra : (ra != 1) = false) (hX : ∀ y ∈ [x], -9223372036854775808 ≤ y ∧ y ≤ 9223372036854775807) (hx : x < 0) (k1 r1 u1 v1 : Int) (xs1 : List Int) (k2 r2 u2 v2 : Int) (xs2 : List Int) (k4 r4 u4 v4 : Int) (xs4 : List Int)
    (h1 : sTake ⟨1, 0, 0, 0, [x]⟩ ⟨ka, ra, ua, va, xsa⟩ = (⟨k1, r1, u1, v1, xs1⟩, 0)) (h2 : sDrop ⟨1, 0, 0, 0, [x]⟩ ⟨ka, ra, ua, va, xsa⟩ = (⟨k2, r2, u2, v2, xs2⟩, 0)) (h3 : sCat ⟨k2, r2, u2, v2, xs2⟩ ⟨k1, r1, u1, v1, xs1⟩ = (⟨ka, ra, ua, va, xsa⟩, 0)) (h4 : sCat ⟨ka, ra, ua, va, xsa⟩ ⟨kb, rb, ub, vb, xsb⟩ = (⟨k4, r4, u4, v4, xs4⟩, 0)) (h5 : sTake ⟨1, 0, 0, 0, [(na : Int)]⟩ ⟨k4, r4, u4, v4, xs4⟩ = (⟨ka, ra, ua, va, xsa⟩, 0)) (h6 : sDrop ⟨1, 0, 0, 0, [(na : Int)]⟩ ⟨k4, r4, u4, v4, xs4⟩ = (⟨kb, rb, ub, vb, xsb⟩, 0)) :
    Calls Try.prog 7 #[.agg #[.int .i64 ka, .int .i64 ra, .int .i64 ua, .int .i64 va, .slice Aa na ca], .agg #[.int .i64 kb, .int .i64 rb, .int .i64 ub, .int .i64 vb, .slice Ab nb cb], .int .i64 x] w fun e w' => e = .returned (.bool true) ∧ Below w.heap.size w w' := by
  have Sa := Lib.hid hsa
  have Sb := Lib.hid hsb
  clear hsa hsb
  have HC := Lib.hid hC
  have HX := Lib.hid hX
  have H1 := Lib.hid h1
  have H2 := Lib.hid h2
  have H3 := Lib.hid h3
  have H4 := Lib.hid h4
  have H5 := Lib.hid h5
  have H6 := Lib.hid h6
  clear hC hX h1 h2 h3 h4 h5 h6
  go_enter Try.func7, Try.ntmps7
  go_wp2_with fail
  have HL := Lib.hid (show ∀ y ∈ [(na : Int)], -9223372036854775808 ≤ y ∧ y ≤ 9223372036854775807 from fun y hy => by rw [List.mem_singleton] at hy; omega)
  refine (far_any _ _ _ _ _ _ _ _).mono ?_
  rintro e w1 ⟨rfl, hst⟩
  obtain ⟨Xa, Xb, hst⟩ := after2 hst
  replace Sa := Lib.hid (Sa.out.step hst)
  replace Sb := Lib.hid (Sb.out.step hst)
  have b : Below w.heap.size w w1 := hst
  clear hst
  rw [decide_eq_false hfa]
  have dXa : ∀ i, w1.cell? ⟨w.heap.size, i, none⟩ = _ := Bx.cell Xa
  have eXa : ∀ i, w1.frozen? ⟨w.heap.size, i, none⟩ = false := Bx.frozen Xa
  have qXa := Bx.lt Xa
  have dXb : ∀ i, w1.cell? ⟨w.heap.size + 1, i, none⟩ = _ := Bx.cell Xb
  have eXb : ∀ i, w1.frozen? ⟨w.heap.size + 1, i, none⟩ = false := Bx.frozen Xb
  have qXb := Bx.lt Xb
  go_wp2_with fail
  refine (far_any _ _ _ _ _ _ _ _).mono ?_
  rintro e w2 ⟨rfl, hst⟩
  clear dXa eXa qXa dXb eXb qXb
  replace Xa := Bx.step Xa hst
  replace Xb := Bx.step Xb hst
  replace Sa := Lib.hid (Sa.out.step hst)
  replace Sb := Lib.hid (Sb.out.step hst)
  replace b : Below w.heap.size w w2 := bst b hst
  clear hst
  rw [decide_eq_false hfb]
  have dXa : ∀ i, w2.cell? ⟨w.heap.size, i, none⟩ = _ := Bx.cell Xa
  have eXa : ∀ i, w2.frozen? ⟨w.heap.size, i, none⟩ = false := Bx.frozen Xa
  have qXa := Bx.lt Xa
  have dXb : ∀ i, w2.cell? ⟨w.heap.size + 1, i, none⟩ = _ := Bx.cell Xb
  have eXb : ∀ i, w2.frozen? ⟨w.heap.size + 1, i, none⟩ = false := Bx.frozen Xb
  have qXb := Bx.lt Xb
  go_wp2_with fail
  refine (racheck_any _ _ _ _ _ _ _ xsa 0 _ Sa.out HC.out).mono ?_
  rintro e w3 ⟨rfl, hst⟩
  clear dXa eXa qXa dXb eXb qXb
  replace Xa := Bx.step Xa hst
  replace Xb := Bx.step Xb hst
  replace Sa := Lib.hid (Sa.out.step hst)
  replace Sb := Lib.hid (Sb.out.step hst)
  replace b : Below w.heap.size w w3 := bst b hst
  clear hst
  have dXa : ∀ i, w3.cell? ⟨w.heap.size, i, none⟩ = _ := Bx.cell Xa
  have eXa : ∀ i, w3.frozen? ⟨w.heap.size, i, none⟩ = false := Bx.frozen Xa
  have qXa := Bx.lt Xa
  have dXb : ∀ i, w3.cell? ⟨w.heap.size + 1, i, none⟩ = _ := Bx.cell Xb
  have eXb : ∀ i, w3.frozen? ⟨w.heap.size + 1, i, none⟩ = false := Bx.frozen Xb
  have qXb := Bx.lt Xb
  go_wp2_with fail
  have hlt := Bx.lt Xa
  go_cut [7, 8] from 37 to 43 (fun p e wx => ∃ (B : Nat) (A : Option Addr) (n c : Nat), p = .pointer (some ⟨B, 0, none⟩) ∧ e = .int .i64 0 ∧ Below w3.heap.size w3 wx ∧ Hid (Bx wx B #[.int .i64 k1, .int .i64 r1, .int .i64 u1, .int .i64 v1, .slice A n c] 25) ∧ Hid (Sl wx A n c xs1) ∧ w3.heap.size ≤ B ∧ Hid (New w3 A) ∧ Hid (0 < n → ∀ b o, A = some ⟨b, o, none⟩ → b ≠ B))
  case first =>
    have hS : ∀ u, Below w3.heap.size w3 u → ∀ i, u.cell? ⟨w.heap.size, i, none⟩ = #[.int .i64 ka, .int .i64 ra, .int .i64 ua, .int .i64 va, .slice Aa na ca][i]? := fun u h => Bx.cell (Bx.step Xa h)
    have P0 : Below w3.heap.size w3 w3.drew := bdr (Below.refl _ _)
    have P1 : Below w3.heap.size w3 (w3.alloc (.cells #[.int .i64 0, .int .i64 0, .int .i64 0, .int .i64 0, .slice none 0 0] 25)).drew := bdr (bal (Below.refl _ _) _)
    have N1 : Bx (w3.alloc (.cells #[.int .i64 0, .int .i64 0, .int .i64 0, .int .i64 0, .slice none 0 0] 25)).drew w3.heap.size #[.int .i64 0, .int .i64 0, .int .i64 0, .int .i64 0, .slice none 0 0] 25 := Bx.new w3 _ _
    have ne5 : w.heap.size ≠ w3.heap.size := by omega
    go_region_held3 (fun w' => ∀ i, w'.cell? ⟨w.heap.size, i, none⟩ = #[.int .i64 ka, .int .i64 ra, .int .i64 ua, .int .i64 va, .slice Aa na ca][i]?)
      (with_reducible first | exact hS _ P0 | exact hS _ P1 | exact hS _ P6 | exact hS _ P7 | exact hS _ (bst P6 P8) | exact hS _ (bal (bst P6 P8) _) | exact hS _ (below_set5' (bst P6 P8) (Nat.le_refl _) _ _ _ _ _) | exact hS _ (below_set5' (bst P6 P8) zz6 _ _ _ _ _))
      (first
        | (go_at_call 30; (with_reducible refine (int_any x _).mono ?_); rintro e u6 ⟨⟨Ai, ni, ci, rfl, hS6, hN6⟩, hb6⟩; have P6 : Below w3.heap.size w3 u6 := (by with_reducible first | exact bst P0 hb6 | exact bst P1 hb6); have P7 : Below w3.heap.size w3 (u6.alloc (.cells #[.int .i64 0, .int .i64 0, .int .i64 0, .int .i64 0, .slice none 0 0] 25)) := bal P6 _; have zz6 := P6.size; have ne6 : w.heap.size ≠ u6.heap.size := (by omega); have Q1 := Lib.hid (Sa.out.step P6); have Q6 := Lib.hid hS6; clear hS6 hN6; have P9 : Below u6.heap.size u6 (u6.alloc (.cells #[.int .i64 0, .int .i64 0, .int .i64 0, .int .i64 0, .slice none 0 0] 25)) := below1 _ _; have N2 : Bx (u6.alloc (.cells #[.int .i64 0, .int .i64 0, .int .i64 0, .int .i64 0, .slice none 0 0] 25)) u6.heap.size #[.int .i64 0, .int .i64 0, .int .i64 0, .int .i64 0, .slice none 0 0] 25 := Bx.new u6 _ _; (try (have M1 : Bx u6 (w3.heap.size) #[.int .i64 0, .int .i64 0, .int .i64 0, .int .i64 0, .slice none 0 0] 25 := (by with_reducible exact Bx.step N1 hb6))))
        | (go_at_call 13; (with_reducible first | refine (mTake_any _ _ _ _ _ _ _ [x] _ _ _ _ _ _ _ xsa (⟨k1, r1, u1, v1, xs1⟩, 0) u6 Q6.out Q1.out HX.out H1.out).mono ?_ | refine (mTake_any _ _ _ _ _ _ _ [x] _ _ _ _ _ _ _ xsa (⟨k1, r1, u1, v1, xs1⟩, 0) _ (Q6.out.step P9) (Q1.out.step P9) HX.out H1.out).mono ?_); intro e u7 hR; obtain ⟨Ar, nr, cr, rfl, hS7, hN7, hb7⟩ := RetA.flat hR; have P8 : Below u6.heap.size u6 u7 := (by with_reducible first | exact hb7 | exact bst P9 hb7); have zz7 := P8.size; (first | (have N8 : Bx u7 (w3.heap.size) #[.int .i64 0, .int .i64 0, .int .i64 0, .int .i64 0, .slice none 0 0] 25 := (by with_reducible exact Bx.step M1 hb7); have gB : ∀ i, u7.cell? ⟨w3.heap.size, i, none⟩ = _ := Bx.cell N8; have kB : ∀ i, u7.frozen? ⟨w3.heap.size, i, none⟩ = false := Bx.frozen N8) | (have N8 : Bx u7 (u6.heap.size) #[.int .i64 0, .int .i64 0, .int .i64 0, .int .i64 0, .slice none 0 0] 25 := (by with_reducible exact Bx.step N2 hb7); have gB : ∀ i, u7.cell? ⟨u6.heap.size, i, none⟩ = _ := Bx.cell N8; have kB : ∀ i, u7.frozen? ⟨u6.heap.size, i, none⟩ = false := Bx.frozen N8) | skip)))
    all_goals go_wp2_with fail
    all_goals go_meet
    · exact ⟨u7.heap.size, Ar, nr, cr, rfl, rfl, bst P6 (bst P8 (below1 _ _)), Lib.hid (Bx.new u7 _ _), Lib.hid (hS7.step (below1 _ _)), Nat.le_trans zz6 zz7, Lib.hid (hN7.mono zz6), Lib.hid (hS7.ne_lo (Nat.le_refl _))⟩
    · exact ⟨u6.heap.size, Ar, nr, cr, rfl, rfl, below_set5' (bst P6 P8) zz6 _ _ _ _ _, Lib.hid (Bx.set5 N8 _ _ _ _ _), Lib.hid (hS7.past5 _ _ _ _ _ fun b o e => by have := hN7 b o none e; rw [World.size_alloc] at this; omega), zz6, Lib.hid (hN7.mono (by rw [World.size_alloc]; omega)), Lib.hid (fun _ b o e => by have := hN7 b o none e; rw [World.size_alloc] at this; omega)⟩
    · exact ⟨w3.heap.size, Ar, nr, cr, rfl, rfl, below_set5' (bst P6 P8) (Nat.le_refl _) _ _ _ _ _, Lib.hid (Bx.set5 N8 _ _ _ _ _), Lib.hid (hS7.past5 _ _ _ _ _ fun b o e => by have := hN7 b o none e; have := M1.lt; omega), Nat.le_refl _, Lib.hid (hN7.mono zz6), Lib.hid (fun _ b o e => by have := hN7 b o none e; have := M1.lt; omega)⟩
  case rest =>
  obtain ⟨B4, A4, n4, c4, rfl, rfl, hst, HX, HS_, hB4, NS1, ne_S1_X1⟩ := hcut
  obtain ⟨w4, hw4⟩ : ∃ w4, wc = w4 := ⟨_, rfl⟩
  rw [hw4] at hst HX HS_
  rw [hw4]
  clear hlt hw4
  clear dXa eXa qXa dXb eXb qXb
  have hlo4 : ∀ B, B < w3.heap.size → B ≠ B4 := fun B h => by omega
  have nx_Xa_X1 := hlo4 _ (Bx.lt Xa)
  have nx_X1_Xa := Ne.symm nx_Xa_X1
  have nx_Xb_X1 := hlo4 _ (Bx.lt Xb)
  have nx_X1_Xb := Ne.symm nx_Xb_X1
  have ne_Sa_X1 := Lib.hid (Sa.out.ne_lo hB4)
  have ne_Sb_X1 := Lib.hid (Sb.out.ne_lo hB4)
  have ne_S1_Xa := Lib.hid (New.ne_hi (n := n4) NS1.out (Bx.lt Xa))
  have ne_S1_Xb := Lib.hid (New.ne_hi (n := n4) NS1.out (Bx.lt Xb))
  replace Xa := Bx.step Xa hst
  replace Xb := Bx.step Xb hst
  replace Sa := Lib.hid (Sa.out.step hst)
  replace Sb := Lib.hid (Sb.out.step hst)
  have zX1 : w.heap.size ≤ B4 := Nat.le_trans b.size hB4
  replace b := bst b hst
  have X1 := HX.out
  have S1 := HS_
  clear hst HX HS_
  have dXa : ∀ i, w4.cell? ⟨w.heap.size, i, none⟩ = _ := Bx.cell Xa
  have eXa : ∀ i, w4.frozen? ⟨w.heap.size, i, none⟩ = false := Bx.frozen Xa
  have qXa := Bx.lt Xa
  have dXb : ∀ i, w4.cell? ⟨w.heap.size + 1, i, none⟩ = _ := Bx.cell Xb
  have eXb : ∀ i, w4.frozen? ⟨w.heap.size + 1, i, none⟩ = false := Bx.frozen Xb
  have qXb := Bx.lt Xb
  have dX1 : ∀ i, w4.cell? ⟨B4, i, none⟩ = _ := Bx.cell X1
  have eX1 : ∀ i, w4.frozen? ⟨B4, i, none⟩ = false := Bx.frozen X1
  have qX1 := Bx.lt X1
  go_wp2_with fail
  have hlt := Bx.lt Xa
  go_cut [9, 10] from 44 to 50 (fun p e wx => ∃ (B : Nat) (A : Option Addr) (n c : Nat), p = .pointer (some ⟨B, 0, none⟩) ∧ e = .int .i64 0 ∧ Below w4.heap.size w4 wx ∧ Hid (Bx wx B #[.int .i64 k2, .int .i64 r2, .int .i64 u2, .int .i64 v2, .slice A n c] 25) ∧ Hid (Sl wx A n c xs2) ∧ w4.heap.size ≤ B ∧ Hid (New w4 A) ∧ Hid (0 < n → ∀ b o, A = some ⟨b, o, none⟩ → b ≠ B))
  case first =>
    have hS : ∀ u, Below w4.heap.size w4 u → ∀ i, u.cell? ⟨w.heap.size, i, none⟩ = #[.int .i64 ka, .int .i64 ra, .int .i64 ua, .int .i64 va, .slice Aa na ca][i]? := fun u h => Bx.cell (Bx.step Xa h)
    have P0 : Below w4.heap.size w4 w4.drew := bdr (Below.refl _ _)
    have P1 : Below w4.heap.size w4 (w4.alloc (.cells #[.int .i64 0, .int .i64 0, .int .i64 0, .int .i64 0, .slice none 0 0] 25)).drew := bdr (bal (Below.refl _ _) _)
    have N1 : Bx (w4.alloc (.cells #[.int .i64 0, .int .i64 0, .int .i64 0, .int .i64 0, .slice none 0 0] 25)).drew w4.heap.size #[.int .i64 0, .int .i64 0, .int .i64 0, .int .i64 0, .slice none 0 0] 25 := Bx.new w4 _ _
    have ne5 : w.heap.size ≠ w4.heap.size := by omega
    go_region_held3 (fun w' => ∀ i, w'.cell? ⟨w.heap.size, i, none⟩ = #[.int .i64 ka, .int .i64 ra, .int .i64 ua, .int .i64 va, .slice Aa na ca][i]?)
      (with_reducible first | exact hS _ P0 | exact hS _ P1 | exact hS _ P6 | exact hS _ P7 | exact hS _ (bst P6 P8) | exact hS _ (bal (bst P6 P8) _) | exact hS _ (below_set5' (bst P6 P8) (Nat.le_refl _) _ _ _ _ _) | exact hS _ (below_set5' (bst P6 P8) zz6 _ _ _ _ _))
      (first
        | (go_at_call 30; (with_reducible refine (int_any x _).mono ?_); rintro e u6 ⟨⟨Ai, ni, ci, rfl, hS6, hN6⟩, hb6⟩; have P6 : Below w4.heap.size w4 u6 := (by with_reducible first | exact bst P0 hb6 | exact bst P1 hb6); have P7 : Below w4.heap.size w4 (u6.alloc (.cells #[.int .i64 0, .int .i64 0, .int .i64 0, .int .i64 0, .slice none 0 0] 25)) := bal P6 _; have zz6 := P6.size; have ne6 : w.heap.size ≠ u6.heap.size := (by omega); have Q1 := Lib.hid (Sa.out.step P6); have Q6 := Lib.hid hS6; clear hS6 hN6; have P9 : Below u6.heap.size u6 (u6.alloc (.cells #[.int .i64 0, .int .i64 0, .int .i64 0, .int .i64 0, .slice none 0 0] 25)) := below1 _ _; have N2 : Bx (u6.alloc (.cells #[.int .i64 0, .int .i64 0, .int .i64 0, .int .i64 0, .slice none 0 0] 25)) u6.heap.size #[.int .i64 0, .int .i64 0, .int .i64 0, .int .i64 0, .slice none 0 0] 25 := Bx.new u6 _ _; (try (have M1 : Bx u6 (w4.heap.size) #[.int .i64 0, .int .i64 0, .int .i64 0, .int .i64 0, .slice none 0 0] 25 := (by with_reducible exact Bx.step N1 hb6))))
        | (go_at_call 15; (with_reducible first | refine (mDrop_any _ _ _ _ _ _ _ [x] _ _ _ _ _ _ _ xsa (⟨k2, r2, u2, v2, xs2⟩, 0) u6 Q6.out Q1.out HX.out H2.out).mono ?_ | refine (mDrop_any _ _ _ _ _ _ _ [x] _ _ _ _ _ _ _ xsa (⟨k2, r2, u2, v2, xs2⟩, 0) _ (Q6.out.step P9) (Q1.out.step P9) HX.out H2.out).mono ?_); intro e u7 hR; obtain ⟨Ar, nr, cr, rfl, hS7, hN7, hb7⟩ := RetA.flat hR; have P8 : Below u6.heap.size u6 u7 := (by with_reducible first | exact hb7 | exact bst P9 hb7); have zz7 := P8.size; (first | (have N8 : Bx u7 (w4.heap.size) #[.int .i64 0, .int .i64 0, .int .i64 0, .int .i64 0, .slice none 0 0] 25 := (by with_reducible exact Bx.step M1 hb7); have gB : ∀ i, u7.cell? ⟨w4.heap.size, i, none⟩ = _ := Bx.cell N8; have kB : ∀ i, u7.frozen? ⟨w4.heap.size, i, none⟩ = false := Bx.frozen N8) | (have N8 : Bx u7 (u6.heap.size) #[.int .i64 0, .int .i64 0, .int .i64 0, .int .i64 0, .slice none 0 0] 25 := (by with_reducible exact Bx.step N2 hb7); have gB : ∀ i, u7.cell? ⟨u6.heap.size, i, none⟩ = _ := Bx.cell N8; have kB : ∀ i, u7.frozen? ⟨u6.heap.size, i, none⟩ = false := Bx.frozen N8) | skip)))
    all_goals go_wp2_with fail
    all_goals go_meet
    · exact ⟨u7.heap.size, Ar, nr, cr, rfl, rfl, bst P6 (bst P8 (below1 _ _)), Lib.hid (Bx.new u7 _ _), Lib.hid (hS7.step (below1 _ _)), Nat.le_trans zz6 zz7, Lib.hid (hN7.mono zz6), Lib.hid (hS7.ne_lo (Nat.le_refl _))⟩
    · exact ⟨u6.heap.size, Ar, nr, cr, rfl, rfl, below_set5' (bst P6 P8) zz6 _ _ _ _ _, Lib.hid (Bx.set5 N8 _ _ _ _ _), Lib.hid (hS7.past5 _ _ _ _ _ fun b o e => by have := hN7 b o none e; rw [World.size_alloc] at this; omega), zz6, Lib.hid (hN7.mono (by rw [World.size_alloc]; omega)), Lib.hid (fun _ b o e => by have := hN7 b o none e; rw [World.size_alloc] at this; omega)⟩
    · exact ⟨w4.heap.size, Ar, nr, cr, rfl, rfl, below_set5' (bst P6 P8) (Nat.le_refl _) _ _ _ _ _, Lib.hid (Bx.set5 N8 _ _ _ _ _), Lib.hid (hS7.past5 _ _ _ _ _ fun b o e => by have := hN7 b o none e; have := M1.lt; omega), Nat.le_refl _, Lib.hid (hN7.mono zz6), Lib.hid (fun _ b o e => by have := hN7 b o none e; have := M1.lt; omega)⟩
  case rest =>
  obtain ⟨B5, A5, n5, c5, rfl, rfl, hst, HX, HS_, hB5, NS2, ne_S2_X2⟩ := hcut
  obtain ⟨w5, hw5⟩ : ∃ w5, wc = w5 := ⟨_, rfl⟩
  rw [hw5] at hst HX HS_
  rw [hw5]
  clear hlt hw5
  clear dXa eXa qXa dXb eXb qXb dX1 eX1 qX1
  have hlo5 : ∀ B, B < w4.heap.size → B ≠ B5 := fun B h => by omega
  have nx_Xa_X2 := hlo5 _ (Bx.lt Xa)
  have nx_X2_Xa := Ne.symm nx_Xa_X2
  have nx_Xb_X2 := hlo5 _ (Bx.lt Xb)
  have nx_X2_Xb := Ne.symm nx_Xb_X2
  have nx_X1_X2 := hlo5 _ (Bx.lt X1)
  have nx_X2_X1 := Ne.symm nx_X1_X2
  have ne_Sa_X2 := Lib.hid (Sa.out.ne_lo hB5)
  have ne_Sb_X2 := Lib.hid (Sb.out.ne_lo hB5)
  have ne_S1_X2 := Lib.hid (S1.out.ne_lo hB5)
  have ne_S2_Xa := Lib.hid (New.ne_hi (n := n5) NS2.out (Bx.lt Xa))
  have ne_S2_Xb := Lib.hid (New.ne_hi (n := n5) NS2.out (Bx.lt Xb))
  have ne_S2_X1 := Lib.hid (New.ne_hi (n := n5) NS2.out (Bx.lt X1))
  replace Xa := Bx.step Xa hst
  replace Xb := Bx.step Xb hst
  replace X1 := Bx.step X1 hst
  replace Sa := Lib.hid (Sa.out.step hst)
  replace Sb := Lib.hid (Sb.out.step hst)
  replace S1 := Lib.hid (S1.out.step hst)
  have zX2 : w.heap.size ≤ B5 := Nat.le_trans b.size hB5
  replace b := bst b hst
  have X2 := HX.out
  have S2 := HS_
  clear hst HX HS_
  have dXa : ∀ i, w5.cell? ⟨w.heap.size, i, none⟩ = _ := Bx.cell Xa
  have eXa : ∀ i, w5.frozen? ⟨w.heap.size, i, none⟩ = false := Bx.frozen Xa
  have qXa := Bx.lt Xa
  have dXb : ∀ i, w5.cell? ⟨w.heap.size + 1, i, none⟩ = _ := Bx.cell Xb
  have eXb : ∀ i, w5.frozen? ⟨w.heap.size + 1, i, none⟩ = false := Bx.frozen Xb
  have qXb := Bx.lt Xb
  have dX1 : ∀ i, w5.cell? ⟨B4, i, none⟩ = _ := Bx.cell X1
  have eX1 : ∀ i, w5.frozen? ⟨B4, i, none⟩ = false := Bx.frozen X1
  have qX1 := Bx.lt X1
  have dX2 : ∀ i, w5.cell? ⟨B5, i, none⟩ = _ := Bx.cell X2
  have eX2 : ∀ i, w5.frozen? ⟨B5, i, none⟩ = false := Bx.frozen X2
  have qX2 := Bx.lt X2
  go_wp2_with fail
  refine (mCat_any _ _ _ _ _ _ _ xs2 _ _ _ _ _ _ _ xs1 _ _ (Sl.past5z (Sl.past5z S2.out _ _ _ _ _ (ne_S2_X1).out) _ _ _ _ _ (ne_S2_X2).out) (Sl.past5z (Sl.past5z S1.out _ _ _ _ _ (ne_S1_X1).out) _ _ _ _ _ (ne_S1_X2).out) H3.out).mono ?_
  intro e w6 hR
  obtain ⟨A6, n6, c6, rfl, hS6, hN6, hst⟩ := RetA.flat hR
  clear hR
  clear dXa eXa qXa dXb eXb qXb dX1 eX1 qX1 dX2 eX2 qX2
  have hsz_X1 := zX1
  have hsz_X2 := zX2
  replace Xa := Bx.step (Bx.past5 (Bx.past5 Xa _ _ _ _ _ nx_Xa_X1) _ _ _ _ _ nx_Xa_X2) hst
  replace Xb := Bx.step (Bx.past5 (Bx.past5 Xb _ _ _ _ _ nx_Xb_X1) _ _ _ _ _ nx_Xb_X2) hst
  replace X1 := Bx.step (Bx.past5 (Bx.set5 X1 _ _ _ _ _) _ _ _ _ _ nx_X1_X2) hst
  replace X2 := Bx.step (Bx.set5 (Bx.past5 X2 _ _ _ _ _ nx_X2_X1) _ _ _ _ _) hst
  replace Sa := Lib.hid ((Sl.past5z (Sl.past5z Sa.out _ _ _ _ _ (ne_Sa_X1).out) _ _ _ _ _ (ne_Sa_X2).out).step hst)
  replace Sb := Lib.hid ((Sl.past5z (Sl.past5z Sb.out _ _ _ _ _ (ne_Sb_X1).out) _ _ _ _ _ (ne_Sb_X2).out).step hst)
  replace S1 := Lib.hid ((Sl.past5z (Sl.past5z S1.out _ _ _ _ _ (ne_S1_X1).out) _ _ _ _ _ (ne_S1_X2).out).step hst)
  replace S2 := Lib.hid ((Sl.past5z (Sl.past5z S2.out _ _ _ _ _ (ne_S2_X1).out) _ _ _ _ _ (ne_S2_X2).out).step hst)
  replace b : Below w.heap.size w w6 := bst (below_set5 (below_set5 b zX1 _ _ _ _ _) zX2 _ _ _ _ _) hst
  clear hst
  have S3 := Lib.hid hS6
  have NS3 := Lib.hid hN6
  clear hS6 hN6
  have dXa : ∀ i, w6.cell? ⟨w.heap.size, i, none⟩ = _ := Bx.cell Xa
  have eXa : ∀ i, w6.frozen? ⟨w.heap.size, i, none⟩ = false := Bx.frozen Xa
  have qXa := Bx.lt Xa
  have dXb : ∀ i, w6.cell? ⟨w.heap.size + 1, i, none⟩ = _ := Bx.cell Xb
  have eXb : ∀ i, w6.frozen? ⟨w.heap.size + 1, i, none⟩ = false := Bx.frozen Xb
  have qXb := Bx.lt Xb
  have dX1 : ∀ i, w6.cell? ⟨B4, i, none⟩ = _ := Bx.cell X1
  have eX1 : ∀ i, w6.frozen? ⟨B4, i, none⟩ = false := Bx.frozen X1
  have qX1 := Bx.lt X1
  have dX2 : ∀ i, w6.cell? ⟨B5, i, none⟩ = _ := Bx.cell X2
  have eX2 : ∀ i, w6.frozen? ⟨B5, i, none⟩ = false := Bx.frozen X2
  have qX2 := Bx.lt X2
  go_wp2_with fail
  refine (is_true _ _ _ _ _ _ _ xsa _ _ _ _ (S3.out.step (below1 _ _ )) (Sa.out.step (below1 _ _ ))).mono ?_
  rintro e w7 ⟨rfl, hst⟩
  clear dXa eXa qXa dXb eXb qXb dX1 eX1 qX1 dX2 eX2 qX2
  obtain ⟨X3, hst⟩ := after1 hst
  replace Xa := Bx.step Xa hst
  replace Xb := Bx.step Xb hst
  replace X1 := Bx.step X1 hst
  replace X2 := Bx.step X2 hst
  replace Sa := Lib.hid (Sa.out.step hst)
  replace Sb := Lib.hid (Sb.out.step hst)
  replace S1 := Lib.hid (S1.out.step hst)
  replace S2 := Lib.hid (S2.out.step hst)
  replace S3 := Lib.hid (S3.out.step hst)
  replace b : Below w.heap.size w w7 := bst b hst
  clear hst
  have dXa : ∀ i, w7.cell? ⟨w.heap.size, i, none⟩ = _ := Bx.cell Xa
  have eXa : ∀ i, w7.frozen? ⟨w.heap.size, i, none⟩ = false := Bx.frozen Xa
  have qXa := Bx.lt Xa
  have dXb : ∀ i, w7.cell? ⟨w.heap.size + 1, i, none⟩ = _ := Bx.cell Xb
  have eXb : ∀ i, w7.frozen? ⟨w.heap.size + 1, i, none⟩ = false := Bx.frozen Xb
  have qXb := Bx.lt Xb
  have dX1 : ∀ i, w7.cell? ⟨B4, i, none⟩ = _ := Bx.cell X1
  have eX1 : ∀ i, w7.frozen? ⟨B4, i, none⟩ = false := Bx.frozen X1
  have qX1 := Bx.lt X1
  have dX2 : ∀ i, w7.cell? ⟨B5, i, none⟩ = _ := Bx.cell X2
  have eX2 : ∀ i, w7.frozen? ⟨B5, i, none⟩ = false := Bx.frozen X2
  have qX2 := Bx.lt X2
  have dX3 : ∀ i, w7.cell? ⟨w6.heap.size, i, none⟩ = _ := Bx.cell X3
  have eX3 : ∀ i, w7.frozen? ⟨w6.heap.size, i, none⟩ = false := Bx.frozen X3
  have qX3 := Bx.lt X3
  go_wp2_with fail
  clear S1
  clear S2
  clear S3
  clear dX1 eX1 qX1
  clear X1
  clear dX2 eX2 qX2
  clear X2
  clear dX3 eX3 qX3
  clear X3
  refine (mCat_any _ _ _ _ _ _ _ xsa _ _ _ _ _ _ _ xsb _ _ Sa.out Sb.out H4.out).mono ?_
  intro e w8 hR
  obtain ⟨A8, n8, c8, rfl, hS8, hN8, hst⟩ := RetA.flat hR
  clear hR
  clear dXa eXa qXa dXb eXb qXb
  replace Xa := Bx.step Xa hst
  replace Xb := Bx.step Xb hst
  replace Sa := Lib.hid (Sa.out.step hst)
  replace Sb := Lib.hid (Sb.out.step hst)
  replace b : Below w.heap.size w w8 := bst b hst
  clear hst
  have S4 := Lib.hid hS8
  have NS4 := Lib.hid hN8
  clear hS8 hN8
  have dXa : ∀ i, w8.cell? ⟨w.heap.size, i, none⟩ = _ := Bx.cell Xa
  have eXa : ∀ i, w8.frozen? ⟨w.heap.size, i, none⟩ = false := Bx.frozen Xa
  have qXa := Bx.lt Xa
  have dXb : ∀ i, w8.cell? ⟨w.heap.size + 1, i, none⟩ = _ := Bx.cell Xb
  have eXb : ∀ i, w8.frozen? ⟨w.heap.size + 1, i, none⟩ = false := Bx.frozen Xb
  have qXb := Bx.lt Xb
  go_wp2_with fail
  refine (int_any (na : Int) _).mono ?_
  rintro e w9 ⟨⟨A9, n9, c9, rfl, hS9, hN9⟩, hst⟩
  clear dXa eXa qXa dXb eXb qXb
  obtain ⟨X4, hst⟩ := after1 hst
  replace Xa := Bx.step Xa hst
  replace Xb := Bx.step Xb hst
  replace Sa := Lib.hid (Sa.out.step hst)
  replace Sb := Lib.hid (Sb.out.step hst)
  replace S4 := Lib.hid (S4.out.step hst)
  replace b : Below w.heap.size w w9 := bst b hst
  clear hst
  have SL := Lib.hid hS9
  have NSL := Lib.hid hN9
  clear hS9 hN9
  have dXa : ∀ i, w9.cell? ⟨w.heap.size, i, none⟩ = _ := Bx.cell Xa
  have eXa : ∀ i, w9.frozen? ⟨w.heap.size, i, none⟩ = false := Bx.frozen Xa
  have qXa := Bx.lt Xa
  have dXb : ∀ i, w9.cell? ⟨w.heap.size + 1, i, none⟩ = _ := Bx.cell Xb
  have eXb : ∀ i, w9.frozen? ⟨w.heap.size + 1, i, none⟩ = false := Bx.frozen Xb
  have qXb := Bx.lt Xb
  have dX4 : ∀ i, w9.cell? ⟨w8.heap.size, i, none⟩ = _ := Bx.cell X4
  have eX4 : ∀ i, w9.frozen? ⟨w8.heap.size, i, none⟩ = false := Bx.frozen X4
  have qX4 := Bx.lt X4
  go_wp2_with fail
  refine (mTake_any _ _ _ _ _ _ _ [(na : Int)] _ _ _ _ _ _ _ xs4 _ _ (SL.out.step (below1 _ _ )) (S4.out.step (below1 _ _ )) HL.out H5.out).mono ?_
  intro e w10 hR
  obtain ⟨A10, n10, c10, rfl, hS10, hN10, hst⟩ := RetA.flat hR
  clear hR
  clear dXa eXa qXa dXb eXb qXb dX4 eX4 qX4
  obtain ⟨XL, hst⟩ := after1 hst
  replace Xa := Bx.step Xa hst
  replace Xb := Bx.step Xb hst
  replace X4 := Bx.step X4 hst
  replace Sa := Lib.hid (Sa.out.step hst)
  replace Sb := Lib.hid (Sb.out.step hst)
  replace S4 := Lib.hid (S4.out.step hst)
  replace SL := Lib.hid (SL.out.step hst)
  replace b : Below w.heap.size w w10 := bst b hst
  clear hst
  have S5 := Lib.hid hS10
  have NS5 := Lib.hid hN10
  clear hS10 hN10
  have dXa : ∀ i, w10.cell? ⟨w.heap.size, i, none⟩ = _ := Bx.cell Xa
  have eXa : ∀ i, w10.frozen? ⟨w.heap.size, i, none⟩ = false := Bx.frozen Xa
  have qXa := Bx.lt Xa
  have dXb : ∀ i, w10.cell? ⟨w.heap.size + 1, i, none⟩ = _ := Bx.cell Xb
  have eXb : ∀ i, w10.frozen? ⟨w.heap.size + 1, i, none⟩ = false := Bx.frozen Xb
  have qXb := Bx.lt Xb
  have dX4 : ∀ i, w10.cell? ⟨w8.heap.size, i, none⟩ = _ := Bx.cell X4
  have eX4 : ∀ i, w10.frozen? ⟨w8.heap.size, i, none⟩ = false := Bx.frozen X4
  have qX4 := Bx.lt X4
  have dXL : ∀ i, w10.cell? ⟨w9.heap.size, i, none⟩ = _ := Bx.cell XL
  have eXL : ∀ i, w10.frozen? ⟨w9.heap.size, i, none⟩ = false := Bx.frozen XL
  have qXL := Bx.lt XL
  go_wp2_with fail
  refine (mDrop_any _ _ _ _ _ _ _ [(na : Int)] _ _ _ _ _ _ _ xs4 _ _ (SL.out.step (below1 _ _ )) (S4.out.step (below1 _ _ )) HL.out H6.out).mono ?_
  intro e w11 hR
  obtain ⟨A11, n11, c11, rfl, hS11, hN11, hst⟩ := RetA.flat hR
  clear hR
  clear dXa eXa qXa dXb eXb qXb dX4 eX4 qX4 dXL eXL qXL
  obtain ⟨X5, hst⟩ := after1 hst
  replace Xa := Bx.step Xa hst
  replace Xb := Bx.step Xb hst
  replace X4 := Bx.step X4 hst
  replace XL := Bx.step XL hst
  replace Sa := Lib.hid (Sa.out.step hst)
  replace Sb := Lib.hid (Sb.out.step hst)
  replace S4 := Lib.hid (S4.out.step hst)
  replace SL := Lib.hid (SL.out.step hst)
  replace S5 := Lib.hid (S5.out.step hst)
  replace b : Below w.heap.size w w11 := bst b hst
  clear hst
  have S6 := Lib.hid hS11
  have NS6 := Lib.hid hN11
  clear hS11 hN11
  have dXa : ∀ i, w11.cell? ⟨w.heap.size, i, none⟩ = _ := Bx.cell Xa
  have eXa : ∀ i, w11.frozen? ⟨w.heap.size, i, none⟩ = false := Bx.frozen Xa
  have qXa := Bx.lt Xa
  have dXb : ∀ i, w11.cell? ⟨w.heap.size + 1, i, none⟩ = _ := Bx.cell Xb
  have eXb : ∀ i, w11.frozen? ⟨w.heap.size + 1, i, none⟩ = false := Bx.frozen Xb
  have qXb := Bx.lt Xb
  have dX4 : ∀ i, w11.cell? ⟨w8.heap.size, i, none⟩ = _ := Bx.cell X4
  have eX4 : ∀ i, w11.frozen? ⟨w8.heap.size, i, none⟩ = false := Bx.frozen X4
  have qX4 := Bx.lt X4
  have dXL : ∀ i, w11.cell? ⟨w9.heap.size, i, none⟩ = _ := Bx.cell XL
  have eXL : ∀ i, w11.frozen? ⟨w9.heap.size, i, none⟩ = false := Bx.frozen XL
  have qXL := Bx.lt XL
  have dX5 : ∀ i, w11.cell? ⟨w10.heap.size, i, none⟩ = _ := Bx.cell X5
  have eX5 : ∀ i, w11.frozen? ⟨w10.heap.size, i, none⟩ = false := Bx.frozen X5
  have qX5 := Bx.lt X5
  go_wp2_with fail
  refine (is_true _ _ _ _ _ _ _ xsa _ _ _ _ (S5.out.step (below1 _ _ )) (Sa.out.step (below1 _ _ ))).mono ?_
  rintro e w12 ⟨rfl, hst⟩
  clear dXa eXa qXa dXb eXb qXb dX4 eX4 qX4 dXL eXL qXL dX5 eX5 qX5
  obtain ⟨X6, hst⟩ := after1 hst
  replace Xa := Bx.step Xa hst
  replace Xb := Bx.step Xb hst
  replace X4 := Bx.step X4 hst
  replace XL := Bx.step XL hst
  replace X5 := Bx.step X5 hst
  replace Sa := Lib.hid (Sa.out.step hst)
  replace Sb := Lib.hid (Sb.out.step hst)
  replace S4 := Lib.hid (S4.out.step hst)
  replace SL := Lib.hid (SL.out.step hst)
  replace S5 := Lib.hid (S5.out.step hst)
  replace S6 := Lib.hid (S6.out.step hst)
  replace b : Below w.heap.size w w12 := bst b hst
  clear hst
  have dXa : ∀ i, w12.cell? ⟨w.heap.size, i, none⟩ = _ := Bx.cell Xa
  have eXa : ∀ i, w12.frozen? ⟨w.heap.size, i, none⟩ = false := Bx.frozen Xa
  have qXa := Bx.lt Xa
  have dXb : ∀ i, w12.cell? ⟨w.heap.size + 1, i, none⟩ = _ := Bx.cell Xb
  have eXb : ∀ i, w12.frozen? ⟨w.heap.size + 1, i, none⟩ = false := Bx.frozen Xb
  have qXb := Bx.lt Xb
  have dX4 : ∀ i, w12.cell? ⟨w8.heap.size, i, none⟩ = _ := Bx.cell X4
  have eX4 : ∀ i, w12.frozen? ⟨w8.heap.size, i, none⟩ = false := Bx.frozen X4
  have qX4 := Bx.lt X4
  have dXL : ∀ i, w12.cell? ⟨w9.heap.size, i, none⟩ = _ := Bx.cell XL
  have eXL : ∀ i, w12.frozen? ⟨w9.heap.size, i, none⟩ = false := Bx.frozen XL
  have qXL := Bx.lt XL
  have dX5 : ∀ i, w12.cell? ⟨w10.heap.size, i, none⟩ = _ := Bx.cell X5
  have eX5 : ∀ i, w12.frozen? ⟨w10.heap.size, i, none⟩ = false := Bx.frozen X5
  have qX5 := Bx.lt X5
  have dX6 : ∀ i, w12.cell? ⟨w11.heap.size, i, none⟩ = _ := Bx.cell X6
  have eX6 : ∀ i, w12.frozen? ⟨w11.heap.size, i, none⟩ = false := Bx.frozen X6
  have qX6 := Bx.lt X6
  go_wp2_with fail
  refine (is_true _ _ _ _ _ _ _ xsb _ _ _ _ S6.out Sb.out).mono ?_
  rintro e w13 ⟨rfl, hst⟩
  clear dXa eXa qXa dXb eXb qXb dX4 eX4 qX4 dXL eXL qXL dX5 eX5 qX5 dX6 eX6 qX6
  replace Xa := Bx.step Xa hst
  replace Xb := Bx.step Xb hst
  replace X4 := Bx.step X4 hst
  replace XL := Bx.step XL hst
  replace X5 := Bx.step X5 hst
  replace X6 := Bx.step X6 hst
  replace Sa := Lib.hid (Sa.out.step hst)
  replace Sb := Lib.hid (Sb.out.step hst)
  replace S4 := Lib.hid (S4.out.step hst)
  replace SL := Lib.hid (SL.out.step hst)
  replace S5 := Lib.hid (S5.out.step hst)
  replace S6 := Lib.hid (S6.out.step hst)
  replace b : Below w.heap.size w w13 := bst b hst
  clear hst
  have dXa : ∀ i, w13.cell? ⟨w.heap.size, i, none⟩ = _ := Bx.cell Xa
  have eXa : ∀ i, w13.frozen? ⟨w.heap.size, i, none⟩ = false := Bx.frozen Xa
  have qXa := Bx.lt Xa
  have dXb : ∀ i, w13.cell? ⟨w.heap.size + 1, i, none⟩ = _ := Bx.cell Xb
  have eXb : ∀ i, w13.frozen? ⟨w.heap.size + 1, i, none⟩ = false := Bx.frozen Xb
  have qXb := Bx.lt Xb
  have dX4 : ∀ i, w13.cell? ⟨w8.heap.size, i, none⟩ = _ := Bx.cell X4
  have eX4 : ∀ i, w13.frozen? ⟨w8.heap.size, i, none⟩ = false := Bx.frozen X4
  have qX4 := Bx.lt X4
  have dXL : ∀ i, w13.cell? ⟨w9.heap.size, i, none⟩ = _ := Bx.cell XL
  have eXL : ∀ i, w13.frozen? ⟨w9.heap.size, i, none⟩ = false := Bx.frozen XL
  have qXL := Bx.lt XL
  have dX5 : ∀ i, w13.cell? ⟨w10.heap.size, i, none⟩ = _ := Bx.cell X5
  have eX5 : ∀ i, w13.frozen? ⟨w10.heap.size, i, none⟩ = false := Bx.frozen X5
  have qX5 := Bx.lt X5
  have dX6 : ∀ i, w13.cell? ⟨w11.heap.size, i, none⟩ = _ := Bx.cell X6
  have eX6 : ∀ i, w13.frozen? ⟨w11.heap.size, i, none⟩ = false := Bx.frozen X6
  have qX6 := Bx.lt X6
  go_wp2_with fail
  refine (awake_any _).mono ?_
  rintro e wz ⟨rfl, hbz⟩
  go_wp2
  go_ret
  exact ⟨rfl, bst b hbz⟩
set_option maxHeartbeats 16000000 in
theorem part_swap_bad (ka ra ua va : Int) (Aa : Option Addr) (na ca : Nat) (xsa : List Int) (kb rb ub vb : Int) (Ab : Option Addr) (nb cb : Nat) (xsb : List Int) (x : Int) (w : World) (hsa : Sl w Aa na ca xsa) (hsb : Sl w Ab nb cb xsb) (hfa : ¬ 405 < na) (hfb : ¬ 405 < nb) (hC : achk ka ra ua va xsa = 0) (hra : (ra != 1) = false) (hX : ∀ y ∈ [x], -9223372036854775808 ≤ y ∧ y ≤ 9223372036854775807) (hx : x < 0) (k1 r1 u1 v1 : Int) (xs1 : List Int) (k2 r2 u2 v2 : Int) (xs2 : List Int) (k4 r4 u4 v4 : Int) (xs4 : List Int) (e4 : Int)
    (h1 : sTake ⟨1, 0, 0, 0, [x]⟩ ⟨ka, ra, ua, va, xsa⟩ = (⟨k1, r1, u1, v1, xs1⟩, 0)) (h2 : sDrop ⟨1, 0, 0, 0, [x]⟩ ⟨ka, ra, ua, va, xsa⟩ = (⟨k2, r2, u2, v2, xs2⟩, 0)) (h3 : sCat ⟨k2, r2, u2, v2, xs2⟩ ⟨k1, r1, u1, v1, xs1⟩ = (⟨ka, ra, ua, va, xsa⟩, 0)) (h4 : sCat ⟨ka, ra, ua, va, xsa⟩ ⟨kb, rb, ub, vb, xsb⟩ = (⟨k4, r4, u4, v4, xs4⟩, e4)) (he4 : (e4 != 0) = true) :
    Calls Try.prog 7 #[.agg #[.int .i64 ka, .int .i64 ra, .int .i64 ua, .int .i64 va, .slice Aa na ca], .agg #[.int .i64 kb, .int .i64 rb, .int .i64 ub, .int .i64 vb, .slice Ab nb cb], .int .i64 x] w fun e w' => e = .returned (.bool true) ∧ Below w.heap.size w w' := by
  have Sa := Lib.hid hsa
  have Sb := Lib.hid hsb
  clear hsa hsb
  have HC := Lib.hid hC
  have HX := Lib.hid hX
  have H1 := Lib.hid h1
  have H2 := Lib.hid h2
  have H3 := Lib.hid h3
  have H4 := Lib.hid h4
  clear hC hX h1 h2 h3 h4
  go_enter Try.func7, Try.ntmps7
  go_wp2_with fail
  refine (far_any _ _ _ _ _ _ _ _).mono ?_
  rintro e w1 ⟨rfl, hst⟩
  obtain ⟨Xa, Xb, hst⟩ := after2 hst
  replace Sa := Lib.hid (Sa.out.step hst)
  replace Sb := Lib.hid (Sb.out.step hst)
  have b : Below w.heap.size w w1 := hst
  clear hst
  rw [decide_eq_false hfa]
  have dXa : ∀ i, w1.cell? ⟨w.heap.size, i, none⟩ = _ := Bx.cell Xa
  have eXa : ∀ i, w1.frozen? ⟨w.heap.size, i, none⟩ = false := Bx.frozen Xa
  have qXa := Bx.lt Xa
  have dXb : ∀ i, w1.cell? ⟨w.heap.size + 1, i, none⟩ = _ := Bx.cell Xb
  have eXb : ∀ i, w1.frozen? ⟨w.heap.size + 1, i, none⟩ = false := Bx.frozen Xb
  have qXb := Bx.lt Xb
  go_wp2_with fail
  refine (far_any _ _ _ _ _ _ _ _).mono ?_
  rintro e w2 ⟨rfl, hst⟩
  clear dXa eXa qXa dXb eXb qXb
  replace Xa := Bx.step Xa hst
  replace Xb := Bx.step Xb hst
  replace Sa := Lib.hid (Sa.out.step hst)
  replace Sb := Lib.hid (Sb.out.step hst)
  replace b : Below w.heap.size w w2 := bst b hst
  clear hst
  rw [decide_eq_false hfb]
  have dXa : ∀ i, w2.cell? ⟨w.heap.size, i, none⟩ = _ := Bx.cell Xa
  have eXa : ∀ i, w2.frozen? ⟨w.heap.size, i, none⟩ = false := Bx.frozen Xa
  have qXa := Bx.lt Xa
  have dXb : ∀ i, w2.cell? ⟨w.heap.size + 1, i, none⟩ = _ := Bx.cell Xb
  have eXb : ∀ i, w2.frozen? ⟨w.heap.size + 1, i, none⟩ = false := Bx.frozen Xb
  have qXb := Bx.lt Xb
  go_wp2_with fail
  refine (racheck_any _ _ _ _ _ _ _ xsa 0 _ Sa.out HC.out).mono ?_
  rintro e w3 ⟨rfl, hst⟩
  clear dXa eXa qXa dXb eXb qXb
  replace Xa := Bx.step Xa hst
  replace Xb := Bx.step Xb hst
  replace Sa := Lib.hid (Sa.out.step hst)
  replace Sb := Lib.hid (Sb.out.step hst)
  replace b : Below w.heap.size w w3 := bst b hst
  clear hst
  have dXa : ∀ i, w3.cell? ⟨w.heap.size, i, none⟩ = _ := Bx.cell Xa
  have eXa : ∀ i, w3.frozen? ⟨w.heap.size, i, none⟩ = false := Bx.frozen Xa
  have qXa := Bx.lt Xa
  have dXb : ∀ i, w3.cell? ⟨w.heap.size + 1, i, none⟩ = _ := Bx.cell Xb
  have eXb : ∀ i, w3.frozen? ⟨w.heap.size + 1, i, none⟩ = false := Bx.frozen Xb
  have qXb := Bx.lt Xb
  go_wp2_with fail
  have hlt := Bx.lt Xa
  go_cut [7, 8] from 37 to 43 (fun p e wx => ∃ (B : Nat) (A : Option Addr) (n c : Nat), p = .pointer (some ⟨B, 0, none⟩) ∧ e = .int .i64 0 ∧ Below w3.heap.size w3 wx ∧ Hid (Bx wx B #[.int .i64 k1, .int .i64 r1, .int .i64 u1, .int .i64 v1, .slice A n c] 25) ∧ Hid (Sl wx A n c xs1) ∧ w3.heap.size ≤ B ∧ Hid (New w3 A) ∧ Hid (0 < n → ∀ b o, A = some ⟨b, o, none⟩ → b ≠ B))
  case first =>
    have hS : ∀ u, Below w3.heap.size w3 u → ∀ i, u.cell? ⟨w.heap.size, i, none⟩ = #[.int .i64 ka, .int .i64 ra, .int .i64 ua, .int .i64 va, .slice Aa na ca][i]? := fun u h => Bx.cell (Bx.step Xa h)
    have P0 : Below w3.heap.size w3 w3.drew := bdr (Below.refl _ _)
    have P1 : Below w3.heap.size w3 (w3.alloc (.cells #[.int .i64 0, .int .i64 0, .int .i64 0, .int .i64 0, .slice none 0 0] 25)).drew := bdr (bal (Below.refl _ _) _)
    have N1 : Bx (w3.alloc (.cells #[.int .i64 0, .int .i64 0, .int .i64 0, .int .i64 0, .slice none 0 0] 25)).drew w3.heap.size #[.int .i64 0, .int .i64 0, .int .i64 0, .int .i64 0, .slice none 0 0] 25 := Bx.new w3 _ _
    have ne5 : w.heap.size ≠ w3.heap.size := by omega
    go_region_held3 (fun w' => ∀ i, w'.cell? ⟨w.heap.size, i, none⟩ = #[.int .i64 ka, .int .i64 ra, .int .i64 ua, .int .i64 va, .slice Aa na ca][i]?)
      (with_reducible first | exact hS _ P0 | exact hS _ P1 | exact hS _ P6 | exact hS _ P7 | exact hS _ (bst P6 P8) | exact hS _ (bal (bst P6 P8) _) | exact hS _ (below_set5' (bst P6 P8) (Nat.le_refl _) _ _ _ _ _) | exact hS _ (below_set5' (bst P6 P8) zz6 _ _ _ _ _))
      (first
        | (go_at_call 30; (with_reducible refine (int_any x _).mono ?_); rintro e u6 ⟨⟨Ai, ni, ci, rfl, hS6, hN6⟩, hb6⟩; have P6 : Below w3.heap.size w3 u6 := (by with_reducible first | exact bst P0 hb6 | exact bst P1 hb6); have P7 : Below w3.heap.size w3 (u6.alloc (.cells #[.int .i64 0, .int .i64 0, .int .i64 0, .int .i64 0, .slice none 0 0] 25)) := bal P6 _; have zz6 := P6.size; have ne6 : w.heap.size ≠ u6.heap.size := (by omega); have Q1 := Lib.hid (Sa.out.step P6); have Q6 := Lib.hid hS6; clear hS6 hN6; have P9 : Below u6.heap.size u6 (u6.alloc (.cells #[.int .i64 0, .int .i64 0, .int .i64 0, .int .i64 0, .slice none 0 0] 25)) := below1 _ _; have N2 : Bx (u6.alloc (.cells #[.int .i64 0, .int .i64 0, .int .i64 0, .int .i64 0, .slice none 0 0] 25)) u6.heap.size #[.int .i64 0, .int .i64 0, .int .i64 0, .int .i64 0, .slice none 0 0] 25 := Bx.new u6 _ _; (try (have M1 : Bx u6 (w3.heap.size) #[.int .i64 0, .int .i64 0, .int .i64 0, .int .i64 0, .slice none 0 0] 25 := (by with_reducible exact Bx.step N1 hb6))))
        | (go_at_call 13; (with_reducible first | refine (mTake_any _ _ _ _ _ _ _ [x] _ _ _ _ _ _ _ xsa (⟨k1, r1, u1, v1, xs1⟩, 0) u6 Q6.out Q1.out HX.out H1.out).mono ?_ | refine (mTake_any _ _ _ _ _ _ _ [x] _ _ _ _ _ _ _ xsa (⟨k1, r1, u1, v1, xs1⟩, 0) _ (Q6.out.step P9) (Q1.out.step P9) HX.out H1.out).mono ?_); intro e u7 hR; obtain ⟨Ar, nr, cr, rfl, hS7, hN7, hb7⟩ := RetA.flat hR; have P8 : Below u6.heap.size u6 u7 := (by with_reducible first | exact hb7 | exact bst P9 hb7); have zz7 := P8.size; (first | (have N8 : Bx u7 (w3.heap.size) #[.int .i64 0, .int .i64 0, .int .i64 0, .int .i64 0, .slice none 0 0] 25 := (by with_reducible exact Bx.step M1 hb7); have gB : ∀ i, u7.cell? ⟨w3.heap.size, i, none⟩ = _ := Bx.cell N8; have kB : ∀ i, u7.frozen? ⟨w3.heap.size, i, none⟩ = false := Bx.frozen N8) | (have N8 : Bx u7 (u6.heap.size) #[.int .i64 0, .int .i64 0, .int .i64 0, .int .i64 0, .slice none 0 0] 25 := (by with_reducible exact Bx.step N2 hb7); have gB : ∀ i, u7.cell? ⟨u6.heap.size, i, none⟩ = _ := Bx.cell N8; have kB : ∀ i, u7.frozen? ⟨u6.heap.size, i, none⟩ = false := Bx.frozen N8) | skip)))
    all_goals go_wp2_with fail
    all_goals go_meet
    · exact ⟨u7.heap.size, Ar, nr, cr, rfl, rfl, bst P6 (bst P8 (below1 _ _)), Lib.hid (Bx.new u7 _ _), Lib.hid (hS7.step (below1 _ _)), Nat.le_trans zz6 zz7, Lib.hid (hN7.mono zz6), Lib.hid (hS7.ne_lo (Nat.le_refl _))⟩
    · exact ⟨u6.heap.size, Ar, nr, cr, rfl, rfl, below_set5' (bst P6 P8) zz6 _ _ _ _ _, Lib.hid (Bx.set5 N8 _ _ _ _ _), Lib.hid (hS7.past5 _ _ _ _ _ fun b o e => by have := hN7 b o none e; rw [World.size_alloc] at this; omega), zz6, Lib.hid (hN7.mono (by rw [World.size_alloc]; omega)), Lib.hid (fun _ b o e => by have := hN7 b o none e; rw [World.size_alloc] at this; omega)⟩
    · exact ⟨w3.heap.size, Ar, nr, cr, rfl, rfl, below_set5' (bst P6 P8) (Nat.le_refl _) _ _ _ _ _, Lib.hid (Bx.set5 N8 _ _ _ _ _), Lib.hid (hS7.past5 _ _ _ _ _ fun b o e => by have := hN7 b o none e; have := M1.lt; omega), Nat.le_refl _, Lib.hid (hN7.mono zz6), Lib.hid (fun _ b o e => by have := hN7 b o none e; have := M1.lt; omega)⟩
  case rest =>
  obtain ⟨B4, A4, n4, c4, rfl, rfl, hst, HX, HS_, hB4, NS1, ne_S1_X1⟩ := hcut
  obtain ⟨w4, hw4⟩ : ∃ w4, wc = w4 := ⟨_, rfl⟩
  rw [hw4] at hst HX HS_
  rw [hw4]
  clear hlt hw4
  clear dXa eXa qXa dXb eXb qXb
  have hlo4 : ∀ B, B < w3.heap.size → B ≠ B4 := fun B h => by omega
  have nx_Xa_X1 := hlo4 _ (Bx.lt Xa)
  have nx_X1_Xa := Ne.symm nx_Xa_X1
  have nx_Xb_X1 := hlo4 _ (Bx.lt Xb)
  have nx_X1_Xb := Ne.symm nx_Xb_X1
  have ne_Sa_X1 := Lib.hid (Sa.out.ne_lo hB4)
  have ne_Sb_X1 := Lib.hid (Sb.out.ne_lo hB4)
  have ne_S1_Xa := Lib.hid (New.ne_hi (n := n4) NS1.out (Bx.lt Xa))
  have ne_S1_Xb := Lib.hid (New.ne_hi (n := n4) NS1.out (Bx.lt Xb))
  replace Xa := Bx.step Xa hst
  replace Xb := Bx.step Xb hst
  replace Sa := Lib.hid (Sa.out.step hst)
  replace Sb := Lib.hid (Sb.out.step hst)
  have zX1 : w.heap.size ≤ B4 := Nat.le_trans b.size hB4
  replace b := bst b hst
  have X1 := HX.out
  have S1 := HS_
  clear hst HX HS_
  have dXa : ∀ i, w4.cell? ⟨w.heap.size, i, none⟩ = _ := Bx.cell Xa
  have eXa : ∀ i, w4.frozen? ⟨w.heap.size, i, none⟩ = false := Bx.frozen Xa
  have qXa := Bx.lt Xa
  have dXb : ∀ i, w4.cell? ⟨w.heap.size + 1, i, none⟩ = _ := Bx.cell Xb
  have eXb : ∀ i, w4.frozen? ⟨w.heap.size + 1, i, none⟩ = false := Bx.frozen Xb
  have qXb := Bx.lt Xb
  have dX1 : ∀ i, w4.cell? ⟨B4, i, none⟩ = _ := Bx.cell X1
  have eX1 : ∀ i, w4.frozen? ⟨B4, i, none⟩ = false := Bx.frozen X1
  have qX1 := Bx.lt X1
  go_wp2_with fail
  have hlt := Bx.lt Xa
  go_cut [9, 10] from 44 to 50 (fun p e wx => ∃ (B : Nat) (A : Option Addr) (n c : Nat), p = .pointer (some ⟨B, 0, none⟩) ∧ e = .int .i64 0 ∧ Below w4.heap.size w4 wx ∧ Hid (Bx wx B #[.int .i64 k2, .int .i64 r2, .int .i64 u2, .int .i64 v2, .slice A n c] 25) ∧ Hid (Sl wx A n c xs2) ∧ w4.heap.size ≤ B ∧ Hid (New w4 A) ∧ Hid (0 < n → ∀ b o, A = some ⟨b, o, none⟩ → b ≠ B))
  case first =>
    have hS : ∀ u, Below w4.heap.size w4 u → ∀ i, u.cell? ⟨w.heap.size, i, none⟩ = #[.int .i64 ka, .int .i64 ra, .int .i64 ua, .int .i64 va, .slice Aa na ca][i]? := fun u h => Bx.cell (Bx.step Xa h)
    have P0 : Below w4.heap.size w4 w4.drew := bdr (Below.refl _ _)
    have P1 : Below w4.heap.size w4 (w4.alloc (.cells #[.int .i64 0, .int .i64 0, .int .i64 0, .int .i64 0, .slice none 0 0] 25)).drew := bdr (bal (Below.refl _ _) _)
    have N1 : Bx (w4.alloc (.cells #[.int .i64 0, .int .i64 0, .int .i64 0, .int .i64 0, .slice none 0 0] 25)).drew w4.heap.size #[.int .i64 0, .int .i64 0, .int .i64 0, .int .i64 0, .slice none 0 0] 25 := Bx.new w4 _ _
    have ne5 : w.heap.size ≠ w4.heap.size := by omega
    go_region_held3 (fun w' => ∀ i, w'.cell? ⟨w.heap.size, i, none⟩ = #[.int .i64 ka, .int .i64 ra, .int .i64 ua, .int .i64 va, .slice Aa na ca][i]?)
      (with_reducible first | exact hS _ P0 | exact hS _ P1 | exact hS _ P6 | exact hS _ P7 | exact hS _ (bst P6 P8) | exact hS _ (bal (bst P6 P8) _) | exact hS _ (below_set5' (bst P6 P8) (Nat.le_refl _) _ _ _ _ _) | exact hS _ (below_set5' (bst P6 P8) zz6 _ _ _ _ _))
      (first
        | (go_at_call 30; (with_reducible refine (int_any x _).mono ?_); rintro e u6 ⟨⟨Ai, ni, ci, rfl, hS6, hN6⟩, hb6⟩; have P6 : Below w4.heap.size w4 u6 := (by with_reducible first | exact bst P0 hb6 | exact bst P1 hb6); have P7 : Below w4.heap.size w4 (u6.alloc (.cells #[.int .i64 0, .int .i64 0, .int .i64 0, .int .i64 0, .slice none 0 0] 25)) := bal P6 _; have zz6 := P6.size; have ne6 : w.heap.size ≠ u6.heap.size := (by omega); have Q1 := Lib.hid (Sa.out.step P6); have Q6 := Lib.hid hS6; clear hS6 hN6; have P9 : Below u6.heap.size u6 (u6.alloc (.cells #[.int .i64 0, .int .i64 0, .int .i64 0, .int .i64 0, .slice none 0 0] 25)) := below1 _ _; have N2 : Bx (u6.alloc (.cells #[.int .i64 0, .int .i64 0, .int .i64 0, .int .i64 0, .slice none 0 0] 25)) u6.heap.size #[.int .i64 0, .int .i64 0, .int .i64 0, .int .i64 0, .slice none 0 0] 25 := Bx.new u6 _ _; (try (have M1 : Bx u6 (w4.heap.size) #[.int .i64 0, .int .i64 0, .int .i64 0, .int .i64 0, .slice none 0 0] 25 := (by with_reducible exact Bx.step N1 hb6))))
        | (go_at_call 15; (with_reducible first | refine (mDrop_any _ _ _ _ _ _ _ [x] _ _ _ _ _ _ _ xsa (⟨k2, r2, u2, v2, xs2⟩, 0) u6 Q6.out Q1.out HX.out H2.out).mono ?_ | refine (mDrop_any _ _ _ _ _ _ _ [x] _ _ _ _ _ _ _ xsa (⟨k2, r2, u2, v2, xs2⟩, 0) _ (Q6.out.step P9) (Q1.out.step P9) HX.out H2.out).mono ?_); intro e u7 hR; obtain ⟨Ar, nr, cr, rfl, hS7, hN7, hb7⟩ := RetA.flat hR; have P8 : Below u6.heap.size u6 u7 := (by with_reducible first | exact hb7 | exact bst P9 hb7); have zz7 := P8.size; (first | (have N8 : Bx u7 (w4.heap.size) #[.int .i64 0, .int .i64 0, .int .i64 0, .int .i64 0, .slice none 0 0] 25 := (by with_reducible exact Bx.step M1 hb7); have gB : ∀ i, u7.cell? ⟨w4.heap.size, i, none⟩ = _ := Bx.cell N8; have kB : ∀ i, u7.frozen? ⟨w4.heap.size, i, none⟩ = false := Bx.frozen N8) | (have N8 : Bx u7 (u6.heap.size) #[.int .i64 0, .int .i64 0, .int .i64 0, .int .i64 0, .slice none 0 0] 25 := (by with_reducible exact Bx.step N2 hb7); have gB : ∀ i, u7.cell? ⟨u6.heap.size, i, none⟩ = _ := Bx.cell N8; have kB : ∀ i, u7.frozen? ⟨u6.heap.size, i, none⟩ = false := Bx.frozen N8) | skip)))
    all_goals go_wp2_with fail
    all_goals go_meet
    · exact ⟨u7.heap.size, Ar, nr, cr, rfl, rfl, bst P6 (bst P8 (below1 _ _)), Lib.hid (Bx.new u7 _ _), Lib.hid (hS7.step (below1 _ _)), Nat.le_trans zz6 zz7, Lib.hid (hN7.mono zz6), Lib.hid (hS7.ne_lo (Nat.le_refl _))⟩
    · exact ⟨u6.heap.size, Ar, nr, cr, rfl, rfl, below_set5' (bst P6 P8) zz6 _ _ _ _ _, Lib.hid (Bx.set5 N8 _ _ _ _ _), Lib.hid (hS7.past5 _ _ _ _ _ fun b o e => by have := hN7 b o none e; rw [World.size_alloc] at this; omega), zz6, Lib.hid (hN7.mono (by rw [World.size_alloc]; omega)), Lib.hid (fun _ b o e => by have := hN7 b o none e; rw [World.size_alloc] at this; omega)⟩
    · exact ⟨w4.heap.size, Ar, nr, cr, rfl, rfl, below_set5' (bst P6 P8) (Nat.le_refl _) _ _ _ _ _, Lib.hid (Bx.set5 N8 _ _ _ _ _), Lib.hid (hS7.past5 _ _ _ _ _ fun b o e => by have := hN7 b o none e; have := M1.lt; omega), Nat.le_refl _, Lib.hid (hN7.mono zz6), Lib.hid (fun _ b o e => by have := hN7 b o none e; have := M1.lt; omega)⟩
  case rest =>
  obtain ⟨B5, A5, n5, c5, rfl, rfl, hst, HX, HS_, hB5, NS2, ne_S2_X2⟩ := hcut
  obtain ⟨w5, hw5⟩ : ∃ w5, wc = w5 := ⟨_, rfl⟩
  rw [hw5] at hst HX HS_
  rw [hw5]
  clear hlt hw5
  clear dXa eXa qXa dXb eXb qXb dX1 eX1 qX1
  have hlo5 : ∀ B, B < w4.heap.size → B ≠ B5 := fun B h => by omega
  have nx_Xa_X2 := hlo5 _ (Bx.lt Xa)
  have nx_X2_Xa := Ne.symm nx_Xa_X2
  have nx_Xb_X2 := hlo5 _ (Bx.lt Xb)
  have nx_X2_Xb := Ne.symm nx_Xb_X2
  have nx_X1_X2 := hlo5 _ (Bx.lt X1)
  have nx_X2_X1 := Ne.symm nx_X1_X2
  have ne_Sa_X2 := Lib.hid (Sa.out.ne_lo hB5)
  have ne_Sb_X2 := Lib.hid (Sb.out.ne_lo hB5)
  have ne_S1_X2 := Lib.hid (S1.out.ne_lo hB5)
  have ne_S2_Xa := Lib.hid (New.ne_hi (n := n5) NS2.out (Bx.lt Xa))
  have ne_S2_Xb := Lib.hid (New.ne_hi (n := n5) NS2.out (Bx.lt Xb))
  have ne_S2_X1 := Lib.hid (New.ne_hi (n := n5) NS2.out (Bx.lt X1))
  replace Xa := Bx.step Xa hst
  replace Xb := Bx.step Xb hst
  replace X1 := Bx.step X1 hst
  replace Sa := Lib.hid (Sa.out.step hst)
  replace Sb := Lib.hid (Sb.out.step hst)
  replace S1 := Lib.hid (S1.out.step hst)
  have zX2 : w.heap.size ≤ B5 := Nat.le_trans b.size hB5
  replace b := bst b hst
  have X2 := HX.out
  have S2 := HS_
  clear hst HX HS_
  have dXa : ∀ i, w5.cell? ⟨w.heap.size, i, none⟩ = _ := Bx.cell Xa
  have eXa : ∀ i, w5.frozen? ⟨w.heap.size, i, none⟩ = false := Bx.frozen Xa
  have qXa := Bx.lt Xa
  have dXb : ∀ i, w5.cell? ⟨w.heap.size + 1, i, none⟩ = _ := Bx.cell Xb
  have eXb : ∀ i, w5.frozen? ⟨w.heap.size + 1, i, none⟩ = false := Bx.frozen Xb
  have qXb := Bx.lt Xb
  have dX1 : ∀ i, w5.cell? ⟨B4, i, none⟩ = _ := Bx.cell X1
  have eX1 : ∀ i, w5.frozen? ⟨B4, i, none⟩ = false := Bx.frozen X1
  have qX1 := Bx.lt X1
  have dX2 : ∀ i, w5.cell? ⟨B5, i, none⟩ = _ := Bx.cell X2
  have eX2 : ∀ i, w5.frozen? ⟨B5, i, none⟩ = false := Bx.frozen X2
  have qX2 := Bx.lt X2
  go_wp2_with fail
  refine (mCat_any _ _ _ _ _ _ _ xs2 _ _ _ _ _ _ _ xs1 _ _ (Sl.past5z (Sl.past5z S2.out _ _ _ _ _ (ne_S2_X1).out) _ _ _ _ _ (ne_S2_X2).out) (Sl.past5z (Sl.past5z S1.out _ _ _ _ _ (ne_S1_X1).out) _ _ _ _ _ (ne_S1_X2).out) H3.out).mono ?_
  intro e w6 hR
  obtain ⟨A6, n6, c6, rfl, hS6, hN6, hst⟩ := RetA.flat hR
  clear hR
  clear dXa eXa qXa dXb eXb qXb dX1 eX1 qX1 dX2 eX2 qX2
  have hsz_X1 := zX1
  have hsz_X2 := zX2
  replace Xa := Bx.step (Bx.past5 (Bx.past5 Xa _ _ _ _ _ nx_Xa_X1) _ _ _ _ _ nx_Xa_X2) hst
  replace Xb := Bx.step (Bx.past5 (Bx.past5 Xb _ _ _ _ _ nx_Xb_X1) _ _ _ _ _ nx_Xb_X2) hst
  replace X1 := Bx.step (Bx.past5 (Bx.set5 X1 _ _ _ _ _) _ _ _ _ _ nx_X1_X2) hst
  replace X2 := Bx.step (Bx.set5 (Bx.past5 X2 _ _ _ _ _ nx_X2_X1) _ _ _ _ _) hst
  replace Sa := Lib.hid ((Sl.past5z (Sl.past5z Sa.out _ _ _ _ _ (ne_Sa_X1).out) _ _ _ _ _ (ne_Sa_X2).out).step hst)
  replace Sb := Lib.hid ((Sl.past5z (Sl.past5z Sb.out _ _ _ _ _ (ne_Sb_X1).out) _ _ _ _ _ (ne_Sb_X2).out).step hst)
  replace S1 := Lib.hid ((Sl.past5z (Sl.past5z S1.out _ _ _ _ _ (ne_S1_X1).out) _ _ _ _ _ (ne_S1_X2).out).step hst)
  replace S2 := Lib.hid ((Sl.past5z (Sl.past5z S2.out _ _ _ _ _ (ne_S2_X1).out) _ _ _ _ _ (ne_S2_X2).out).step hst)
  replace b : Below w.heap.size w w6 := bst (below_set5 (below_set5 b zX1 _ _ _ _ _) zX2 _ _ _ _ _) hst
  clear hst
  have S3 := Lib.hid hS6
  have NS3 := Lib.hid hN6
  clear hS6 hN6
  have dXa : ∀ i, w6.cell? ⟨w.heap.size, i, none⟩ = _ := Bx.cell Xa
  have eXa : ∀ i, w6.frozen? ⟨w.heap.size, i, none⟩ = false := Bx.frozen Xa
  have qXa := Bx.lt Xa
  have dXb : ∀ i, w6.cell? ⟨w.heap.size + 1, i, none⟩ = _ := Bx.cell Xb
  have eXb : ∀ i, w6.frozen? ⟨w.heap.size + 1, i, none⟩ = false := Bx.frozen Xb
  have qXb := Bx.lt Xb
  have dX1 : ∀ i, w6.cell? ⟨B4, i, none⟩ = _ := Bx.cell X1
  have eX1 : ∀ i, w6.frozen? ⟨B4, i, none⟩ = false := Bx.frozen X1
  have qX1 := Bx.lt X1
  have dX2 : ∀ i, w6.cell? ⟨B5, i, none⟩ = _ := Bx.cell X2
  have eX2 : ∀ i, w6.frozen? ⟨B5, i, none⟩ = false := Bx.frozen X2
  have qX2 := Bx.lt X2
  go_wp2_with fail
  refine (is_true _ _ _ _ _ _ _ xsa _ _ _ _ (S3.out.step (below1 _ _ )) (Sa.out.step (below1 _ _ ))).mono ?_
  rintro e w7 ⟨rfl, hst⟩
  clear dXa eXa qXa dXb eXb qXb dX1 eX1 qX1 dX2 eX2 qX2
  obtain ⟨X3, hst⟩ := after1 hst
  replace Xa := Bx.step Xa hst
  replace Xb := Bx.step Xb hst
  replace X1 := Bx.step X1 hst
  replace X2 := Bx.step X2 hst
  replace Sa := Lib.hid (Sa.out.step hst)
  replace Sb := Lib.hid (Sb.out.step hst)
  replace S1 := Lib.hid (S1.out.step hst)
  replace S2 := Lib.hid (S2.out.step hst)
  replace S3 := Lib.hid (S3.out.step hst)
  replace b : Below w.heap.size w w7 := bst b hst
  clear hst
  have dXa : ∀ i, w7.cell? ⟨w.heap.size, i, none⟩ = _ := Bx.cell Xa
  have eXa : ∀ i, w7.frozen? ⟨w.heap.size, i, none⟩ = false := Bx.frozen Xa
  have qXa := Bx.lt Xa
  have dXb : ∀ i, w7.cell? ⟨w.heap.size + 1, i, none⟩ = _ := Bx.cell Xb
  have eXb : ∀ i, w7.frozen? ⟨w.heap.size + 1, i, none⟩ = false := Bx.frozen Xb
  have qXb := Bx.lt Xb
  have dX1 : ∀ i, w7.cell? ⟨B4, i, none⟩ = _ := Bx.cell X1
  have eX1 : ∀ i, w7.frozen? ⟨B4, i, none⟩ = false := Bx.frozen X1
  have qX1 := Bx.lt X1
  have dX2 : ∀ i, w7.cell? ⟨B5, i, none⟩ = _ := Bx.cell X2
  have eX2 : ∀ i, w7.frozen? ⟨B5, i, none⟩ = false := Bx.frozen X2
  have qX2 := Bx.lt X2
  have dX3 : ∀ i, w7.cell? ⟨w6.heap.size, i, none⟩ = _ := Bx.cell X3
  have eX3 : ∀ i, w7.frozen? ⟨w6.heap.size, i, none⟩ = false := Bx.frozen X3
  have qX3 := Bx.lt X3
  go_wp2_with fail
  clear S1
  clear S2
  clear S3
  clear dX1 eX1 qX1
  clear X1
  clear dX2 eX2 qX2
  clear X2
  clear dX3 eX3 qX3
  clear X3
  refine (mCat_any _ _ _ _ _ _ _ xsa _ _ _ _ _ _ _ xsb _ _ Sa.out Sb.out H4.out).mono ?_
  intro e w8 hR
  obtain ⟨A8, n8, c8, rfl, hS8, hN8, hst⟩ := RetA.flat hR
  clear hR
  clear dXa eXa qXa dXb eXb qXb
  replace Xa := Bx.step Xa hst
  replace Xb := Bx.step Xb hst
  replace Sa := Lib.hid (Sa.out.step hst)
  replace Sb := Lib.hid (Sb.out.step hst)
  replace b : Below w.heap.size w w8 := bst b hst
  clear hst
  have S4 := Lib.hid hS8
  have NS4 := Lib.hid hN8
  clear hS8 hN8
  have dXa : ∀ i, w8.cell? ⟨w.heap.size, i, none⟩ = _ := Bx.cell Xa
  have eXa : ∀ i, w8.frozen? ⟨w.heap.size, i, none⟩ = false := Bx.frozen Xa
  have qXa := Bx.lt Xa
  have dXb : ∀ i, w8.cell? ⟨w.heap.size + 1, i, none⟩ = _ := Bx.cell Xb
  have eXb : ∀ i, w8.frozen? ⟨w.heap.size + 1, i, none⟩ = false := Bx.frozen Xb
  have qXb := Bx.lt Xb
  go_wp2_with fail
  refine (awake_any _).mono ?_
  rintro e wz ⟨rfl, hbz⟩
  go_wp2
  go_ret
  exact ⟨rfl, bst (bal b _) hbz⟩
end Go.Proofs.Ytoapgknkenlcgaa

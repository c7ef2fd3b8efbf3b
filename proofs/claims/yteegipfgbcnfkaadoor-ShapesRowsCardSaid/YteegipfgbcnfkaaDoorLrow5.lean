/-
  The law ShapesRows: its walk.
-/
import Derived.Test.YteegipfgbcnfkaaDoorAw5
import Derived.Test.YteegipfgbcnfkaaDoorLn
import Derived.Test.YteegipfgbcnfkaaDoorRwf
namespace Go.Proofs.YteegipfgbcnfkaaDoor
open Go.RowKit
attribute [local go_sem] Oper.semAt_some


set_option maxHeartbeats 2000000 in
theorem lawRows_far (rs s0 s1 : Int) (Al : Option Addr) (nl cl : Nat) (xsl : List Int) (w : World) (hsl : Sl w Al nl cl xsl) (hn : 10 < nl) :
    Calls Tryd.prog 9 #[.agg #[.int .i64 rs, .int .i64 s0, .int .i64 s1], .slice Al nl cl] w fun e w' => e = .returned (.bool true) ∧ Below w.heap.size w w' := by
  have hm := hsl.most
  have hc := hsl.cap
  have hn2 : (10 : Int) < (nl : Int) := by omega
  clear hsl
  go_enter Tryd.func9, Tryd.ntmps9
  go_wp2_with fail
  refine (awake5 _).mono ?_
  rintro e wz ⟨rfl, hbz⟩
  go_wp2
  go_ret
  exact ⟨rfl, bst (below1 _ _) hbz⟩
set_option maxHeartbeats 4000000 in
theorem lawRows_near (rs s0 s1 : Int) (Al : Option Addr) (nl cl : Nat) (xsl : List Int) (w : World) (hsl : Sl w Al nl cl xsl) (hn : nl ≤ 10) :
    Calls Tryd.prog 9 #[.agg #[.int .i64 rs, .int .i64 s0, .int .i64 s1], .slice Al nl cl] w fun e w' => e = .returned (.bool true) ∧ Below w.heap.size w w' := by
  obtain ⟨⟨x, y, ec⟩, h⟩ : ∃ R, sLens rs xsl = R := ⟨_, rfl⟩
  obtain ⟨⟨a, b', ed⟩, h2⟩ : ∃ R, sRows rs s0 s1 = R := ⟨_, rfl⟩
  obtain ⟨⟨u, v, ee⟩, h3⟩ : ∃ R, sFlipS rs s0 s1 = R := ⟨_, rfl⟩
  have HF := Lib.hid h
  have HG := Lib.hid h2
  have HH := Lib.hid h3
  have Sl_ := Lib.hid hsl
  have hm := hsl.most
  have hc := hsl.cap
  have hn2 : (nl : Int) ≤ 10 := by omega
  clear h h2 h3 hsl
  have hgu := guardLens
  have hqu := eqLens
  have hs1 : (x == x && y == y) = true := by simp
  have hs2 : (u == u && v == v) = true := by simp
  go_enter Tryd.func9, Tryd.ntmps9
  go_wp2_with fail
  refine (lens_any rs Al nl cl xsl x y ec _ (Sl_.out.step (below1 _ _ )) HF.out).mono ?_
  rintro e w1 ⟨rfl, hst⟩
  obtain ⟨Xs, hst⟩ := after1 hst
  replace Sl_ := Lib.hid (Sl_.out.step hst)
  have b : Below w.heap.size w w1 := hst
  clear hst
  have dXs : ∀ i, w1.cell? ⟨w.heap.size, i, none⟩ = _ := Bx.cell Xs
  have eXs : ∀ i, w1.frozen? ⟨w.heap.size, i, none⟩ = false := Bx.frozen Xs
  have qXs := Bx.lt Xs
  go_wp2_with fail
  refine (rlens_any rs Al nl cl xsl x y ec _ (Sl_.out.step (below1 _ _ )) HF.out).mono ?_
  rintro e w2 ⟨rfl, hst⟩
  clear dXs eXs qXs
  obtain ⟨X1, hst⟩ := after1 hst
  have nx_Xs_X1 : w.heap.size ≠ w1.heap.size := by have := Bx.lt Xs; omega
  have nx_X1_Xs := Ne.symm nx_Xs_X1
  have zX1 : w.heap.size ≤ w1.heap.size := by have := b.size; omega
  replace Xs := Bx.step Xs hst
  replace Sl_ := Lib.hid (Sl_.out.step hst)
  replace b : Below w.heap.size w w2 := bst b hst
  clear hst
  have dXs : ∀ i, w2.cell? ⟨w.heap.size, i, none⟩ = _ := Bx.cell Xs
  have eXs : ∀ i, w2.frozen? ⟨w.heap.size, i, none⟩ = false := Bx.frozen Xs
  have qXs := Bx.lt Xs
  have dX1 : ∀ i, w2.cell? ⟨w1.heap.size, i, none⟩ = _ := Bx.cell X1
  have eX1 : ∀ i, w2.frozen? ⟨w1.heap.size, i, none⟩ = false := Bx.frozen X1
  have qX1 := Bx.lt X1
  go_wp2_with fail
  refine (rows_any rs s0 s1 a b' ed _ HG.out).mono ?_
  rintro e w3 ⟨rfl, hst⟩
  clear dXs eXs qXs dX1 eX1 qX1
  obtain ⟨X2, hst⟩ := after1 hst
  have nx_Xs_X2 : w.heap.size ≠ w2.heap.size := by have := Bx.lt Xs; omega
  have nx_X2_Xs := Ne.symm nx_Xs_X2
  have nx_X1_X2 : w1.heap.size ≠ w2.heap.size := by have := Bx.lt X1; omega
  have nx_X2_X1 := Ne.symm nx_X1_X2
  have zX2 : w.heap.size ≤ w2.heap.size := by have := b.size; omega
  replace Xs := Bx.step Xs hst
  replace X1 := Bx.step X1 hst
  replace b : Below w.heap.size w w3 := bst b hst
  clear hst
  have dXs : ∀ i, w3.cell? ⟨w.heap.size, i, none⟩ = _ := Bx.cell Xs
  have eXs : ∀ i, w3.frozen? ⟨w.heap.size, i, none⟩ = false := Bx.frozen Xs
  have qXs := Bx.lt Xs
  have dX1 : ∀ i, w3.cell? ⟨w1.heap.size, i, none⟩ = _ := Bx.cell X1
  have eX1 : ∀ i, w3.frozen? ⟨w1.heap.size, i, none⟩ = false := Bx.frozen X1
  have qX1 := Bx.lt X1
  have dX2 : ∀ i, w3.cell? ⟨w2.heap.size, i, none⟩ = _ := Bx.cell X2
  have eX2 : ∀ i, w3.frozen? ⟨w2.heap.size, i, none⟩ = false := Bx.frozen X2
  have qX2 := Bx.lt X2
  go_wp2_with fail
  refine (rrows_any rs s0 s1 a b' ed _ HG.out).mono ?_
  rintro e w4 ⟨rfl, hst⟩
  clear dXs eXs qXs dX1 eX1 qX1 dX2 eX2 qX2
  replace Xs := Bx.step Xs hst
  replace X1 := Bx.step X1 hst
  replace X2 := Bx.step X2 hst
  replace b : Below w.heap.size w w4 := bst b hst
  clear hst
  have dXs : ∀ i, w4.cell? ⟨w.heap.size, i, none⟩ = _ := Bx.cell Xs
  have eXs : ∀ i, w4.frozen? ⟨w.heap.size, i, none⟩ = false := Bx.frozen Xs
  have qXs := Bx.lt Xs
  have dX1 : ∀ i, w4.cell? ⟨w1.heap.size, i, none⟩ = _ := Bx.cell X1
  have eX1 : ∀ i, w4.frozen? ⟨w1.heap.size, i, none⟩ = false := Bx.frozen X1
  have qX1 := Bx.lt X1
  have dX2 : ∀ i, w4.cell? ⟨w2.heap.size, i, none⟩ = _ := Bx.cell X2
  have eX2 : ∀ i, w4.frozen? ⟨w2.heap.size, i, none⟩ = false := Bx.frozen X2
  have qX2 := Bx.lt X2
  go_wp2_with fail
  refine (flip_any rs s0 s1 u v ee _ HH.out).mono ?_
  rintro e w5 ⟨rfl, hst⟩
  clear dXs eXs qXs dX1 eX1 qX1 dX2 eX2 qX2
  replace Xs := Bx.step Xs hst
  replace X1 := Bx.step X1 hst
  replace X2 := Bx.step X2 hst
  replace b : Below w.heap.size w w5 := bst b hst
  clear hst
  have dXs : ∀ i, w5.cell? ⟨w.heap.size, i, none⟩ = _ := Bx.cell Xs
  have eXs : ∀ i, w5.frozen? ⟨w.heap.size, i, none⟩ = false := Bx.frozen Xs
  have qXs := Bx.lt Xs
  have dX1 : ∀ i, w5.cell? ⟨w1.heap.size, i, none⟩ = _ := Bx.cell X1
  have eX1 : ∀ i, w5.frozen? ⟨w1.heap.size, i, none⟩ = false := Bx.frozen X1
  have qX1 := Bx.lt X1
  have dX2 : ∀ i, w5.cell? ⟨w2.heap.size, i, none⟩ = _ := Bx.cell X2
  have eX2 : ∀ i, w5.frozen? ⟨w2.heap.size, i, none⟩ = false := Bx.frozen X2
  have qX2 := Bx.lt X2
  go_wp2_with fail
  refine (rflip_any rs s0 s1 u v ee _ HH.out).mono ?_
  rintro e w6 ⟨rfl, hst⟩
  clear dXs eXs qXs dX1 eX1 qX1 dX2 eX2 qX2
  have hsz_X1 := zX1
  replace Xs := Bx.step (Bx.past2 Xs _ _ nx_Xs_X1) hst
  replace X1 := Bx.step (Bx.set2 X1 _ _ ) hst
  replace X2 := Bx.step (Bx.past2 X2 _ _ nx_X2_X1) hst
  replace b : Below w.heap.size w w6 := bst (below_set2 b zX1 _ _) hst
  clear hst
  have dXs : ∀ i, w6.cell? ⟨w.heap.size, i, none⟩ = _ := Bx.cell Xs
  have eXs : ∀ i, w6.frozen? ⟨w.heap.size, i, none⟩ = false := Bx.frozen Xs
  have qXs := Bx.lt Xs
  have dX1 : ∀ i, w6.cell? ⟨w1.heap.size, i, none⟩ = _ := Bx.cell X1
  have eX1 : ∀ i, w6.frozen? ⟨w1.heap.size, i, none⟩ = false := Bx.frozen X1
  have qX1 := Bx.lt X1
  have dX2 : ∀ i, w6.cell? ⟨w2.heap.size, i, none⟩ = _ := Bx.cell X2
  have eX2 : ∀ i, w6.frozen? ⟨w2.heap.size, i, none⟩ = false := Bx.frozen X2
  have qX2 := Bx.lt X2
  go_wp2_with fail
  refine (awake5 _).mono ?_
  rintro e wz ⟨rfl, hbz⟩
  go_wp2
  go_ret
  exact ⟨rfl, bst (below_set2 b zX2 _ _) hbz⟩
theorem lawRows (rs s0 s1 : Int) (Al : Option Addr) (nl cl : Nat) (xsl : List Int) (w : World) (hsl : Sl w Al nl cl xsl) :
    Calls Tryd.prog 9 #[.agg #[.int .i64 rs, .int .i64 s0, .int .i64 s1], .slice Al nl cl] w fun e w' => e = .returned (.bool true) ∧ Below w.heap.size w w' := by
  rcases Nat.lt_or_ge 10 nl with h | h
  · exact lawRows_far rs s0 s1 Al nl cl xsl w hsl h
  · exact lawRows_near rs s0 s1 Al nl cl xsl w hsl h
end Go.Proofs.YteegipfgbcnfkaaDoor

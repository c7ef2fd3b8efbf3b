/-
  The law FindsMembers: its walk.
-/
import Derived.Deep.CutRange
import Derived.Test.YtfbloddffhafdaaVec8
import Derived.Test.YtfbloddffhafdaaFok
import Derived.Test.YtfbloddffhafdaaFmb
import Derived.Test.YtfbloddffhafdaaRcv
namespace Go.Proofs.Ytfbloddffhafdaa
open Go.RowKit

theorem bdn2 {B : Nat} {w0 w : World} (h : Below B w0 w) (n : Nat) : Below B w0 (w.drewN n) := ⟨h.os, h.tape, h.output, h.size, h.block⟩
set_option maxRecDepth 100000 in
set_option maxHeartbeats 4000000 in
theorem members_big (k : Int) (Aa : Option Addr) (na ca : Nat) (xs : List Int) (Av : Option Addr) (nv cv : Nat) (ys : List Int) (Az : Option Addr) (nz cz : Nat) (zs : List Int) (w : World) (hsa : Sl w Aa na ca xs) (hsv : Sl w Av nv cv ys) (hsz : Sl w Az nz cz zs) (ha : achk k 1 (na : Int) 0 xs = 0) (hv : achk k 1 (nv : Int) 0 ys = 0) (hz : achk k 1 (nz : Int) 0 zs = 0) (hwa : ∀ x ∈ xs, -9223372036854775808 ≤ x ∧ x ≤ 9223372036854775807) (hwv : ∀ x ∈ ys, -9223372036854775808 ≤ x ∧ x ≤ 9223372036854775807) (hwz : ∀ x ∈ zs, -9223372036854775808 ≤ x ∧ x ≤ 9223372036854775807) (hbig : 400 < nv + nz) :
    Calls Try.prog 8 #[.agg #[.int .i64 k, .int .i64 1, .int .i64 (na : Int), .int .i64 0, .slice Aa na ca], .agg #[.int .i64 k, .int .i64 1, .int .i64 (nv : Int), .int .i64 0, .slice Av nv cv], .agg #[.int .i64 k, .int .i64 1, .int .i64 (nz : Int), .int .i64 0, .slice Az nz cz]] w fun e w' => e = .returned (.bool true) ∧ Below w.heap.size w w' := by
  have hl := hsa.len
  have hvl := hsv.len
  have hzl := hsz.len
  have hn : na ≤ 400 := by rw [← hl]; exact achk_len ha
  have hnv : nv ≤ 400 := by rw [← hvl]; exact achk_len hv
  have hnz : nz ≤ 400 := by rw [← hzl]; exact achk_len hz
  have Sa := Lib.hid hsa
  have Sv := Lib.hid hsv
  have Sz := Lib.hid hsz
  have HWa := Lib.hid hwa
  have HWv := Lib.hid hwv
  have HWz := Lib.hid hwz
  have HVa := Lib.hid (show isV k 1 (na : Int) 0 xs = true from decide_eq_true ⟨ha, rfl⟩)
  have HVv := Lib.hid (show isV k 1 (nv : Int) 0 ys = true from decide_eq_true ⟨hv, rfl⟩)
  have HVz := Lib.hid (show isV k 1 (nz : Int) 0 zs = true from decide_eq_true ⟨hz, rfl⟩)
  have HX := Lib.hid (show sFIn ⟨k, 1, (na : Int), 0, xs⟩ ⟨k, 1, (nv : Int), 0, ys⟩ = (⟨1, 1, (na : Int), 0, xs.map (isIn ys)⟩, 0) from sFIn_vec ha hv)
  have HY := Lib.hid (show sFIn ⟨k, 1, (na : Int), 0, xs⟩ ⟨k, 1, (nz : Int), 0, zs⟩ = (⟨1, 1, (na : Int), 0, xs.map (isIn zs)⟩, 0) from sFIn_vec ha hz)
  have LX := Lib.hid (show (xs.map (isIn ys)).length = na by rw [List.length_map, hl])
  have LY := Lib.hid (show (xs.map (isIn zs)).length = na by rw [List.length_map, hl])
  obtain ⟨q, hq⟩ : ∃ q, (keepL ys xs).length = q := ⟨_, rfl⟩
  have hqn : q ≤ na := by have := keepL_len_le ys xs; omega
  have hxc : achk 1 1 (na : Int) 0 (xs.map (isIn ys)) = 0 := ivec_mk' (by rw [List.length_map, hl]) hn
  have HP := Lib.hid (show sPick ⟨1, 1, (na : Int), 0, xs.map (isIn ys)⟩ ⟨k, 1, (na : Int), 0, xs⟩ = (⟨k, 1, (q : Int), 0, keepL ys xs⟩, 0) from by rw [sPick_vec hxc ha (by rw [List.length_map]), pick_keep, hq])
  have LP := Lib.hid hq
  have HL := Lib.hid hl
  have HVL := Lib.hid hvl
  have HQN := Lib.hid hqn
  have HCa := Lib.hid ha
  have HCv := Lib.hid hv
  have HCz := Lib.hid hz
  have HBG := Lib.hid hbig
  clear hbig
  have hnn : ((na : Int) != (na : Int)) = false := by simp
  have hkk : (k != k) = false := by simp
  have hke : (k == k) = true := by simp
  have HKE := Lib.hid hke
  clear hke hl hvl hzl hsa hsv hsz ha hv hz hwa hwv hwz hq hxc
  go_enter Try.func8, Try.ntmps8
  go_wp2_with fail
  refine (vec8_any k 1 (na : Int) 0 Aa na ca xs true _ (Sa.out.step (below3 _ _ _ _ )) HVa.out).mono ?_
  rintro e w1 ⟨rfl, hst⟩
  obtain ⟨Xa, Xv, Xz, hst⟩ := after3 hst
  replace Sa := Lib.hid (Sa.out.step hst)
  replace Sv := Lib.hid (Sv.out.step hst)
  replace Sz := Lib.hid (Sz.out.step hst)
  have b : Below w.heap.size w w1 := hst
  clear hst
  have dXa : ∀ i, w1.cell? ⟨w.heap.size, i, none⟩ = _ := Bx.cell Xa
  have eXa : ∀ i, w1.frozen? ⟨w.heap.size, i, none⟩ = false := Bx.frozen Xa
  have qXa := Bx.lt Xa
  have dXv : ∀ i, w1.cell? ⟨w.heap.size + 1, i, none⟩ = _ := Bx.cell Xv
  have eXv : ∀ i, w1.frozen? ⟨w.heap.size + 1, i, none⟩ = false := Bx.frozen Xv
  have qXv := Bx.lt Xv
  have dXz : ∀ i, w1.cell? ⟨w.heap.size + 1 + 1, i, none⟩ = _ := Bx.cell Xz
  have eXz : ∀ i, w1.frozen? ⟨w.heap.size + 1 + 1, i, none⟩ = false := Bx.frozen Xz
  have qXz := Bx.lt Xz
  go_wp2_with fail
  refine (vec8_any k 1 (nv : Int) 0 Av nv cv ys true _ Sv.out HVv.out).mono ?_
  rintro e w2 ⟨rfl, hst⟩
  clear dXa eXa qXa dXv eXv qXv dXz eXz qXz
  replace Xa := Bx.step Xa hst
  replace Xv := Bx.step Xv hst
  replace Xz := Bx.step Xz hst
  replace Sa := Lib.hid (Sa.out.step hst)
  replace Sv := Lib.hid (Sv.out.step hst)
  replace Sz := Lib.hid (Sz.out.step hst)
  replace b : Below w.heap.size w w2 := bst b hst
  clear hst
  have dXa : ∀ i, w2.cell? ⟨w.heap.size, i, none⟩ = _ := Bx.cell Xa
  have eXa : ∀ i, w2.frozen? ⟨w.heap.size, i, none⟩ = false := Bx.frozen Xa
  have qXa := Bx.lt Xa
  have dXv : ∀ i, w2.cell? ⟨w.heap.size + 1, i, none⟩ = _ := Bx.cell Xv
  have eXv : ∀ i, w2.frozen? ⟨w.heap.size + 1, i, none⟩ = false := Bx.frozen Xv
  have qXv := Bx.lt Xv
  have dXz : ∀ i, w2.cell? ⟨w.heap.size + 1 + 1, i, none⟩ = _ := Bx.cell Xz
  have eXz : ∀ i, w2.frozen? ⟨w.heap.size + 1 + 1, i, none⟩ = false := Bx.frozen Xz
  have qXz := Bx.lt Xz
  go_wp2_with fail
  refine (vec8_any k 1 (nz : Int) 0 Az nz cz zs true _ Sz.out HVz.out).mono ?_
  rintro e w3 ⟨rfl, hst⟩
  clear dXa eXa qXa dXv eXv qXv dXz eXz qXz
  replace Xa := Bx.step Xa hst
  replace Xv := Bx.step Xv hst
  replace Xz := Bx.step Xz hst
  replace Sa := Lib.hid (Sa.out.step hst)
  replace Sv := Lib.hid (Sv.out.step hst)
  replace Sz := Lib.hid (Sz.out.step hst)
  replace b : Below w.heap.size w w3 := bst b hst
  clear hst
  have dXa : ∀ i, w3.cell? ⟨w.heap.size, i, none⟩ = _ := Bx.cell Xa
  have eXa : ∀ i, w3.frozen? ⟨w.heap.size, i, none⟩ = false := Bx.frozen Xa
  have qXa := Bx.lt Xa
  have dXv : ∀ i, w3.cell? ⟨w.heap.size + 1, i, none⟩ = _ := Bx.cell Xv
  have eXv : ∀ i, w3.frozen? ⟨w.heap.size + 1, i, none⟩ = false := Bx.frozen Xv
  have qXv := Bx.lt Xv
  have dXz : ∀ i, w3.cell? ⟨w.heap.size + 1 + 1, i, none⟩ = _ := Bx.cell Xz
  have eXz : ∀ i, w3.frozen? ⟨w.heap.size + 1 + 1, i, none⟩ = false := Bx.frozen Xz
  have qXz := Bx.lt Xz
  go_wp2_with fail
  refine (fin_any k 1 (na : Int) 0 Aa na ca xs k 1 (nv : Int) 0 Av nv cv ys _ _ Sa.out Sv.out HWa.out HWv.out HX.out).mono ?_
  intro e w4 hR
  obtain ⟨A4, n4, c4, rfl, hS4, hN4, hst⟩ := RetA.flat hR
  clear hR
  clear dXa eXa qXa dXv eXv qXv dXz eXz qXz
  replace Xa := Bx.step Xa hst
  replace Xv := Bx.step Xv hst
  replace Xz := Bx.step Xz hst
  replace Sa := Lib.hid (Sa.out.step hst)
  replace Sv := Lib.hid (Sv.out.step hst)
  replace Sz := Lib.hid (Sz.out.step hst)
  replace b : Below w.heap.size w w4 := bst b hst
  clear hst
  have Sx := Lib.hid hS4
  have NSx := Lib.hid hN4
  clear hS4 hN4
  obtain rfl : na = n4 := LX.out.symm.trans Sx.out.len
  have dXa : ∀ i, w4.cell? ⟨w.heap.size, i, none⟩ = _ := Bx.cell Xa
  have eXa : ∀ i, w4.frozen? ⟨w.heap.size, i, none⟩ = false := Bx.frozen Xa
  have qXa := Bx.lt Xa
  have dXv : ∀ i, w4.cell? ⟨w.heap.size + 1, i, none⟩ = _ := Bx.cell Xv
  have eXv : ∀ i, w4.frozen? ⟨w.heap.size + 1, i, none⟩ = false := Bx.frozen Xv
  have qXv := Bx.lt Xv
  have dXz : ∀ i, w4.cell? ⟨w.heap.size + 1 + 1, i, none⟩ = _ := Bx.cell Xz
  have eXz : ∀ i, w4.frozen? ⟨w.heap.size + 1 + 1, i, none⟩ = false := Bx.frozen Xz
  have qXz := Bx.lt Xz
  go_wp2_with fail
  refine (fin_any k 1 (na : Int) 0 Aa na ca xs k 1 (nz : Int) 0 Az nz cz zs _ _ (Sa.out.step (below1 _ _ )) (Sz.out.step (below1 _ _ )) HWa.out HWz.out HY.out).mono ?_
  intro e w5 hR
  obtain ⟨A5, n5, c5, rfl, hS5, hN5, hst⟩ := RetA.flat hR
  clear hR
  clear dXa eXa qXa dXv eXv qXv dXz eXz qXz
  obtain ⟨Xx, hst⟩ := after1 hst
  replace Xa := Bx.step Xa hst
  replace Xv := Bx.step Xv hst
  replace Xz := Bx.step Xz hst
  replace Sa := Lib.hid (Sa.out.step hst)
  replace Sv := Lib.hid (Sv.out.step hst)
  replace Sz := Lib.hid (Sz.out.step hst)
  replace Sx := Lib.hid (Sx.out.step hst)
  replace b : Below w.heap.size w w5 := bst b hst
  clear hst
  have Sy := Lib.hid hS5
  have NSy := Lib.hid hN5
  clear hS5 hN5
  obtain rfl : na = n5 := LY.out.symm.trans Sy.out.len
  have dXa : ∀ i, w5.cell? ⟨w.heap.size, i, none⟩ = _ := Bx.cell Xa
  have eXa : ∀ i, w5.frozen? ⟨w.heap.size, i, none⟩ = false := Bx.frozen Xa
  have qXa := Bx.lt Xa
  have dXv : ∀ i, w5.cell? ⟨w.heap.size + 1, i, none⟩ = _ := Bx.cell Xv
  have eXv : ∀ i, w5.frozen? ⟨w.heap.size + 1, i, none⟩ = false := Bx.frozen Xv
  have qXv := Bx.lt Xv
  have dXz : ∀ i, w5.cell? ⟨w.heap.size + 1 + 1, i, none⟩ = _ := Bx.cell Xz
  have eXz : ∀ i, w5.frozen? ⟨w.heap.size + 1 + 1, i, none⟩ = false := Bx.frozen Xz
  have qXz := Bx.lt Xz
  have dXx : ∀ i, w5.cell? ⟨w4.heap.size, i, none⟩ = _ := Bx.cell Xx
  have eXx : ∀ i, w5.frozen? ⟨w4.heap.size, i, none⟩ = false := Bx.frozen Xx
  have qXx := Bx.lt Xx
  go_wp2_with fail
  refine (rcatv_big k (nv : Int) 0 Av nv cv ys (nz : Int) 0 Az nz cz zs _ _ (Sv.out.step (below1 _ _ )) (Sz.out.step (below1 _ _ )) HCv.out HCz.out HBG.out rfl).mono ?_
  intro e w6 hR
  obtain ⟨A6, n6, c6, rfl, hS6, hN6, hst⟩ := RetA.flat hR
  clear hR
  clear dXa eXa qXa dXv eXv qXv dXz eXz qXz dXx eXx qXx
  obtain ⟨Xy, hst⟩ := after1 hst
  replace Xa := Bx.step Xa hst
  replace Xv := Bx.step Xv hst
  replace Xz := Bx.step Xz hst
  replace Xx := Bx.step Xx hst
  replace Sa := Lib.hid (Sa.out.step hst)
  replace Sv := Lib.hid (Sv.out.step hst)
  replace Sz := Lib.hid (Sz.out.step hst)
  replace Sx := Lib.hid (Sx.out.step hst)
  replace Sy := Lib.hid (Sy.out.step hst)
  replace b : Below w.heap.size w w6 := bst b hst
  clear hst
  have Sb := Lib.hid hS6
  have NSb := Lib.hid hN6
  clear hS6 hN6
  obtain rfl : n6 = 0 := Sb.out.len.symm
  have dXa : ∀ i, w6.cell? ⟨w.heap.size, i, none⟩ = _ := Bx.cell Xa
  have eXa : ∀ i, w6.frozen? ⟨w.heap.size, i, none⟩ = false := Bx.frozen Xa
  have qXa := Bx.lt Xa
  have dXv : ∀ i, w6.cell? ⟨w.heap.size + 1, i, none⟩ = _ := Bx.cell Xv
  have eXv : ∀ i, w6.frozen? ⟨w.heap.size + 1, i, none⟩ = false := Bx.frozen Xv
  have qXv := Bx.lt Xv
  have dXz : ∀ i, w6.cell? ⟨w.heap.size + 1 + 1, i, none⟩ = _ := Bx.cell Xz
  have eXz : ∀ i, w6.frozen? ⟨w.heap.size + 1 + 1, i, none⟩ = false := Bx.frozen Xz
  have qXz := Bx.lt Xz
  have dXx : ∀ i, w6.cell? ⟨w4.heap.size, i, none⟩ = _ := Bx.cell Xx
  have eXx : ∀ i, w6.frozen? ⟨w4.heap.size, i, none⟩ = false := Bx.frozen Xx
  have qXx := Bx.lt Xx
  have dXy : ∀ i, w6.cell? ⟨w5.heap.size, i, none⟩ = _ := Bx.cell Xy
  have eXy : ∀ i, w6.frozen? ⟨w5.heap.size, i, none⟩ = false := Bx.frozen Xy
  have qXy := Bx.lt Xy
  go_wp2_with fail
  refine (fpick_any 1 1 (na : Int) 0 A4 na c4 (xs.map (isIn ys)) k 1 (na : Int) 0 Aa na ca xs _ _ (Sx.out.step (below1 _ _ )) (Sa.out.step (below1 _ _ )) HP.out).mono ?_
  intro e w7 hR
  obtain ⟨A7, n7, c7, rfl, hS7, hN7, hst⟩ := RetA.flat hR
  clear hR
  clear dXa eXa qXa dXv eXv qXv dXz eXz qXz dXx eXx qXx dXy eXy qXy
  obtain ⟨Xb, hst⟩ := after1 hst
  replace Xa := Bx.step Xa hst
  replace Xv := Bx.step Xv hst
  replace Xz := Bx.step Xz hst
  replace Xx := Bx.step Xx hst
  replace Xy := Bx.step Xy hst
  replace Sa := Lib.hid (Sa.out.step hst)
  replace Sv := Lib.hid (Sv.out.step hst)
  replace Sz := Lib.hid (Sz.out.step hst)
  replace Sx := Lib.hid (Sx.out.step hst)
  replace Sy := Lib.hid (Sy.out.step hst)
  replace Sb := Lib.hid (Sb.out.step hst)
  replace b : Below w.heap.size w w7 := bst b hst
  clear hst
  have Sp := Lib.hid hS7
  have NSp := Lib.hid hN7
  clear hS7 hN7
  obtain rfl : q = n7 := LP.out.symm.trans Sp.out.len
  have dXa : ∀ i, w7.cell? ⟨w.heap.size, i, none⟩ = _ := Bx.cell Xa
  have eXa : ∀ i, w7.frozen? ⟨w.heap.size, i, none⟩ = false := Bx.frozen Xa
  have qXa := Bx.lt Xa
  have dXv : ∀ i, w7.cell? ⟨w.heap.size + 1, i, none⟩ = _ := Bx.cell Xv
  have eXv : ∀ i, w7.frozen? ⟨w.heap.size + 1, i, none⟩ = false := Bx.frozen Xv
  have qXv := Bx.lt Xv
  have dXz : ∀ i, w7.cell? ⟨w.heap.size + 1 + 1, i, none⟩ = _ := Bx.cell Xz
  have eXz : ∀ i, w7.frozen? ⟨w.heap.size + 1 + 1, i, none⟩ = false := Bx.frozen Xz
  have qXz := Bx.lt Xz
  have dXx : ∀ i, w7.cell? ⟨w4.heap.size, i, none⟩ = _ := Bx.cell Xx
  have eXx : ∀ i, w7.frozen? ⟨w4.heap.size, i, none⟩ = false := Bx.frozen Xx
  have qXx := Bx.lt Xx
  have dXy : ∀ i, w7.cell? ⟨w5.heap.size, i, none⟩ = _ := Bx.cell Xy
  have eXy : ∀ i, w7.frozen? ⟨w5.heap.size, i, none⟩ = false := Bx.frozen Xy
  have qXy := Bx.lt Xy
  have dXb : ∀ i, w7.cell? ⟨w6.heap.size, i, none⟩ = _ := Bx.cell Xb
  have eXb : ∀ i, w7.frozen? ⟨w6.heap.size, i, none⟩ = false := Bx.frozen Xb
  have qXb := Bx.lt Xb
  go_upto_if 142 with fail
  have Xp := Bx.new w7 #[.int .i64 k, .int .i64 1, .int .i64 (q : Int), .int .i64 0, .slice A7 q c7] 25
  have hst := below1 w7 (.cells #[.int .i64 k, .int .i64 1, .int .i64 (q : Int), .int .i64 0, .slice A7 q c7] 25)
  obtain ⟨w8, hw_⟩ : ∃ w8, w7.alloc (.cells #[.int .i64 k, .int .i64 1, .int .i64 (q : Int), .int .i64 0, .slice A7 q c7] 25) = w8 := ⟨_, rfl⟩
  rw [hw_] at Xp hst
  rw [hw_]
  clear hw_
  clear dXa eXa qXa dXv eXv qXv dXz eXz qXz dXx eXx qXx dXy eXy qXy dXb eXb qXb
  replace Xa := Bx.step Xa hst
  replace Xv := Bx.step Xv hst
  replace Xz := Bx.step Xz hst
  replace Xx := Bx.step Xx hst
  replace Xy := Bx.step Xy hst
  replace Xb := Bx.step Xb hst
  replace Sa := Lib.hid (Sa.out.step hst)
  replace Sv := Lib.hid (Sv.out.step hst)
  replace Sz := Lib.hid (Sz.out.step hst)
  replace Sx := Lib.hid (Sx.out.step hst)
  replace Sy := Lib.hid (Sy.out.step hst)
  replace Sb := Lib.hid (Sb.out.step hst)
  replace Sp := Lib.hid (Sp.out.step hst)
  replace b := bst b hst
  clear hst
  have dXa : ∀ i, w8.cell? ⟨w.heap.size, i, none⟩ = _ := Bx.cell Xa
  have eXa : ∀ i, w8.frozen? ⟨w.heap.size, i, none⟩ = false := Bx.frozen Xa
  have qXa := Bx.lt Xa
  have dXv : ∀ i, w8.cell? ⟨w.heap.size + 1, i, none⟩ = _ := Bx.cell Xv
  have eXv : ∀ i, w8.frozen? ⟨w.heap.size + 1, i, none⟩ = false := Bx.frozen Xv
  have qXv := Bx.lt Xv
  have dXz : ∀ i, w8.cell? ⟨w.heap.size + 1 + 1, i, none⟩ = _ := Bx.cell Xz
  have eXz : ∀ i, w8.frozen? ⟨w.heap.size + 1 + 1, i, none⟩ = false := Bx.frozen Xz
  have qXz := Bx.lt Xz
  have dXx : ∀ i, w8.cell? ⟨w4.heap.size, i, none⟩ = _ := Bx.cell Xx
  have eXx : ∀ i, w8.frozen? ⟨w4.heap.size, i, none⟩ = false := Bx.frozen Xx
  have qXx := Bx.lt Xx
  have dXy : ∀ i, w8.cell? ⟨w5.heap.size, i, none⟩ = _ := Bx.cell Xy
  have eXy : ∀ i, w8.frozen? ⟨w5.heap.size, i, none⟩ = false := Bx.frozen Xy
  have qXy := Bx.lt Xy
  have dXb : ∀ i, w8.cell? ⟨w6.heap.size, i, none⟩ = _ := Bx.cell Xb
  have eXb : ∀ i, w8.frozen? ⟨w6.heap.size, i, none⟩ = false := Bx.frozen Xb
  have qXb := Bx.lt Xb
  have dXp : ∀ i, w8.cell? ⟨w7.heap.size, i, none⟩ = _ := Bx.cell Xp
  have eXp : ∀ i, w8.frozen? ⟨w7.heap.size, i, none⟩ = false := Bx.frozen Xp
  have qXp := Bx.lt Xp
  go_wp2_with fail
  clear dXa eXa qXa dXv eXv qXv dXz eXz qXz dXx eXx qXx dXy eXy qXy dXb eXb qXb dXp eXp qXp
  go_loopw [18, 19, 20, 21] (fun t i _ _ wr => ∃ j T : Nat, i = .int .i64 j ∧ t = .int .i64 T ∧ j ≤ na ∧ T ≤ j ∧ Hid ((keepL ys (xs.take j)).length = T) ∧ Below w8.heap.size w8 wr) (fun _ i _ _ _ => na - (intOf i).toNat)
  case atStart => exact ⟨0, 0, rfl, rfl, Nat.zero_le _, Nat.le_refl _, Lib.hid (by simp [keepL]), Below.refl _ _⟩
  case round =>
    obtain ⟨j, T, rfl, rfl, hj, hTj, HT, hbl⟩ := hrel
    have dXa : ∀ i, wr.cell? ⟨w.heap.size, i, none⟩ = _ := Bx.cell (Bx.step Xa hbl)
    by_cases hlt : j < na
    · have k0 : (0 : Int) ≤ (j : Int) := by omega
      have k1 : (j : Int) < (na : Int) := by omega
      obtain ⟨ab, ao, haA, hal, ha0⟩ := Sa.out.at_ hlt
      obtain ⟨x, hx⟩ : ∃ x, xs.getD j 0 = x := ⟨_, rfl⟩
      rw [hx] at ha0
      have HX1 := Lib.hid hx
      have HAA := Lib.hid haA
      clear hx haA
      go_wp2
      clear dXa
      go_loopw [20, 21] (fun f i wr => ∃ (h : Nat) (F : Bool), i = .int .i64 h ∧ f = .bool F ∧ h ≤ nv ∧ Hid ((ys.take h).elem x = F) ∧ Below w8.heap.size w8 wr) (fun _ i _ => nv - (intOf i).toNat)
      case atStart => exact ⟨0, false, rfl, rfl, Nat.zero_le _, Lib.hid rfl, hbl⟩
      case round =>
        clear hbl
        obtain ⟨h, F, rfl, rfl, hh, HF, hbl⟩ := hrel
        have dXa : ∀ i, wr.cell? ⟨w.heap.size, i, none⟩ = _ := Bx.cell (Bx.step Xa hbl)
        have dXv : ∀ i, wr.cell? ⟨w.heap.size + 1, i, none⟩ = _ := Bx.cell (Bx.step Xv hbl)
        by_cases hlt2 : h < nv
        · have h0 : (0 : Int) ≤ (h : Int) := by omega
          have h1 : (h : Int) < (nv : Int) := by omega
          obtain ⟨vb, vo, hvA, hvl, hv0⟩ := Sv.out.at_ hlt2
          have hes := elem_snoc (ys := ys) (n := h) (by rw [HVL.out]; exact hlt2) x
          obtain ⟨y, hy⟩ : ∃ y, ys.getD h 0 = y := ⟨_, rfl⟩
          rw [hy] at hv0 hes
          rw [HF.out] at hes
          have hv1 := (hbl.cell (p := ⟨vb, vo + h, none⟩) hvl).trans hv0
          have ha1 := (hbl.cell (p := ⟨ab, ao + j, none⟩) hal).trans ha0
          rw [HAA.out] at dXa
          rw [hvA] at dXv
          clear hvA hv0 hy
          cases F with
          | true =>
            have HES := Lib.hid hes
            clear hes
            go_wp2_with fail
            go_quiet (fail)
            go_wp2
            exact ⟨⟨h + 1, true, rfl, rfl, by omega, Lib.hid HES.out, bdn2 hbl nq⟩, by simp only [intOf]; omega⟩
          | false =>
            by_cases hxy : x = y
            · have hb1 : (y == x) = true := by simpa using hxy.symm
              have HES := Lib.hid (hes.trans (by rw [hxy]; simp : (false || x == y) = true))
              clear hes hxy
              go_wp2_with fail
              go_quiet (fail)
              go_wp2
              exact ⟨⟨h + 1, true, rfl, rfl, by omega, Lib.hid HES.out, bdn2 hbl nq⟩, by simp only [intOf]; omega⟩
            · have hb1 : (y == x) = false := by simpa using fun g => hxy g.symm
              have HES := Lib.hid (hes.trans (by simpa using hxy : (false || x == y) = false))
              clear hes hxy
              go_wp2_with fail
              go_quiet (fail)
              go_wp2
              exact ⟨⟨h + 1, false, rfl, rfl, by omega, Lib.hid HES.out, bdn2 hbl nq⟩, by simp only [intOf]; omega⟩
        · obtain rfl : nv = h := by omega
          have hff := HF.out
          rw [List.take_of_length_le (by rw [HVL.out]; exact Nat.le_refl _)] at hff
          have hj2 : j < xs.length := by rw [HL.out]; exact hlt
          cases F with
          | false =>
            have hko := keepL_out (ys := ys) hj2 (by rw [HX1.out]; exact hff)
            have HKO := Lib.hid hko
            clear hko hff hj2
            go_wp2
            exact ⟨⟨j + 1, T, rfl, rfl, by omega, by omega, Lib.hid (by rw [HKO.out]; exact HT.out), hbl⟩, by simp only [intOf]; omega⟩
          | true =>
            obtain ⟨hk1, hk2, hk3⟩ := keepL_in (ys := ys) hj2 (by rw [HX1.out]; exact hff)
            rw [HT.out, LP.out] at hk1
            rw [HT.out, HX1.out] at hk2
            rw [HT.out] at hk3
            obtain ⟨pb, po, hpA, hpl, hp0⟩ := Sp.out.at_ hk1
            rw [hk2] at hp0
            have hp1 := (hbl.cell (p := ⟨pb, po + T, none⟩) hpl).trans hp0
            have ha1 := (hbl.cell (p := ⟨ab, ao + j, none⟩) hal).trans ha0
            have dXp : ∀ i, wr.cell? ⟨w7.heap.size, i, none⟩ = _ := Bx.cell (Bx.step Xp hbl)
            rw [HAA.out] at dXa
            rw [hpA] at dXp
            have t0 : (0 : Int) ≤ (T : Int) := by omega
            have t1 : (T : Int) < (q : Int) := by omega
            have t2 : decide ((q : Int) ≤ (T : Int)) = false := decide_eq_false (by omega)
            have t3 : decide (q ≤ T) = false := decide_eq_false (by omega)
            have hxx : (x != x) = false := by simp
            have HK3 := Lib.hid hk3
            clear hpA hp0 hk1 hk2 hk3 hff hj2
            go_wp2_with fail
            go_quiet (fail)
            go_wp2
            exact ⟨⟨j + 1, T + 1, rfl, rfl, by omega, by omega, Lib.hid HK3.out, bdn2 hbl nq⟩, by simp only [intOf]; omega⟩
    · obtain rfl : na = j := by omega
      have hTT := HT.out
      rw [List.take_of_length_le (by rw [HL.out]; exact Nat.le_refl _)] at hTT
      obtain rfl : q = T := LP.out.symm.trans hTT
      have hke := HKE.out
      clear hTT hlt dXa
      obtain ⟨w60, hw_⟩ : ∃ w60, wr = w60 := ⟨_, rfl⟩
      rw [hw_] at hbl
      rw [hw_]
      clear hw_
      have hst := hbl
      replace Xa := Bx.step Xa hst
      replace Xv := Bx.step Xv hst
      replace Xz := Bx.step Xz hst
      replace Xx := Bx.step Xx hst
      replace Xy := Bx.step Xy hst
      replace Xb := Bx.step Xb hst
      replace Xp := Bx.step Xp hst
      replace Sa := Lib.hid (Sa.out.step hst)
      replace Sv := Lib.hid (Sv.out.step hst)
      replace Sz := Lib.hid (Sz.out.step hst)
      replace Sx := Lib.hid (Sx.out.step hst)
      replace Sy := Lib.hid (Sy.out.step hst)
      replace Sb := Lib.hid (Sb.out.step hst)
      replace Sp := Lib.hid (Sp.out.step hst)
      replace b := bst b hst
      clear hst hbl
      have dXa : ∀ i, w60.cell? ⟨w.heap.size, i, none⟩ = _ := Bx.cell Xa
      have eXa : ∀ i, w60.frozen? ⟨w.heap.size, i, none⟩ = false := Bx.frozen Xa
      have qXa := Bx.lt Xa
      have dXv : ∀ i, w60.cell? ⟨w.heap.size + 1, i, none⟩ = _ := Bx.cell Xv
      have eXv : ∀ i, w60.frozen? ⟨w.heap.size + 1, i, none⟩ = false := Bx.frozen Xv
      have qXv := Bx.lt Xv
      have dXz : ∀ i, w60.cell? ⟨w.heap.size + 1 + 1, i, none⟩ = _ := Bx.cell Xz
      have eXz : ∀ i, w60.frozen? ⟨w.heap.size + 1 + 1, i, none⟩ = false := Bx.frozen Xz
      have qXz := Bx.lt Xz
      have dXx : ∀ i, w60.cell? ⟨w4.heap.size, i, none⟩ = _ := Bx.cell Xx
      have eXx : ∀ i, w60.frozen? ⟨w4.heap.size, i, none⟩ = false := Bx.frozen Xx
      have qXx := Bx.lt Xx
      have dXy : ∀ i, w60.cell? ⟨w5.heap.size, i, none⟩ = _ := Bx.cell Xy
      have eXy : ∀ i, w60.frozen? ⟨w5.heap.size, i, none⟩ = false := Bx.frozen Xy
      have qXy := Bx.lt Xy
      have dXb : ∀ i, w60.cell? ⟨w6.heap.size, i, none⟩ = _ := Bx.cell Xb
      have eXb : ∀ i, w60.frozen? ⟨w6.heap.size, i, none⟩ = false := Bx.frozen Xb
      have qXb := Bx.lt Xb
      have dXp : ∀ i, w60.cell? ⟨w7.heap.size, i, none⟩ = _ := Bx.cell Xp
      have eXp : ∀ i, w60.frozen? ⟨w7.heap.size, i, none⟩ = false := Bx.frozen Xp
      have qXp := Bx.lt Xp
      go_wp2_with fail
      refine (awake_any _).mono ?_
      rintro e wz ⟨rfl, hbz⟩
      go_wp2
      go_ret
      exact ⟨rfl, bst b hbz⟩
set_option maxRecDepth 100000 in
set_option maxHeartbeats 4000000 in
theorem members_ok (k : Int) (Aa : Option Addr) (na ca : Nat) (xs : List Int) (Av : Option Addr) (nv cv : Nat) (ys : List Int) (Az : Option Addr) (nz cz : Nat) (zs : List Int) (w : World) (hsa : Sl w Aa na ca xs) (hsv : Sl w Av nv cv ys) (hsz : Sl w Az nz cz zs) (ha : achk k 1 (na : Int) 0 xs = 0) (hv : achk k 1 (nv : Int) 0 ys = 0) (hz : achk k 1 (nz : Int) 0 zs = 0) (hwa : ∀ x ∈ xs, -9223372036854775808 ≤ x ∧ x ≤ 9223372036854775807) (hwv : ∀ x ∈ ys, -9223372036854775808 ≤ x ∧ x ≤ 9223372036854775807) (hwz : ∀ x ∈ zs, -9223372036854775808 ≤ x ∧ x ≤ 9223372036854775807) (hbig : ¬ 400 < nv + nz) :
    Calls Try.prog 8 #[.agg #[.int .i64 k, .int .i64 1, .int .i64 (na : Int), .int .i64 0, .slice Aa na ca], .agg #[.int .i64 k, .int .i64 1, .int .i64 (nv : Int), .int .i64 0, .slice Av nv cv], .agg #[.int .i64 k, .int .i64 1, .int .i64 (nz : Int), .int .i64 0, .slice Az nz cz]] w fun e w' => e = .returned (.bool true) ∧ Below w.heap.size w w' := by
  have hl := hsa.len
  have hvl := hsv.len
  have hzl := hsz.len
  have hn : na ≤ 400 := by rw [← hl]; exact achk_len ha
  have hnv : nv ≤ 400 := by rw [← hvl]; exact achk_len hv
  have hnz : nz ≤ 400 := by rw [← hzl]; exact achk_len hz
  have Sa := Lib.hid hsa
  have Sv := Lib.hid hsv
  have Sz := Lib.hid hsz
  have HWa := Lib.hid hwa
  have HWv := Lib.hid hwv
  have HWz := Lib.hid hwz
  have HVa := Lib.hid (show isV k 1 (na : Int) 0 xs = true from decide_eq_true ⟨ha, rfl⟩)
  have HVv := Lib.hid (show isV k 1 (nv : Int) 0 ys = true from decide_eq_true ⟨hv, rfl⟩)
  have HVz := Lib.hid (show isV k 1 (nz : Int) 0 zs = true from decide_eq_true ⟨hz, rfl⟩)
  have HX := Lib.hid (show sFIn ⟨k, 1, (na : Int), 0, xs⟩ ⟨k, 1, (nv : Int), 0, ys⟩ = (⟨1, 1, (na : Int), 0, xs.map (isIn ys)⟩, 0) from sFIn_vec ha hv)
  have HY := Lib.hid (show sFIn ⟨k, 1, (na : Int), 0, xs⟩ ⟨k, 1, (nz : Int), 0, zs⟩ = (⟨1, 1, (na : Int), 0, xs.map (isIn zs)⟩, 0) from sFIn_vec ha hz)
  have LX := Lib.hid (show (xs.map (isIn ys)).length = na by rw [List.length_map, hl])
  have LY := Lib.hid (show (xs.map (isIn zs)).length = na by rw [List.length_map, hl])
  obtain ⟨q, hq⟩ : ∃ q, (keepL ys xs).length = q := ⟨_, rfl⟩
  have hqn : q ≤ na := by have := keepL_len_le ys xs; omega
  have hxc : achk 1 1 (na : Int) 0 (xs.map (isIn ys)) = 0 := ivec_mk' (by rw [List.length_map, hl]) hn
  have HP := Lib.hid (show sPick ⟨1, 1, (na : Int), 0, xs.map (isIn ys)⟩ ⟨k, 1, (na : Int), 0, xs⟩ = (⟨k, 1, (q : Int), 0, keepL ys xs⟩, 0) from by rw [sPick_vec hxc ha (by rw [List.length_map]), pick_keep, hq])
  have LP := Lib.hid hq
  have HL := Lib.hid hl
  have HVL := Lib.hid hvl
  have HQN := Lib.hid hqn
  have HCa := Lib.hid ha
  have HCv := Lib.hid hv
  have HCz := Lib.hid hz
  have hbk := (vec_ok hv).1
  have hbl_ : (ys ++ zs).length = nv + nz := by rw [List.length_append, hvl, hzl]
  have hbc : achk k 1 ((nv + nz : Nat) : Int) 0 (ys ++ zs) = 0 := by have := vec_mk hbk (xs := ys ++ zs) (by omega) (fun x hx => (List.mem_append.1 hx).elim (achk_all hv x) (achk_all hz x)); rwa [hbl_] at this
  have HWb := Lib.hid (show ∀ x ∈ ys ++ zs, -9223372036854775808 ≤ x ∧ x ≤ 9223372036854775807 from fun x hx => (List.mem_append.1 hx).elim (hwv x) (hwz x))
  obtain ⟨m, hm⟩ : ∃ m, nv + nz = m := ⟨_, rfl⟩
  rw [hm] at hbc hbl_
  have HB := Lib.hid (show sFIn ⟨k, 1, (na : Int), 0, xs⟩ ⟨k, 1, (m : Int), 0, ys ++ zs⟩ = (⟨1, 1, (na : Int), 0, xs.map (isIn (ys ++ zs))⟩, 0) from sFIn_vec ha hbc)
  have LB := Lib.hid hbl_
  have LZ := Lib.hid (show (xs.map (isIn (ys ++ zs))).length = na by rw [List.length_map, hl])
  have HM := Lib.hid hm
  have HBG := Lib.hid hbig
  clear hbk hbl_ hbc hm hbig
  have hnn : ((na : Int) != (na : Int)) = false := by simp
  have hkk : (k != k) = false := by simp
  have hke : (k == k) = true := by simp
  have HKE := Lib.hid hke
  clear hke hl hvl hzl hsa hsv hsz ha hv hz hwa hwv hwz hq hxc
  go_enter Try.func8, Try.ntmps8
  go_wp2_with fail
  refine (vec8_any k 1 (na : Int) 0 Aa na ca xs true _ (Sa.out.step (below3 _ _ _ _ )) HVa.out).mono ?_
  rintro e w1 ⟨rfl, hst⟩
  obtain ⟨Xa, Xv, Xz, hst⟩ := after3 hst
  replace Sa := Lib.hid (Sa.out.step hst)
  replace Sv := Lib.hid (Sv.out.step hst)
  replace Sz := Lib.hid (Sz.out.step hst)
  have b : Below w.heap.size w w1 := hst
  clear hst
  have dXa : ∀ i, w1.cell? ⟨w.heap.size, i, none⟩ = _ := Bx.cell Xa
  have eXa : ∀ i, w1.frozen? ⟨w.heap.size, i, none⟩ = false := Bx.frozen Xa
  have qXa := Bx.lt Xa
  have dXv : ∀ i, w1.cell? ⟨w.heap.size + 1, i, none⟩ = _ := Bx.cell Xv
  have eXv : ∀ i, w1.frozen? ⟨w.heap.size + 1, i, none⟩ = false := Bx.frozen Xv
  have qXv := Bx.lt Xv
  have dXz : ∀ i, w1.cell? ⟨w.heap.size + 1 + 1, i, none⟩ = _ := Bx.cell Xz
  have eXz : ∀ i, w1.frozen? ⟨w.heap.size + 1 + 1, i, none⟩ = false := Bx.frozen Xz
  have qXz := Bx.lt Xz
  go_wp2_with fail
  refine (vec8_any k 1 (nv : Int) 0 Av nv cv ys true _ Sv.out HVv.out).mono ?_
  rintro e w2 ⟨rfl, hst⟩
  clear dXa eXa qXa dXv eXv qXv dXz eXz qXz
  replace Xa := Bx.step Xa hst
  replace Xv := Bx.step Xv hst
  replace Xz := Bx.step Xz hst
  replace Sa := Lib.hid (Sa.out.step hst)
  replace Sv := Lib.hid (Sv.out.step hst)
  replace Sz := Lib.hid (Sz.out.step hst)
  replace b : Below w.heap.size w w2 := bst b hst
  clear hst
  have dXa : ∀ i, w2.cell? ⟨w.heap.size, i, none⟩ = _ := Bx.cell Xa
  have eXa : ∀ i, w2.frozen? ⟨w.heap.size, i, none⟩ = false := Bx.frozen Xa
  have qXa := Bx.lt Xa
  have dXv : ∀ i, w2.cell? ⟨w.heap.size + 1, i, none⟩ = _ := Bx.cell Xv
  have eXv : ∀ i, w2.frozen? ⟨w.heap.size + 1, i, none⟩ = false := Bx.frozen Xv
  have qXv := Bx.lt Xv
  have dXz : ∀ i, w2.cell? ⟨w.heap.size + 1 + 1, i, none⟩ = _ := Bx.cell Xz
  have eXz : ∀ i, w2.frozen? ⟨w.heap.size + 1 + 1, i, none⟩ = false := Bx.frozen Xz
  have qXz := Bx.lt Xz
  go_wp2_with fail
  refine (vec8_any k 1 (nz : Int) 0 Az nz cz zs true _ Sz.out HVz.out).mono ?_
  rintro e w3 ⟨rfl, hst⟩
  clear dXa eXa qXa dXv eXv qXv dXz eXz qXz
  replace Xa := Bx.step Xa hst
  replace Xv := Bx.step Xv hst
  replace Xz := Bx.step Xz hst
  replace Sa := Lib.hid (Sa.out.step hst)
  replace Sv := Lib.hid (Sv.out.step hst)
  replace Sz := Lib.hid (Sz.out.step hst)
  replace b : Below w.heap.size w w3 := bst b hst
  clear hst
  have dXa : ∀ i, w3.cell? ⟨w.heap.size, i, none⟩ = _ := Bx.cell Xa
  have eXa : ∀ i, w3.frozen? ⟨w.heap.size, i, none⟩ = false := Bx.frozen Xa
  have qXa := Bx.lt Xa
  have dXv : ∀ i, w3.cell? ⟨w.heap.size + 1, i, none⟩ = _ := Bx.cell Xv
  have eXv : ∀ i, w3.frozen? ⟨w.heap.size + 1, i, none⟩ = false := Bx.frozen Xv
  have qXv := Bx.lt Xv
  have dXz : ∀ i, w3.cell? ⟨w.heap.size + 1 + 1, i, none⟩ = _ := Bx.cell Xz
  have eXz : ∀ i, w3.frozen? ⟨w.heap.size + 1 + 1, i, none⟩ = false := Bx.frozen Xz
  have qXz := Bx.lt Xz
  go_wp2_with fail
  refine (fin_any k 1 (na : Int) 0 Aa na ca xs k 1 (nv : Int) 0 Av nv cv ys _ _ Sa.out Sv.out HWa.out HWv.out HX.out).mono ?_
  intro e w4 hR
  obtain ⟨A4, n4, c4, rfl, hS4, hN4, hst⟩ := RetA.flat hR
  clear hR
  clear dXa eXa qXa dXv eXv qXv dXz eXz qXz
  replace Xa := Bx.step Xa hst
  replace Xv := Bx.step Xv hst
  replace Xz := Bx.step Xz hst
  replace Sa := Lib.hid (Sa.out.step hst)
  replace Sv := Lib.hid (Sv.out.step hst)
  replace Sz := Lib.hid (Sz.out.step hst)
  replace b : Below w.heap.size w w4 := bst b hst
  clear hst
  have Sx := Lib.hid hS4
  have NSx := Lib.hid hN4
  clear hS4 hN4
  obtain rfl : na = n4 := LX.out.symm.trans Sx.out.len
  have dXa : ∀ i, w4.cell? ⟨w.heap.size, i, none⟩ = _ := Bx.cell Xa
  have eXa : ∀ i, w4.frozen? ⟨w.heap.size, i, none⟩ = false := Bx.frozen Xa
  have qXa := Bx.lt Xa
  have dXv : ∀ i, w4.cell? ⟨w.heap.size + 1, i, none⟩ = _ := Bx.cell Xv
  have eXv : ∀ i, w4.frozen? ⟨w.heap.size + 1, i, none⟩ = false := Bx.frozen Xv
  have qXv := Bx.lt Xv
  have dXz : ∀ i, w4.cell? ⟨w.heap.size + 1 + 1, i, none⟩ = _ := Bx.cell Xz
  have eXz : ∀ i, w4.frozen? ⟨w.heap.size + 1 + 1, i, none⟩ = false := Bx.frozen Xz
  have qXz := Bx.lt Xz
  go_wp2_with fail
  refine (fin_any k 1 (na : Int) 0 Aa na ca xs k 1 (nz : Int) 0 Az nz cz zs _ _ (Sa.out.step (below1 _ _ )) (Sz.out.step (below1 _ _ )) HWa.out HWz.out HY.out).mono ?_
  intro e w5 hR
  obtain ⟨A5, n5, c5, rfl, hS5, hN5, hst⟩ := RetA.flat hR
  clear hR
  clear dXa eXa qXa dXv eXv qXv dXz eXz qXz
  obtain ⟨Xx, hst⟩ := after1 hst
  replace Xa := Bx.step Xa hst
  replace Xv := Bx.step Xv hst
  replace Xz := Bx.step Xz hst
  replace Sa := Lib.hid (Sa.out.step hst)
  replace Sv := Lib.hid (Sv.out.step hst)
  replace Sz := Lib.hid (Sz.out.step hst)
  replace Sx := Lib.hid (Sx.out.step hst)
  replace b : Below w.heap.size w w5 := bst b hst
  clear hst
  have Sy := Lib.hid hS5
  have NSy := Lib.hid hN5
  clear hS5 hN5
  obtain rfl : na = n5 := LY.out.symm.trans Sy.out.len
  have dXa : ∀ i, w5.cell? ⟨w.heap.size, i, none⟩ = _ := Bx.cell Xa
  have eXa : ∀ i, w5.frozen? ⟨w.heap.size, i, none⟩ = false := Bx.frozen Xa
  have qXa := Bx.lt Xa
  have dXv : ∀ i, w5.cell? ⟨w.heap.size + 1, i, none⟩ = _ := Bx.cell Xv
  have eXv : ∀ i, w5.frozen? ⟨w.heap.size + 1, i, none⟩ = false := Bx.frozen Xv
  have qXv := Bx.lt Xv
  have dXz : ∀ i, w5.cell? ⟨w.heap.size + 1 + 1, i, none⟩ = _ := Bx.cell Xz
  have eXz : ∀ i, w5.frozen? ⟨w.heap.size + 1 + 1, i, none⟩ = false := Bx.frozen Xz
  have qXz := Bx.lt Xz
  have dXx : ∀ i, w5.cell? ⟨w4.heap.size, i, none⟩ = _ := Bx.cell Xx
  have eXx : ∀ i, w5.frozen? ⟨w4.heap.size, i, none⟩ = false := Bx.frozen Xx
  have qXx := Bx.lt Xx
  go_wp2_with fail
  refine (rcatv_ok k (nv : Int) 0 Av nv cv ys (nz : Int) 0 Az nz cz zs _ (Sv.out.step (below1 _ _ )) (Sz.out.step (below1 _ _ )) HCv.out HCz.out HBG.out).mono ?_
  intro e w6 hR
  obtain ⟨A6, n6, c6, rfl, hS6, hN6, hst⟩ := RetA.flat hR
  clear hR
  clear dXa eXa qXa dXv eXv qXv dXz eXz qXz dXx eXx qXx
  obtain ⟨Xy, hst⟩ := after1 hst
  replace Xa := Bx.step Xa hst
  replace Xv := Bx.step Xv hst
  replace Xz := Bx.step Xz hst
  replace Xx := Bx.step Xx hst
  replace Sa := Lib.hid (Sa.out.step hst)
  replace Sv := Lib.hid (Sv.out.step hst)
  replace Sz := Lib.hid (Sz.out.step hst)
  replace Sx := Lib.hid (Sx.out.step hst)
  replace Sy := Lib.hid (Sy.out.step hst)
  replace b : Below w.heap.size w w6 := bst b hst
  clear hst
  have Sb := Lib.hid hS6
  have NSb := Lib.hid hN6
  clear hS6 hN6
  obtain rfl : m = n6 := LB.out.symm.trans Sb.out.len
  rw [HM.out]
  have dXa : ∀ i, w6.cell? ⟨w.heap.size, i, none⟩ = _ := Bx.cell Xa
  have eXa : ∀ i, w6.frozen? ⟨w.heap.size, i, none⟩ = false := Bx.frozen Xa
  have qXa := Bx.lt Xa
  have dXv : ∀ i, w6.cell? ⟨w.heap.size + 1, i, none⟩ = _ := Bx.cell Xv
  have eXv : ∀ i, w6.frozen? ⟨w.heap.size + 1, i, none⟩ = false := Bx.frozen Xv
  have qXv := Bx.lt Xv
  have dXz : ∀ i, w6.cell? ⟨w.heap.size + 1 + 1, i, none⟩ = _ := Bx.cell Xz
  have eXz : ∀ i, w6.frozen? ⟨w.heap.size + 1 + 1, i, none⟩ = false := Bx.frozen Xz
  have qXz := Bx.lt Xz
  have dXx : ∀ i, w6.cell? ⟨w4.heap.size, i, none⟩ = _ := Bx.cell Xx
  have eXx : ∀ i, w6.frozen? ⟨w4.heap.size, i, none⟩ = false := Bx.frozen Xx
  have qXx := Bx.lt Xx
  have dXy : ∀ i, w6.cell? ⟨w5.heap.size, i, none⟩ = _ := Bx.cell Xy
  have eXy : ∀ i, w6.frozen? ⟨w5.heap.size, i, none⟩ = false := Bx.frozen Xy
  have qXy := Bx.lt Xy
  go_wp2_with fail
  refine (fin_any k 1 (na : Int) 0 Aa na ca xs k 1 (m : Int) 0 A6 m c6 (ys ++ zs) _ _ (Sa.out.step (below1 _ _ )) (Sb.out.step (below1 _ _ )) HWa.out HWb.out HB.out).mono ?_
  intro e w7 hR
  obtain ⟨A7, n7, c7, rfl, hS7, hN7, hst⟩ := RetA.flat hR
  clear hR
  clear dXa eXa qXa dXv eXv qXv dXz eXz qXz dXx eXx qXx dXy eXy qXy
  obtain ⟨Xb, hst⟩ := after1 hst
  replace Xa := Bx.step Xa hst
  replace Xv := Bx.step Xv hst
  replace Xz := Bx.step Xz hst
  replace Xx := Bx.step Xx hst
  replace Xy := Bx.step Xy hst
  replace Sa := Lib.hid (Sa.out.step hst)
  replace Sv := Lib.hid (Sv.out.step hst)
  replace Sz := Lib.hid (Sz.out.step hst)
  replace Sx := Lib.hid (Sx.out.step hst)
  replace Sy := Lib.hid (Sy.out.step hst)
  replace Sb := Lib.hid (Sb.out.step hst)
  replace b : Below w.heap.size w w7 := bst b hst
  clear hst
  have Sc := Lib.hid hS7
  have NSc := Lib.hid hN7
  clear hS7 hN7
  obtain rfl : na = n7 := LZ.out.symm.trans Sc.out.len
  have dXa : ∀ i, w7.cell? ⟨w.heap.size, i, none⟩ = _ := Bx.cell Xa
  have eXa : ∀ i, w7.frozen? ⟨w.heap.size, i, none⟩ = false := Bx.frozen Xa
  have qXa := Bx.lt Xa
  have dXv : ∀ i, w7.cell? ⟨w.heap.size + 1, i, none⟩ = _ := Bx.cell Xv
  have eXv : ∀ i, w7.frozen? ⟨w.heap.size + 1, i, none⟩ = false := Bx.frozen Xv
  have qXv := Bx.lt Xv
  have dXz : ∀ i, w7.cell? ⟨w.heap.size + 1 + 1, i, none⟩ = _ := Bx.cell Xz
  have eXz : ∀ i, w7.frozen? ⟨w.heap.size + 1 + 1, i, none⟩ = false := Bx.frozen Xz
  have qXz := Bx.lt Xz
  have dXx : ∀ i, w7.cell? ⟨w4.heap.size, i, none⟩ = _ := Bx.cell Xx
  have eXx : ∀ i, w7.frozen? ⟨w4.heap.size, i, none⟩ = false := Bx.frozen Xx
  have qXx := Bx.lt Xx
  have dXy : ∀ i, w7.cell? ⟨w5.heap.size, i, none⟩ = _ := Bx.cell Xy
  have eXy : ∀ i, w7.frozen? ⟨w5.heap.size, i, none⟩ = false := Bx.frozen Xy
  have qXy := Bx.lt Xy
  have dXb : ∀ i, w7.cell? ⟨w6.heap.size, i, none⟩ = _ := Bx.cell Xb
  have eXb : ∀ i, w7.frozen? ⟨w6.heap.size, i, none⟩ = false := Bx.frozen Xb
  have qXb := Bx.lt Xb
  go_upto_if 110 with fail
  have Xc := Bx.new w7 #[.int .i64 1, .int .i64 1, .int .i64 (na : Int), .int .i64 0, .slice A7 na c7] 25
  have hst := below1 w7 (.cells #[.int .i64 1, .int .i64 1, .int .i64 (na : Int), .int .i64 0, .slice A7 na c7] 25)
  obtain ⟨w8, hw_⟩ : ∃ w8, w7.alloc (.cells #[.int .i64 1, .int .i64 1, .int .i64 (na : Int), .int .i64 0, .slice A7 na c7] 25) = w8 := ⟨_, rfl⟩
  rw [hw_] at Xc hst
  rw [hw_]
  clear hw_
  clear dXa eXa qXa dXv eXv qXv dXz eXz qXz dXx eXx qXx dXy eXy qXy dXb eXb qXb
  replace Xa := Bx.step Xa hst
  replace Xv := Bx.step Xv hst
  replace Xz := Bx.step Xz hst
  replace Xx := Bx.step Xx hst
  replace Xy := Bx.step Xy hst
  replace Xb := Bx.step Xb hst
  replace Sa := Lib.hid (Sa.out.step hst)
  replace Sv := Lib.hid (Sv.out.step hst)
  replace Sz := Lib.hid (Sz.out.step hst)
  replace Sx := Lib.hid (Sx.out.step hst)
  replace Sy := Lib.hid (Sy.out.step hst)
  replace Sb := Lib.hid (Sb.out.step hst)
  replace Sc := Lib.hid (Sc.out.step hst)
  replace b := bst b hst
  clear hst
  have dXa : ∀ i, w8.cell? ⟨w.heap.size, i, none⟩ = _ := Bx.cell Xa
  have eXa : ∀ i, w8.frozen? ⟨w.heap.size, i, none⟩ = false := Bx.frozen Xa
  have qXa := Bx.lt Xa
  have dXv : ∀ i, w8.cell? ⟨w.heap.size + 1, i, none⟩ = _ := Bx.cell Xv
  have eXv : ∀ i, w8.frozen? ⟨w.heap.size + 1, i, none⟩ = false := Bx.frozen Xv
  have qXv := Bx.lt Xv
  have dXz : ∀ i, w8.cell? ⟨w.heap.size + 1 + 1, i, none⟩ = _ := Bx.cell Xz
  have eXz : ∀ i, w8.frozen? ⟨w.heap.size + 1 + 1, i, none⟩ = false := Bx.frozen Xz
  have qXz := Bx.lt Xz
  have dXx : ∀ i, w8.cell? ⟨w4.heap.size, i, none⟩ = _ := Bx.cell Xx
  have eXx : ∀ i, w8.frozen? ⟨w4.heap.size, i, none⟩ = false := Bx.frozen Xx
  have qXx := Bx.lt Xx
  have dXy : ∀ i, w8.cell? ⟨w5.heap.size, i, none⟩ = _ := Bx.cell Xy
  have eXy : ∀ i, w8.frozen? ⟨w5.heap.size, i, none⟩ = false := Bx.frozen Xy
  have qXy := Bx.lt Xy
  have dXb : ∀ i, w8.cell? ⟨w6.heap.size, i, none⟩ = _ := Bx.cell Xb
  have eXb : ∀ i, w8.frozen? ⟨w6.heap.size, i, none⟩ = false := Bx.frozen Xb
  have qXb := Bx.lt Xb
  have dXc : ∀ i, w8.cell? ⟨w7.heap.size, i, none⟩ = _ := Bx.cell Xc
  have eXc : ∀ i, w8.frozen? ⟨w7.heap.size, i, none⟩ = false := Bx.frozen Xc
  have qXc := Bx.lt Xc
  go_wp2_with fail
  clear dXa eXa qXa dXv eXv qXv dXz eXz qXz dXx eXx qXx dXy eXy qXy dXb eXb qXb dXc eXc qXc
  go_loopw [15] (fun i wr => ∃ j : Nat, i = .int .i64 j ∧ j ≤ na ∧ Below w8.heap.size w8 wr) (fun i _ => na - (intOf i).toNat)
  case atStart => exact ⟨0, rfl, Nat.zero_le _, Below.refl _ _⟩
  case round =>
    obtain ⟨j, rfl, hj, hbl⟩ := hrel
    have dXa : ∀ i, wr.cell? ⟨w.heap.size, i, none⟩ = _ := Bx.cell (Bx.step Xa hbl)
    by_cases hlt : j < na
    · have k0 : (0 : Int) ≤ (j : Int) := by omega
      have k1 : (j : Int) < (na : Int) := by omega
      obtain ⟨xb, xo, hxA, hxl, hx0⟩ := Sx.out.at_ hlt
      obtain ⟨yb, yo, hyA, hyl, hy0⟩ := Sy.out.at_ hlt
      obtain ⟨cb, co, hcA, hcl, hc0⟩ := Sc.out.at_ hlt
      have hj2 : j < xs.length := by rw [HL.out]; exact hlt
      rw [map_at _ _ _ hj2] at hx0 hy0 hc0
      rw [isIn_app] at hc0
      have hx1 := (hbl.cell (p := ⟨xb, xo + j, none⟩) hxl).trans hx0
      have hy1 := (hbl.cell (p := ⟨yb, yo + j, none⟩) hyl).trans hy0
      have hc1 := (hbl.cell (p := ⟨cb, co + j, none⟩) hcl).trans hc0
      have dXx : ∀ i, wr.cell? ⟨w4.heap.size, i, none⟩ = _ := Bx.cell (Bx.step Xx hbl)
      have dXy : ∀ i, wr.cell? ⟨w5.heap.size, i, none⟩ = _ := Bx.cell (Bx.step Xy hbl)
      have dXc : ∀ i, wr.cell? ⟨w7.heap.size, i, none⟩ = _ := Bx.cell (Bx.step Xc hbl)
      rw [hxA] at dXx
      rw [hyA] at dXy
      rw [hcA] at dXc
      clear hxA hyA hcA hx0 hy0 hc0 hj2
      have hB1 : isIn ys (xs.getD j 0) = 0 ∨ isIn ys (xs.getD j 0) = 1 := by unfold isIn; split <;> simp
      have hB2 : isIn zs (xs.getD j 0) = 0 ∨ isIn zs (xs.getD j 0) = 1 := by unfold isIn; split <;> simp
      rcases hB1 with hB1 | hB1 <;> rcases hB2 with hB2 | hB2
      all_goals
        rw [hB1] at hx1 hc1
        rw [hB2] at hy1 hc1
        clear hB1 hB2
        go_wp2_with fail
        go_quiet (fail)
        go_wp2
        exact ⟨⟨j + 1, rfl, by omega, bdn2 hbl nq⟩, by simp only [intOf]; omega⟩
    · obtain rfl : na = j := by omega
      clear dXa hlt
      obtain ⟨w40, hw_⟩ : ∃ w40, wr = w40 := ⟨_, rfl⟩
      rw [hw_] at hbl
      rw [hw_]
      clear hw_
      have hst := hbl
      replace Xa := Bx.step Xa hst
      replace Xv := Bx.step Xv hst
      replace Xz := Bx.step Xz hst
      replace Xx := Bx.step Xx hst
      replace Xy := Bx.step Xy hst
      replace Xb := Bx.step Xb hst
      replace Xc := Bx.step Xc hst
      replace Sa := Lib.hid (Sa.out.step hst)
      replace Sv := Lib.hid (Sv.out.step hst)
      replace Sz := Lib.hid (Sz.out.step hst)
      replace Sx := Lib.hid (Sx.out.step hst)
      replace Sy := Lib.hid (Sy.out.step hst)
      replace Sb := Lib.hid (Sb.out.step hst)
      replace Sc := Lib.hid (Sc.out.step hst)
      replace b := bst b hst
      clear hst hbl
      have dXa : ∀ i, w40.cell? ⟨w.heap.size, i, none⟩ = _ := Bx.cell Xa
      have eXa : ∀ i, w40.frozen? ⟨w.heap.size, i, none⟩ = false := Bx.frozen Xa
      have qXa := Bx.lt Xa
      have dXv : ∀ i, w40.cell? ⟨w.heap.size + 1, i, none⟩ = _ := Bx.cell Xv
      have eXv : ∀ i, w40.frozen? ⟨w.heap.size + 1, i, none⟩ = false := Bx.frozen Xv
      have qXv := Bx.lt Xv
      have dXz : ∀ i, w40.cell? ⟨w.heap.size + 1 + 1, i, none⟩ = _ := Bx.cell Xz
      have eXz : ∀ i, w40.frozen? ⟨w.heap.size + 1 + 1, i, none⟩ = false := Bx.frozen Xz
      have qXz := Bx.lt Xz
      have dXx : ∀ i, w40.cell? ⟨w4.heap.size, i, none⟩ = _ := Bx.cell Xx
      have eXx : ∀ i, w40.frozen? ⟨w4.heap.size, i, none⟩ = false := Bx.frozen Xx
      have qXx := Bx.lt Xx
      have dXy : ∀ i, w40.cell? ⟨w5.heap.size, i, none⟩ = _ := Bx.cell Xy
      have eXy : ∀ i, w40.frozen? ⟨w5.heap.size, i, none⟩ = false := Bx.frozen Xy
      have qXy := Bx.lt Xy
      have dXb : ∀ i, w40.cell? ⟨w6.heap.size, i, none⟩ = _ := Bx.cell Xb
      have eXb : ∀ i, w40.frozen? ⟨w6.heap.size, i, none⟩ = false := Bx.frozen Xb
      have qXb := Bx.lt Xb
      have dXc : ∀ i, w40.cell? ⟨w7.heap.size, i, none⟩ = _ := Bx.cell Xc
      have eXc : ∀ i, w40.frozen? ⟨w7.heap.size, i, none⟩ = false := Bx.frozen Xc
      have qXc := Bx.lt Xc
      go_wp2_with fail
      refine (fpick_any 1 1 (na : Int) 0 A4 na c4 (xs.map (isIn ys)) k 1 (na : Int) 0 Aa na ca xs _ _ Sx.out Sa.out HP.out).mono ?_
      intro e w41 hR
      obtain ⟨A41, n41, c41, rfl, hS41, hN41, hst⟩ := RetA.flat hR
      clear hR
      clear dXa eXa qXa dXv eXv qXv dXz eXz qXz dXx eXx qXx dXy eXy qXy dXb eXb qXb dXc eXc qXc
      replace Xa := Bx.step Xa hst
      replace Xv := Bx.step Xv hst
      replace Xz := Bx.step Xz hst
      replace Xx := Bx.step Xx hst
      replace Xy := Bx.step Xy hst
      replace Xb := Bx.step Xb hst
      replace Xc := Bx.step Xc hst
      replace Sa := Lib.hid (Sa.out.step hst)
      replace Sv := Lib.hid (Sv.out.step hst)
      replace Sz := Lib.hid (Sz.out.step hst)
      replace Sx := Lib.hid (Sx.out.step hst)
      replace Sy := Lib.hid (Sy.out.step hst)
      replace Sb := Lib.hid (Sb.out.step hst)
      replace Sc := Lib.hid (Sc.out.step hst)
      replace b : Below w.heap.size w w41 := bst b hst
      clear hst
      have Sp := Lib.hid hS41
      have NSp := Lib.hid hN41
      clear hS41 hN41
      obtain rfl : q = n41 := LP.out.symm.trans Sp.out.len
      have dXa : ∀ i, w41.cell? ⟨w.heap.size, i, none⟩ = _ := Bx.cell Xa
      have eXa : ∀ i, w41.frozen? ⟨w.heap.size, i, none⟩ = false := Bx.frozen Xa
      have qXa := Bx.lt Xa
      have dXv : ∀ i, w41.cell? ⟨w.heap.size + 1, i, none⟩ = _ := Bx.cell Xv
      have eXv : ∀ i, w41.frozen? ⟨w.heap.size + 1, i, none⟩ = false := Bx.frozen Xv
      have qXv := Bx.lt Xv
      have dXz : ∀ i, w41.cell? ⟨w.heap.size + 1 + 1, i, none⟩ = _ := Bx.cell Xz
      have eXz : ∀ i, w41.frozen? ⟨w.heap.size + 1 + 1, i, none⟩ = false := Bx.frozen Xz
      have qXz := Bx.lt Xz
      have dXx : ∀ i, w41.cell? ⟨w4.heap.size, i, none⟩ = _ := Bx.cell Xx
      have eXx : ∀ i, w41.frozen? ⟨w4.heap.size, i, none⟩ = false := Bx.frozen Xx
      have qXx := Bx.lt Xx
      have dXy : ∀ i, w41.cell? ⟨w5.heap.size, i, none⟩ = _ := Bx.cell Xy
      have eXy : ∀ i, w41.frozen? ⟨w5.heap.size, i, none⟩ = false := Bx.frozen Xy
      have qXy := Bx.lt Xy
      have dXb : ∀ i, w41.cell? ⟨w6.heap.size, i, none⟩ = _ := Bx.cell Xb
      have eXb : ∀ i, w41.frozen? ⟨w6.heap.size, i, none⟩ = false := Bx.frozen Xb
      have qXb := Bx.lt Xb
      have dXc : ∀ i, w41.cell? ⟨w7.heap.size, i, none⟩ = _ := Bx.cell Xc
      have eXc : ∀ i, w41.frozen? ⟨w7.heap.size, i, none⟩ = false := Bx.frozen Xc
      have qXc := Bx.lt Xc
      go_upto_if 142 with fail
      have Xp := Bx.new w41 #[.int .i64 k, .int .i64 1, .int .i64 (q : Int), .int .i64 0, .slice A41 q c41] 25
      have hst := below1 w41 (.cells #[.int .i64 k, .int .i64 1, .int .i64 (q : Int), .int .i64 0, .slice A41 q c41] 25)
      obtain ⟨w42, hw_⟩ : ∃ w42, w41.alloc (.cells #[.int .i64 k, .int .i64 1, .int .i64 (q : Int), .int .i64 0, .slice A41 q c41] 25) = w42 := ⟨_, rfl⟩
      rw [hw_] at Xp hst
      rw [hw_]
      clear hw_
      clear dXa eXa qXa dXv eXv qXv dXz eXz qXz dXx eXx qXx dXy eXy qXy dXb eXb qXb dXc eXc qXc
      replace Xa := Bx.step Xa hst
      replace Xv := Bx.step Xv hst
      replace Xz := Bx.step Xz hst
      replace Xx := Bx.step Xx hst
      replace Xy := Bx.step Xy hst
      replace Xb := Bx.step Xb hst
      replace Xc := Bx.step Xc hst
      replace Sa := Lib.hid (Sa.out.step hst)
      replace Sv := Lib.hid (Sv.out.step hst)
      replace Sz := Lib.hid (Sz.out.step hst)
      replace Sx := Lib.hid (Sx.out.step hst)
      replace Sy := Lib.hid (Sy.out.step hst)
      replace Sb := Lib.hid (Sb.out.step hst)
      replace Sc := Lib.hid (Sc.out.step hst)
      replace Sp := Lib.hid (Sp.out.step hst)
      replace b := bst b hst
      clear hst
      have dXa : ∀ i, w42.cell? ⟨w.heap.size, i, none⟩ = _ := Bx.cell Xa
      have eXa : ∀ i, w42.frozen? ⟨w.heap.size, i, none⟩ = false := Bx.frozen Xa
      have qXa := Bx.lt Xa
      have dXv : ∀ i, w42.cell? ⟨w.heap.size + 1, i, none⟩ = _ := Bx.cell Xv
      have eXv : ∀ i, w42.frozen? ⟨w.heap.size + 1, i, none⟩ = false := Bx.frozen Xv
      have qXv := Bx.lt Xv
      have dXz : ∀ i, w42.cell? ⟨w.heap.size + 1 + 1, i, none⟩ = _ := Bx.cell Xz
      have eXz : ∀ i, w42.frozen? ⟨w.heap.size + 1 + 1, i, none⟩ = false := Bx.frozen Xz
      have qXz := Bx.lt Xz
      have dXx : ∀ i, w42.cell? ⟨w4.heap.size, i, none⟩ = _ := Bx.cell Xx
      have eXx : ∀ i, w42.frozen? ⟨w4.heap.size, i, none⟩ = false := Bx.frozen Xx
      have qXx := Bx.lt Xx
      have dXy : ∀ i, w42.cell? ⟨w5.heap.size, i, none⟩ = _ := Bx.cell Xy
      have eXy : ∀ i, w42.frozen? ⟨w5.heap.size, i, none⟩ = false := Bx.frozen Xy
      have qXy := Bx.lt Xy
      have dXb : ∀ i, w42.cell? ⟨w6.heap.size, i, none⟩ = _ := Bx.cell Xb
      have eXb : ∀ i, w42.frozen? ⟨w6.heap.size, i, none⟩ = false := Bx.frozen Xb
      have qXb := Bx.lt Xb
      have dXc : ∀ i, w42.cell? ⟨w7.heap.size, i, none⟩ = _ := Bx.cell Xc
      have eXc : ∀ i, w42.frozen? ⟨w7.heap.size, i, none⟩ = false := Bx.frozen Xc
      have qXc := Bx.lt Xc
      have dXp : ∀ i, w42.cell? ⟨w41.heap.size, i, none⟩ = _ := Bx.cell Xp
      have eXp : ∀ i, w42.frozen? ⟨w41.heap.size, i, none⟩ = false := Bx.frozen Xp
      have qXp := Bx.lt Xp
      go_wp2_with fail
      clear dXa eXa qXa dXv eXv qXv dXz eXz qXz dXx eXx qXx dXy eXy qXy dXb eXb qXb dXc eXc qXc dXp eXp qXp
      go_loopw [18, 19, 20, 21] (fun t i _ _ wr => ∃ j T : Nat, i = .int .i64 j ∧ t = .int .i64 T ∧ j ≤ na ∧ T ≤ j ∧ Hid ((keepL ys (xs.take j)).length = T) ∧ Below w42.heap.size w42 wr) (fun _ i _ _ _ => na - (intOf i).toNat)
      case atStart => exact ⟨0, 0, rfl, rfl, Nat.zero_le _, Nat.le_refl _, Lib.hid (by simp [keepL]), Below.refl _ _⟩
      case round =>
        obtain ⟨j, T, rfl, rfl, hj, hTj, HT, hbl⟩ := hrel
        have dXa : ∀ i, wr.cell? ⟨w.heap.size, i, none⟩ = _ := Bx.cell (Bx.step Xa hbl)
        by_cases hlt : j < na
        · have k0 : (0 : Int) ≤ (j : Int) := by omega
          have k1 : (j : Int) < (na : Int) := by omega
          obtain ⟨ab, ao, haA, hal, ha0⟩ := Sa.out.at_ hlt
          obtain ⟨x, hx⟩ : ∃ x, xs.getD j 0 = x := ⟨_, rfl⟩
          rw [hx] at ha0
          have HX1 := Lib.hid hx
          have HAA := Lib.hid haA
          clear hx haA
          go_wp2
          clear dXa
          go_loopw [20, 21] (fun f i wr => ∃ (h : Nat) (F : Bool), i = .int .i64 h ∧ f = .bool F ∧ h ≤ nv ∧ Hid ((ys.take h).elem x = F) ∧ Below w42.heap.size w42 wr) (fun _ i _ => nv - (intOf i).toNat)
          case atStart => exact ⟨0, false, rfl, rfl, Nat.zero_le _, Lib.hid rfl, hbl⟩
          case round =>
            clear hbl
            obtain ⟨h, F, rfl, rfl, hh, HF, hbl⟩ := hrel
            have dXa : ∀ i, wr.cell? ⟨w.heap.size, i, none⟩ = _ := Bx.cell (Bx.step Xa hbl)
            have dXv : ∀ i, wr.cell? ⟨w.heap.size + 1, i, none⟩ = _ := Bx.cell (Bx.step Xv hbl)
            by_cases hlt2 : h < nv
            · have h0 : (0 : Int) ≤ (h : Int) := by omega
              have h1 : (h : Int) < (nv : Int) := by omega
              obtain ⟨vb, vo, hvA, hvl, hv0⟩ := Sv.out.at_ hlt2
              have hes := elem_snoc (ys := ys) (n := h) (by rw [HVL.out]; exact hlt2) x
              obtain ⟨y, hy⟩ : ∃ y, ys.getD h 0 = y := ⟨_, rfl⟩
              rw [hy] at hv0 hes
              rw [HF.out] at hes
              have hv1 := (hbl.cell (p := ⟨vb, vo + h, none⟩) hvl).trans hv0
              have ha1 := (hbl.cell (p := ⟨ab, ao + j, none⟩) hal).trans ha0
              rw [HAA.out] at dXa
              rw [hvA] at dXv
              clear hvA hv0 hy
              cases F with
              | true =>
                have HES := Lib.hid hes
                clear hes
                go_wp2_with fail
                go_quiet (fail)
                go_wp2
                exact ⟨⟨h + 1, true, rfl, rfl, by omega, Lib.hid HES.out, bdn2 hbl nq⟩, by simp only [intOf]; omega⟩
              | false =>
                by_cases hxy : x = y
                · have hb1 : (y == x) = true := by simpa using hxy.symm
                  have HES := Lib.hid (hes.trans (by rw [hxy]; simp : (false || x == y) = true))
                  clear hes hxy
                  go_wp2_with fail
                  go_quiet (fail)
                  go_wp2
                  exact ⟨⟨h + 1, true, rfl, rfl, by omega, Lib.hid HES.out, bdn2 hbl nq⟩, by simp only [intOf]; omega⟩
                · have hb1 : (y == x) = false := by simpa using fun g => hxy g.symm
                  have HES := Lib.hid (hes.trans (by simpa using hxy : (false || x == y) = false))
                  clear hes hxy
                  go_wp2_with fail
                  go_quiet (fail)
                  go_wp2
                  exact ⟨⟨h + 1, false, rfl, rfl, by omega, Lib.hid HES.out, bdn2 hbl nq⟩, by simp only [intOf]; omega⟩
            · obtain rfl : nv = h := by omega
              have hff := HF.out
              rw [List.take_of_length_le (by rw [HVL.out]; exact Nat.le_refl _)] at hff
              have hj2 : j < xs.length := by rw [HL.out]; exact hlt
              cases F with
              | false =>
                have hko := keepL_out (ys := ys) hj2 (by rw [HX1.out]; exact hff)
                have HKO := Lib.hid hko
                clear hko hff hj2
                go_wp2
                exact ⟨⟨j + 1, T, rfl, rfl, by omega, by omega, Lib.hid (by rw [HKO.out]; exact HT.out), hbl⟩, by simp only [intOf]; omega⟩
              | true =>
                obtain ⟨hk1, hk2, hk3⟩ := keepL_in (ys := ys) hj2 (by rw [HX1.out]; exact hff)
                rw [HT.out, LP.out] at hk1
                rw [HT.out, HX1.out] at hk2
                rw [HT.out] at hk3
                obtain ⟨pb, po, hpA, hpl, hp0⟩ := Sp.out.at_ hk1
                rw [hk2] at hp0
                have hp1 := (hbl.cell (p := ⟨pb, po + T, none⟩) hpl).trans hp0
                have ha1 := (hbl.cell (p := ⟨ab, ao + j, none⟩) hal).trans ha0
                have dXp : ∀ i, wr.cell? ⟨w41.heap.size, i, none⟩ = _ := Bx.cell (Bx.step Xp hbl)
                rw [HAA.out] at dXa
                rw [hpA] at dXp
                have t0 : (0 : Int) ≤ (T : Int) := by omega
                have t1 : (T : Int) < (q : Int) := by omega
                have t2 : decide ((q : Int) ≤ (T : Int)) = false := decide_eq_false (by omega)
                have t3 : decide (q ≤ T) = false := decide_eq_false (by omega)
                have hxx : (x != x) = false := by simp
                have HK3 := Lib.hid hk3
                clear hpA hp0 hk1 hk2 hk3 hff hj2
                go_wp2_with fail
                go_quiet (fail)
                go_wp2
                exact ⟨⟨j + 1, T + 1, rfl, rfl, by omega, by omega, Lib.hid HK3.out, bdn2 hbl nq⟩, by simp only [intOf]; omega⟩
        · obtain rfl : na = j := by omega
          have hTT := HT.out
          rw [List.take_of_length_le (by rw [HL.out]; exact Nat.le_refl _)] at hTT
          obtain rfl : q = T := LP.out.symm.trans hTT
          have hke := HKE.out
          clear hTT hlt dXa
          obtain ⟨w60, hw_⟩ : ∃ w60, wr = w60 := ⟨_, rfl⟩
          rw [hw_] at hbl
          rw [hw_]
          clear hw_
          have hst := hbl
          replace Xa := Bx.step Xa hst
          replace Xv := Bx.step Xv hst
          replace Xz := Bx.step Xz hst
          replace Xx := Bx.step Xx hst
          replace Xy := Bx.step Xy hst
          replace Xb := Bx.step Xb hst
          replace Xc := Bx.step Xc hst
          replace Xp := Bx.step Xp hst
          replace Sa := Lib.hid (Sa.out.step hst)
          replace Sv := Lib.hid (Sv.out.step hst)
          replace Sz := Lib.hid (Sz.out.step hst)
          replace Sx := Lib.hid (Sx.out.step hst)
          replace Sy := Lib.hid (Sy.out.step hst)
          replace Sb := Lib.hid (Sb.out.step hst)
          replace Sc := Lib.hid (Sc.out.step hst)
          replace Sp := Lib.hid (Sp.out.step hst)
          replace b := bst b hst
          clear hst hbl
          have dXa : ∀ i, w60.cell? ⟨w.heap.size, i, none⟩ = _ := Bx.cell Xa
          have eXa : ∀ i, w60.frozen? ⟨w.heap.size, i, none⟩ = false := Bx.frozen Xa
          have qXa := Bx.lt Xa
          have dXv : ∀ i, w60.cell? ⟨w.heap.size + 1, i, none⟩ = _ := Bx.cell Xv
          have eXv : ∀ i, w60.frozen? ⟨w.heap.size + 1, i, none⟩ = false := Bx.frozen Xv
          have qXv := Bx.lt Xv
          have dXz : ∀ i, w60.cell? ⟨w.heap.size + 1 + 1, i, none⟩ = _ := Bx.cell Xz
          have eXz : ∀ i, w60.frozen? ⟨w.heap.size + 1 + 1, i, none⟩ = false := Bx.frozen Xz
          have qXz := Bx.lt Xz
          have dXx : ∀ i, w60.cell? ⟨w4.heap.size, i, none⟩ = _ := Bx.cell Xx
          have eXx : ∀ i, w60.frozen? ⟨w4.heap.size, i, none⟩ = false := Bx.frozen Xx
          have qXx := Bx.lt Xx
          have dXy : ∀ i, w60.cell? ⟨w5.heap.size, i, none⟩ = _ := Bx.cell Xy
          have eXy : ∀ i, w60.frozen? ⟨w5.heap.size, i, none⟩ = false := Bx.frozen Xy
          have qXy := Bx.lt Xy
          have dXb : ∀ i, w60.cell? ⟨w6.heap.size, i, none⟩ = _ := Bx.cell Xb
          have eXb : ∀ i, w60.frozen? ⟨w6.heap.size, i, none⟩ = false := Bx.frozen Xb
          have qXb := Bx.lt Xb
          have dXc : ∀ i, w60.cell? ⟨w7.heap.size, i, none⟩ = _ := Bx.cell Xc
          have eXc : ∀ i, w60.frozen? ⟨w7.heap.size, i, none⟩ = false := Bx.frozen Xc
          have qXc := Bx.lt Xc
          have dXp : ∀ i, w60.cell? ⟨w41.heap.size, i, none⟩ = _ := Bx.cell Xp
          have eXp : ∀ i, w60.frozen? ⟨w41.heap.size, i, none⟩ = false := Bx.frozen Xp
          have qXp := Bx.lt Xp
          go_wp2_with fail
          refine (awake_any _).mono ?_
          rintro e wz ⟨rfl, hbz⟩
          go_wp2
          go_ret
          exact ⟨rfl, bst b hbz⟩
set_option maxRecDepth 100000 in
set_option maxHeartbeats 1000000 in
theorem members_f1 (ka ra a0 a1 : Int) (Aa : Option Addr) (na ca : Nat) (xs : List Int) (kv rv v0 v1 : Int) (Av : Option Addr) (nv cv : Nat) (ys : List Int) (kz rz z0 z1 : Int) (Az : Option Addr) (nz cz : Nat) (zs : List Int) (w : World) (hsa : Sl w Aa na ca xs) (hsv : Sl w Av nv cv ys) (hsz : Sl w Az nz cz zs) (ha : isV ka ra a0 a1 xs = false) :
    Calls Try.prog 8 #[.agg #[.int .i64 ka, .int .i64 ra, .int .i64 a0, .int .i64 a1, .slice Aa na ca], .agg #[.int .i64 kv, .int .i64 rv, .int .i64 v0, .int .i64 v1, .slice Av nv cv], .agg #[.int .i64 kz, .int .i64 rz, .int .i64 z0, .int .i64 z1, .slice Az nz cz]] w fun e w' => e = .returned (.bool true) ∧ Below w.heap.size w w' := by
  have Sa := Lib.hid hsa
  have Sv := Lib.hid hsv
  have Sz := Lib.hid hsz
  have HVa := Lib.hid ha
  clear hsa hsv hsz ha
  go_enter Try.func8, Try.ntmps8
  go_wp2_with fail
  refine (vec8_any _ _ _ _ _ _ _ xs false _ (Sa.out.step (below3 _ _ _ _ )) HVa.out).mono ?_
  rintro e w1 ⟨rfl, hst⟩
  obtain ⟨Xa, Xv, Xz, hst⟩ := after3 hst
  replace Sa := Lib.hid (Sa.out.step hst)
  replace Sv := Lib.hid (Sv.out.step hst)
  replace Sz := Lib.hid (Sz.out.step hst)
  have b : Below w.heap.size w w1 := hst
  clear hst
  have dXa : ∀ i, w1.cell? ⟨w.heap.size, i, none⟩ = _ := Bx.cell Xa
  have eXa : ∀ i, w1.frozen? ⟨w.heap.size, i, none⟩ = false := Bx.frozen Xa
  have qXa := Bx.lt Xa
  have dXv : ∀ i, w1.cell? ⟨w.heap.size + 1, i, none⟩ = _ := Bx.cell Xv
  have eXv : ∀ i, w1.frozen? ⟨w.heap.size + 1, i, none⟩ = false := Bx.frozen Xv
  have qXv := Bx.lt Xv
  have dXz : ∀ i, w1.cell? ⟨w.heap.size + 1 + 1, i, none⟩ = _ := Bx.cell Xz
  have eXz : ∀ i, w1.frozen? ⟨w.heap.size + 1 + 1, i, none⟩ = false := Bx.frozen Xz
  have qXz := Bx.lt Xz
  go_wp2_with fail
  refine (awake_any _).mono ?_
  rintro e wz ⟨rfl, hbz⟩
  go_wp2
  go_ret
  exact ⟨rfl, bst b hbz⟩
set_option maxRecDepth 100000 in
set_option maxHeartbeats 1000000 in
theorem members_f2 (ka ra a0 a1 : Int) (Aa : Option Addr) (na ca : Nat) (xs : List Int) (kv rv v0 v1 : Int) (Av : Option Addr) (nv cv : Nat) (ys : List Int) (kz rz z0 z1 : Int) (Az : Option Addr) (nz cz : Nat) (zs : List Int) (w : World) (hsa : Sl w Aa na ca xs) (hsv : Sl w Av nv cv ys) (hsz : Sl w Az nz cz zs) (ha : isV ka ra a0 a1 xs = true)(hv : isV kv rv v0 v1 ys = false) :
    Calls Try.prog 8 #[.agg #[.int .i64 ka, .int .i64 ra, .int .i64 a0, .int .i64 a1, .slice Aa na ca], .agg #[.int .i64 kv, .int .i64 rv, .int .i64 v0, .int .i64 v1, .slice Av nv cv], .agg #[.int .i64 kz, .int .i64 rz, .int .i64 z0, .int .i64 z1, .slice Az nz cz]] w fun e w' => e = .returned (.bool true) ∧ Below w.heap.size w w' := by
  have Sa := Lib.hid hsa
  have Sv := Lib.hid hsv
  have Sz := Lib.hid hsz
  have HVa := Lib.hid ha
  have HVv := Lib.hid hv
  clear hsa hsv hsz ha hv
  go_enter Try.func8, Try.ntmps8
  go_wp2_with fail
  refine (vec8_any _ _ _ _ _ _ _ xs true _ (Sa.out.step (below3 _ _ _ _ )) HVa.out).mono ?_
  rintro e w1 ⟨rfl, hst⟩
  obtain ⟨Xa, Xv, Xz, hst⟩ := after3 hst
  replace Sa := Lib.hid (Sa.out.step hst)
  replace Sv := Lib.hid (Sv.out.step hst)
  replace Sz := Lib.hid (Sz.out.step hst)
  have b : Below w.heap.size w w1 := hst
  clear hst
  have dXa : ∀ i, w1.cell? ⟨w.heap.size, i, none⟩ = _ := Bx.cell Xa
  have eXa : ∀ i, w1.frozen? ⟨w.heap.size, i, none⟩ = false := Bx.frozen Xa
  have qXa := Bx.lt Xa
  have dXv : ∀ i, w1.cell? ⟨w.heap.size + 1, i, none⟩ = _ := Bx.cell Xv
  have eXv : ∀ i, w1.frozen? ⟨w.heap.size + 1, i, none⟩ = false := Bx.frozen Xv
  have qXv := Bx.lt Xv
  have dXz : ∀ i, w1.cell? ⟨w.heap.size + 1 + 1, i, none⟩ = _ := Bx.cell Xz
  have eXz : ∀ i, w1.frozen? ⟨w.heap.size + 1 + 1, i, none⟩ = false := Bx.frozen Xz
  have qXz := Bx.lt Xz
  go_wp2_with fail
  refine (vec8_any _ _ _ _ _ _ _ ys false _ Sv.out HVv.out).mono ?_
  rintro e w2 ⟨rfl, hst⟩
  clear dXa eXa qXa dXv eXv qXv dXz eXz qXz
  replace Xa := Bx.step Xa hst
  replace Xv := Bx.step Xv hst
  replace Xz := Bx.step Xz hst
  replace Sa := Lib.hid (Sa.out.step hst)
  replace Sv := Lib.hid (Sv.out.step hst)
  replace Sz := Lib.hid (Sz.out.step hst)
  replace b : Below w.heap.size w w2 := bst b hst
  clear hst
  have dXa : ∀ i, w2.cell? ⟨w.heap.size, i, none⟩ = _ := Bx.cell Xa
  have eXa : ∀ i, w2.frozen? ⟨w.heap.size, i, none⟩ = false := Bx.frozen Xa
  have qXa := Bx.lt Xa
  have dXv : ∀ i, w2.cell? ⟨w.heap.size + 1, i, none⟩ = _ := Bx.cell Xv
  have eXv : ∀ i, w2.frozen? ⟨w.heap.size + 1, i, none⟩ = false := Bx.frozen Xv
  have qXv := Bx.lt Xv
  have dXz : ∀ i, w2.cell? ⟨w.heap.size + 1 + 1, i, none⟩ = _ := Bx.cell Xz
  have eXz : ∀ i, w2.frozen? ⟨w.heap.size + 1 + 1, i, none⟩ = false := Bx.frozen Xz
  have qXz := Bx.lt Xz
  go_wp2_with fail
  refine (awake_any _).mono ?_
  rintro e wz ⟨rfl, hbz⟩
  go_wp2
  go_ret
  exact ⟨rfl, bst b hbz⟩
set_option maxRecDepth 100000 in
set_option maxHeartbeats 1000000 in
theorem members_f3 (ka ra a0 a1 : Int) (Aa : Option Addr) (na ca : Nat) (xs : List Int) (kv rv v0 v1 : Int) (Av : Option Addr) (nv cv : Nat) (ys : List Int) (kz rz z0 z1 : Int) (Az : Option Addr) (nz cz : Nat) (zs : List Int) (w : World) (hsa : Sl w Aa na ca xs) (hsv : Sl w Av nv cv ys) (hsz : Sl w Az nz cz zs) (ha : isV ka ra a0 a1 xs = true)(hv : isV kv rv v0 v1 ys = true)(hz : isV kz rz z0 z1 zs = false) :
    Calls Try.prog 8 #[.agg #[.int .i64 ka, .int .i64 ra, .int .i64 a0, .int .i64 a1, .slice Aa na ca], .agg #[.int .i64 kv, .int .i64 rv, .int .i64 v0, .int .i64 v1, .slice Av nv cv], .agg #[.int .i64 kz, .int .i64 rz, .int .i64 z0, .int .i64 z1, .slice Az nz cz]] w fun e w' => e = .returned (.bool true) ∧ Below w.heap.size w w' := by
  have Sa := Lib.hid hsa
  have Sv := Lib.hid hsv
  have Sz := Lib.hid hsz
  have HVa := Lib.hid ha
  have HVv := Lib.hid hv
  have HVz := Lib.hid hz
  clear hsa hsv hsz ha hv hz
  go_enter Try.func8, Try.ntmps8
  go_wp2_with fail
  refine (vec8_any _ _ _ _ _ _ _ xs true _ (Sa.out.step (below3 _ _ _ _ )) HVa.out).mono ?_
  rintro e w1 ⟨rfl, hst⟩
  obtain ⟨Xa, Xv, Xz, hst⟩ := after3 hst
  replace Sa := Lib.hid (Sa.out.step hst)
  replace Sv := Lib.hid (Sv.out.step hst)
  replace Sz := Lib.hid (Sz.out.step hst)
  have b : Below w.heap.size w w1 := hst
  clear hst
  have dXa : ∀ i, w1.cell? ⟨w.heap.size, i, none⟩ = _ := Bx.cell Xa
  have eXa : ∀ i, w1.frozen? ⟨w.heap.size, i, none⟩ = false := Bx.frozen Xa
  have qXa := Bx.lt Xa
  have dXv : ∀ i, w1.cell? ⟨w.heap.size + 1, i, none⟩ = _ := Bx.cell Xv
  have eXv : ∀ i, w1.frozen? ⟨w.heap.size + 1, i, none⟩ = false := Bx.frozen Xv
  have qXv := Bx.lt Xv
  have dXz : ∀ i, w1.cell? ⟨w.heap.size + 1 + 1, i, none⟩ = _ := Bx.cell Xz
  have eXz : ∀ i, w1.frozen? ⟨w.heap.size + 1 + 1, i, none⟩ = false := Bx.frozen Xz
  have qXz := Bx.lt Xz
  go_wp2_with fail
  refine (vec8_any _ _ _ _ _ _ _ ys true _ Sv.out HVv.out).mono ?_
  rintro e w2 ⟨rfl, hst⟩
  clear dXa eXa qXa dXv eXv qXv dXz eXz qXz
  replace Xa := Bx.step Xa hst
  replace Xv := Bx.step Xv hst
  replace Xz := Bx.step Xz hst
  replace Sa := Lib.hid (Sa.out.step hst)
  replace Sv := Lib.hid (Sv.out.step hst)
  replace Sz := Lib.hid (Sz.out.step hst)
  replace b : Below w.heap.size w w2 := bst b hst
  clear hst
  have dXa : ∀ i, w2.cell? ⟨w.heap.size, i, none⟩ = _ := Bx.cell Xa
  have eXa : ∀ i, w2.frozen? ⟨w.heap.size, i, none⟩ = false := Bx.frozen Xa
  have qXa := Bx.lt Xa
  have dXv : ∀ i, w2.cell? ⟨w.heap.size + 1, i, none⟩ = _ := Bx.cell Xv
  have eXv : ∀ i, w2.frozen? ⟨w.heap.size + 1, i, none⟩ = false := Bx.frozen Xv
  have qXv := Bx.lt Xv
  have dXz : ∀ i, w2.cell? ⟨w.heap.size + 1 + 1, i, none⟩ = _ := Bx.cell Xz
  have eXz : ∀ i, w2.frozen? ⟨w.heap.size + 1 + 1, i, none⟩ = false := Bx.frozen Xz
  have qXz := Bx.lt Xz
  go_wp2_with fail
  refine (vec8_any _ _ _ _ _ _ _ zs false _ Sz.out HVz.out).mono ?_
  rintro e w3 ⟨rfl, hst⟩
  clear dXa eXa qXa dXv eXv qXv dXz eXz qXz
  replace Xa := Bx.step Xa hst
  replace Xv := Bx.step Xv hst
  replace Xz := Bx.step Xz hst
  replace Sa := Lib.hid (Sa.out.step hst)
  replace Sv := Lib.hid (Sv.out.step hst)
  replace Sz := Lib.hid (Sz.out.step hst)
  replace b : Below w.heap.size w w3 := bst b hst
  clear hst
  have dXa : ∀ i, w3.cell? ⟨w.heap.size, i, none⟩ = _ := Bx.cell Xa
  have eXa : ∀ i, w3.frozen? ⟨w.heap.size, i, none⟩ = false := Bx.frozen Xa
  have qXa := Bx.lt Xa
  have dXv : ∀ i, w3.cell? ⟨w.heap.size + 1, i, none⟩ = _ := Bx.cell Xv
  have eXv : ∀ i, w3.frozen? ⟨w.heap.size + 1, i, none⟩ = false := Bx.frozen Xv
  have qXv := Bx.lt Xv
  have dXz : ∀ i, w3.cell? ⟨w.heap.size + 1 + 1, i, none⟩ = _ := Bx.cell Xz
  have eXz : ∀ i, w3.frozen? ⟨w.heap.size + 1 + 1, i, none⟩ = false := Bx.frozen Xz
  have qXz := Bx.lt Xz
  go_wp2_with fail
  refine (awake_any _).mono ?_
  rintro e wz ⟨rfl, hbz⟩
  go_wp2
  go_ret
  exact ⟨rfl, bst b hbz⟩
set_option maxRecDepth 100000 in
set_option maxHeartbeats 1000000 in
theorem members_f4 (ka ra a0 a1 : Int) (Aa : Option Addr) (na ca : Nat) (xs : List Int) (kv rv v0 v1 : Int) (Av : Option Addr) (nv cv : Nat) (ys : List Int) (kz rz z0 z1 : Int) (Az : Option Addr) (nz cz : Nat) (zs : List Int) (w : World) (hsa : Sl w Aa na ca xs) (hsv : Sl w Av nv cv ys) (hsz : Sl w Az nz cz zs) (ha : isV ka ra a0 a1 xs = true)(hv : isV kv rv v0 v1 ys = true)(hz : isV kz rz z0 z1 zs = true) (hk : (ka != kv) = true) :
    Calls Try.prog 8 #[.agg #[.int .i64 ka, .int .i64 ra, .int .i64 a0, .int .i64 a1, .slice Aa na ca], .agg #[.int .i64 kv, .int .i64 rv, .int .i64 v0, .int .i64 v1, .slice Av nv cv], .agg #[.int .i64 kz, .int .i64 rz, .int .i64 z0, .int .i64 z1, .slice Az nz cz]] w fun e w' => e = .returned (.bool true) ∧ Below w.heap.size w w' := by
  have Sa := Lib.hid hsa
  have Sv := Lib.hid hsv
  have Sz := Lib.hid hsz
  have HVa := Lib.hid ha
  have HVv := Lib.hid hv
  have HVz := Lib.hid hz
  clear hsa hsv hsz ha hv hz
  go_enter Try.func8, Try.ntmps8
  go_wp2_with fail
  refine (vec8_any _ _ _ _ _ _ _ xs true _ (Sa.out.step (below3 _ _ _ _ )) HVa.out).mono ?_
  rintro e w1 ⟨rfl, hst⟩
  obtain ⟨Xa, Xv, Xz, hst⟩ := after3 hst
  replace Sa := Lib.hid (Sa.out.step hst)
  replace Sv := Lib.hid (Sv.out.step hst)
  replace Sz := Lib.hid (Sz.out.step hst)
  have b : Below w.heap.size w w1 := hst
  clear hst
  have dXa : ∀ i, w1.cell? ⟨w.heap.size, i, none⟩ = _ := Bx.cell Xa
  have eXa : ∀ i, w1.frozen? ⟨w.heap.size, i, none⟩ = false := Bx.frozen Xa
  have qXa := Bx.lt Xa
  have dXv : ∀ i, w1.cell? ⟨w.heap.size + 1, i, none⟩ = _ := Bx.cell Xv
  have eXv : ∀ i, w1.frozen? ⟨w.heap.size + 1, i, none⟩ = false := Bx.frozen Xv
  have qXv := Bx.lt Xv
  have dXz : ∀ i, w1.cell? ⟨w.heap.size + 1 + 1, i, none⟩ = _ := Bx.cell Xz
  have eXz : ∀ i, w1.frozen? ⟨w.heap.size + 1 + 1, i, none⟩ = false := Bx.frozen Xz
  have qXz := Bx.lt Xz
  go_wp2_with fail
  refine (vec8_any _ _ _ _ _ _ _ ys true _ Sv.out HVv.out).mono ?_
  rintro e w2 ⟨rfl, hst⟩
  clear dXa eXa qXa dXv eXv qXv dXz eXz qXz
  replace Xa := Bx.step Xa hst
  replace Xv := Bx.step Xv hst
  replace Xz := Bx.step Xz hst
  replace Sa := Lib.hid (Sa.out.step hst)
  replace Sv := Lib.hid (Sv.out.step hst)
  replace Sz := Lib.hid (Sz.out.step hst)
  replace b : Below w.heap.size w w2 := bst b hst
  clear hst
  have dXa : ∀ i, w2.cell? ⟨w.heap.size, i, none⟩ = _ := Bx.cell Xa
  have eXa : ∀ i, w2.frozen? ⟨w.heap.size, i, none⟩ = false := Bx.frozen Xa
  have qXa := Bx.lt Xa
  have dXv : ∀ i, w2.cell? ⟨w.heap.size + 1, i, none⟩ = _ := Bx.cell Xv
  have eXv : ∀ i, w2.frozen? ⟨w.heap.size + 1, i, none⟩ = false := Bx.frozen Xv
  have qXv := Bx.lt Xv
  have dXz : ∀ i, w2.cell? ⟨w.heap.size + 1 + 1, i, none⟩ = _ := Bx.cell Xz
  have eXz : ∀ i, w2.frozen? ⟨w.heap.size + 1 + 1, i, none⟩ = false := Bx.frozen Xz
  have qXz := Bx.lt Xz
  go_wp2_with fail
  refine (vec8_any _ _ _ _ _ _ _ zs true _ Sz.out HVz.out).mono ?_
  rintro e w3 ⟨rfl, hst⟩
  clear dXa eXa qXa dXv eXv qXv dXz eXz qXz
  replace Xa := Bx.step Xa hst
  replace Xv := Bx.step Xv hst
  replace Xz := Bx.step Xz hst
  replace Sa := Lib.hid (Sa.out.step hst)
  replace Sv := Lib.hid (Sv.out.step hst)
  replace Sz := Lib.hid (Sz.out.step hst)
  replace b : Below w.heap.size w w3 := bst b hst
  clear hst
  have dXa : ∀ i, w3.cell? ⟨w.heap.size, i, none⟩ = _ := Bx.cell Xa
  have eXa : ∀ i, w3.frozen? ⟨w.heap.size, i, none⟩ = false := Bx.frozen Xa
  have qXa := Bx.lt Xa
  have dXv : ∀ i, w3.cell? ⟨w.heap.size + 1, i, none⟩ = _ := Bx.cell Xv
  have eXv : ∀ i, w3.frozen? ⟨w.heap.size + 1, i, none⟩ = false := Bx.frozen Xv
  have qXv := Bx.lt Xv
  have dXz : ∀ i, w3.cell? ⟨w.heap.size + 1 + 1, i, none⟩ = _ := Bx.cell Xz
  have eXz : ∀ i, w3.frozen? ⟨w.heap.size + 1 + 1, i, none⟩ = false := Bx.frozen Xz
  have qXz := Bx.lt Xz
  go_wp2_with fail
  refine (awake_any _).mono ?_
  rintro e wz ⟨rfl, hbz⟩
  go_wp2
  go_ret
  exact ⟨rfl, bst b hbz⟩
set_option maxRecDepth 100000 in
set_option maxHeartbeats 1000000 in
theorem members_f5 (ka ra a0 a1 : Int) (Aa : Option Addr) (na ca : Nat) (xs : List Int) (kv rv v0 v1 : Int) (Av : Option Addr) (nv cv : Nat) (ys : List Int) (kz rz z0 z1 : Int) (Az : Option Addr) (nz cz : Nat) (zs : List Int) (w : World) (hsa : Sl w Aa na ca xs) (hsv : Sl w Av nv cv ys) (hsz : Sl w Az nz cz zs) (ha : isV ka ra a0 a1 xs = true)(hv : isV kv rv v0 v1 ys = true)(hz : isV kz rz z0 z1 zs = true) (hk : (ka != kv) = false) (hk2 : (kv != kz) = true) :
    Calls Try.prog 8 #[.agg #[.int .i64 ka, .int .i64 ra, .int .i64 a0, .int .i64 a1, .slice Aa na ca], .agg #[.int .i64 kv, .int .i64 rv, .int .i64 v0, .int .i64 v1, .slice Av nv cv], .agg #[.int .i64 kz, .int .i64 rz, .int .i64 z0, .int .i64 z1, .slice Az nz cz]] w fun e w' => e = .returned (.bool true) ∧ Below w.heap.size w w' := by
  have Sa := Lib.hid hsa
  have Sv := Lib.hid hsv
  have Sz := Lib.hid hsz
  have HVa := Lib.hid ha
  have HVv := Lib.hid hv
  have HVz := Lib.hid hz
  clear hsa hsv hsz ha hv hz
  go_enter Try.func8, Try.ntmps8
  go_wp2_with fail
  refine (vec8_any _ _ _ _ _ _ _ xs true _ (Sa.out.step (below3 _ _ _ _ )) HVa.out).mono ?_
  rintro e w1 ⟨rfl, hst⟩
  obtain ⟨Xa, Xv, Xz, hst⟩ := after3 hst
  replace Sa := Lib.hid (Sa.out.step hst)
  replace Sv := Lib.hid (Sv.out.step hst)
  replace Sz := Lib.hid (Sz.out.step hst)
  have b : Below w.heap.size w w1 := hst
  clear hst
  have dXa : ∀ i, w1.cell? ⟨w.heap.size, i, none⟩ = _ := Bx.cell Xa
  have eXa : ∀ i, w1.frozen? ⟨w.heap.size, i, none⟩ = false := Bx.frozen Xa
  have qXa := Bx.lt Xa
  have dXv : ∀ i, w1.cell? ⟨w.heap.size + 1, i, none⟩ = _ := Bx.cell Xv
  have eXv : ∀ i, w1.frozen? ⟨w.heap.size + 1, i, none⟩ = false := Bx.frozen Xv
  have qXv := Bx.lt Xv
  have dXz : ∀ i, w1.cell? ⟨w.heap.size + 1 + 1, i, none⟩ = _ := Bx.cell Xz
  have eXz : ∀ i, w1.frozen? ⟨w.heap.size + 1 + 1, i, none⟩ = false := Bx.frozen Xz
  have qXz := Bx.lt Xz
  go_wp2_with fail
  refine (vec8_any _ _ _ _ _ _ _ ys true _ Sv.out HVv.out).mono ?_
  rintro e w2 ⟨rfl, hst⟩
  clear dXa eXa qXa dXv eXv qXv dXz eXz qXz
  replace Xa := Bx.step Xa hst
  replace Xv := Bx.step Xv hst
  replace Xz := Bx.step Xz hst
  replace Sa := Lib.hid (Sa.out.step hst)
  replace Sv := Lib.hid (Sv.out.step hst)
  replace Sz := Lib.hid (Sz.out.step hst)
  replace b : Below w.heap.size w w2 := bst b hst
  clear hst
  have dXa : ∀ i, w2.cell? ⟨w.heap.size, i, none⟩ = _ := Bx.cell Xa
  have eXa : ∀ i, w2.frozen? ⟨w.heap.size, i, none⟩ = false := Bx.frozen Xa
  have qXa := Bx.lt Xa
  have dXv : ∀ i, w2.cell? ⟨w.heap.size + 1, i, none⟩ = _ := Bx.cell Xv
  have eXv : ∀ i, w2.frozen? ⟨w.heap.size + 1, i, none⟩ = false := Bx.frozen Xv
  have qXv := Bx.lt Xv
  have dXz : ∀ i, w2.cell? ⟨w.heap.size + 1 + 1, i, none⟩ = _ := Bx.cell Xz
  have eXz : ∀ i, w2.frozen? ⟨w.heap.size + 1 + 1, i, none⟩ = false := Bx.frozen Xz
  have qXz := Bx.lt Xz
  go_wp2_with fail
  refine (vec8_any _ _ _ _ _ _ _ zs true _ Sz.out HVz.out).mono ?_
  rintro e w3 ⟨rfl, hst⟩
  clear dXa eXa qXa dXv eXv qXv dXz eXz qXz
  replace Xa := Bx.step Xa hst
  replace Xv := Bx.step Xv hst
  replace Xz := Bx.step Xz hst
  replace Sa := Lib.hid (Sa.out.step hst)
  replace Sv := Lib.hid (Sv.out.step hst)
  replace Sz := Lib.hid (Sz.out.step hst)
  replace b : Below w.heap.size w w3 := bst b hst
  clear hst
  have dXa : ∀ i, w3.cell? ⟨w.heap.size, i, none⟩ = _ := Bx.cell Xa
  have eXa : ∀ i, w3.frozen? ⟨w.heap.size, i, none⟩ = false := Bx.frozen Xa
  have qXa := Bx.lt Xa
  have dXv : ∀ i, w3.cell? ⟨w.heap.size + 1, i, none⟩ = _ := Bx.cell Xv
  have eXv : ∀ i, w3.frozen? ⟨w.heap.size + 1, i, none⟩ = false := Bx.frozen Xv
  have qXv := Bx.lt Xv
  have dXz : ∀ i, w3.cell? ⟨w.heap.size + 1 + 1, i, none⟩ = _ := Bx.cell Xz
  have eXz : ∀ i, w3.frozen? ⟨w.heap.size + 1 + 1, i, none⟩ = false := Bx.frozen Xz
  have qXz := Bx.lt Xz
  go_wp2_with fail
  refine (awake_any _).mono ?_
  rintro e wz ⟨rfl, hbz⟩
  go_wp2
  go_ret
  exact ⟨rfl, bst b hbz⟩
theorem lawMembers8 (ka ra a0 a1 : Int) (Aa : Option Addr) (na ca : Nat) (xs : List Int) (kv rv v0 v1 : Int) (Av : Option Addr) (nv cv : Nat) (ys : List Int) (kz rz z0 z1 : Int) (Az : Option Addr) (nz cz : Nat) (zs : List Int) (w : World) (hsa : Sl w Aa na ca xs) (hsv : Sl w Av nv cv ys) (hsz : Sl w Az nz cz zs) (hwa : ∀ x ∈ xs, -9223372036854775808 ≤ x ∧ x ≤ 9223372036854775807) (hwv : ∀ x ∈ ys, -9223372036854775808 ≤ x ∧ x ≤ 9223372036854775807) (hwz : ∀ x ∈ zs, -9223372036854775808 ≤ x ∧ x ≤ 9223372036854775807) :
    Calls Try.prog 8 #[.agg #[.int .i64 ka, .int .i64 ra, .int .i64 a0, .int .i64 a1, .slice Aa na ca], .agg #[.int .i64 kv, .int .i64 rv, .int .i64 v0, .int .i64 v1, .slice Av nv cv], .agg #[.int .i64 kz, .int .i64 rz, .int .i64 z0, .int .i64 z1, .slice Az nz cz]] w fun e w' => e = .returned (.bool true) ∧ Below w.heap.size w w' := by
  by_cases h1 : achk ka ra a0 a1 xs = 0 ∧ ra = 1
  · by_cases h2 : achk kv rv v0 v1 ys = 0 ∧ rv = 1
    · by_cases h3 : achk kz rz z0 z1 zs = 0 ∧ rz = 1
      · by_cases e1 : ka = kv
        · by_cases e2 : kv = kz
          · subst e1 e2
            obtain ⟨a1', rfl⟩ := h1
            obtain ⟨a2', rfl⟩ := h2
            obtain ⟨a3', rfl⟩ := h3
            obtain ⟨_, rfl, rfl, _⟩ := vec_ok a1'
            obtain ⟨_, rfl, rfl, _⟩ := vec_ok a2'
            obtain ⟨_, rfl, rfl, _⟩ := vec_ok a3'
            have l1 := hsa.len
            have l2 := hsv.len
            have l3 := hsz.len
            rw [l1] at a1' ⊢
            rw [l2] at a2' ⊢
            rw [l3] at a3' ⊢
            by_cases hb : 400 < nv + nz
            · exact members_big ka Aa na ca xs Av nv cv ys Az nz cz zs w hsa hsv hsz a1' a2' a3' hwa hwv hwz hb
            · exact members_ok ka Aa na ca xs Av nv cv ys Az nz cz zs w hsa hsv hsz a1' a2' a3' hwa hwv hwz hb
          · exact members_f5 ka ra a0 a1 Aa na ca xs kv rv v0 v1 Av nv cv ys kz rz z0 z1 Az nz cz zs w hsa hsv hsz (decide_eq_true h1) (decide_eq_true h2) (decide_eq_true h3) (by simpa using e1) (by simpa using e2)
        · exact members_f4 ka ra a0 a1 Aa na ca xs kv rv v0 v1 Av nv cv ys kz rz z0 z1 Az nz cz zs w hsa hsv hsz (decide_eq_true h1) (decide_eq_true h2) (decide_eq_true h3) (by simpa using e1)
      · exact members_f3 ka ra a0 a1 Aa na ca xs kv rv v0 v1 Av nv cv ys kz rz z0 z1 Az nz cz zs w hsa hsv hsz (decide_eq_true h1) (decide_eq_true h2) (decide_eq_false h3)
    · exact members_f2 ka ra a0 a1 Aa na ca xs kv rv v0 v1 Av nv cv ys kz rz z0 z1 Az nz cz zs w hsa hsv hsz (decide_eq_true h1) (decide_eq_false h2)
  · exact members_f1 ka ra a0 a1 Aa na ca xs kv rv v0 v1 Av nv cv ys kz rz z0 z1 Az nz cz zs w hsa hsv hsz (decide_eq_false h1)
end Go.Proofs.Ytfbloddffhafdaa

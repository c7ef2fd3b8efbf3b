/-
  The law FindsGrids: its walk.
-/
import Derived.Deep.CutRange
import Derived.Test.YtfbloddffhafdaaVec8
import Derived.Test.YtfbloddffhafdaaFok
import Derived.Test.YtfbloddffhafdaaRgv
namespace Go.Proofs.Ytfbloddffhafdaa
open Go.RowKit

set_option maxRecDepth 100000 in
set_option maxHeartbeats 4000000 in
theorem grids_r0 (k : Int) (Aa : Option Addr) (ca : Nat) (xs : List Int) (z : Int) (w : World) (hsa : Sl w Aa 1 ca xs) (ha : achk k 0 0 0 xs = 0) (hz0 : 0 ≤ z) (hz1 : z < 65536) :
    Calls Try.prog 10 #[.agg #[.int .i64 k, .int .i64 0, .int .i64 0, .int .i64 0, .slice Aa 1 ca], .int .u16 z] w fun e w' => e = .returned (.bool true) ∧ Below w.heap.size w w' := by
  have Sa := Lib.hid hsa
  have HC := Lib.hid ha
  have hl := hsa.len
  have HS := Lib.hid (show sShape ⟨k, 0, 0, 0, xs⟩ = (⟨1, 1, 0, 0, []⟩, 0) from by unfold sShape chkA; simp only [ha]; rfl)
  obtain ⟨Z, rfl⟩ : ∃ Z : Nat, z = (Z : Int) := ⟨z.toNat, by omega⟩
  obtain ⟨zz, hzz⟩ : ∃ zz : Nat, Z % 401 = zz := ⟨_, rfl⟩
  have hz4 : zz ≤ 400 := by omega
  have hrem : Int.tmod (Z : Int) 401 = (zz : Int) := by rw [← hzz]; rfl
  have HI := Lib.hid (show sIota ⟨1, 0, 0, 0, [(zz : Int)]⟩ = (⟨1, 1, (zz : Int), 0, iotaL zz⟩, 0) from sIota_int hz4)
  have hic : achk 1 1 (zz : Int) 0 (iotaL zz) = 0 := ivec_mk' (iotaL_len zz) hz4
  have HT := Lib.hid (show sShape ⟨1, 1, (zz : Int), 0, iotaL zz⟩ = (⟨1, 1, 1, 0, [(zz : Int)]⟩, 0) from by unfold sShape chkA; simp only [hic]; rfl)
  have hoc : achk 1 1 1 0 [(zz : Int)] = 0 := ivec_mk (xs := [(zz : Int)]) (by simp)
  have h0c : achk 1 0 0 0 [(0 : Int)] = 0 := achk_mk (.inl rfl) (by decide) rfl fun x _ => right_int x
  have HE := Lib.hid (show sFAt ⟨1, 1, 1, 0, [(zz : Int)]⟩ ⟨1, 0, 0, 0, [0]⟩ = (⟨1, 0, 0, 0, [(zz : Int)]⟩, 0) from by have e : atE ⟨1, 1, 1, 0, [(zz : Int)]⟩ ⟨1, 0, 0, 0, [0]⟩ = 0 := (by unfold atE chkA; simp only [hoc, h0c]; rfl); unfold sFAt; rw [if_neg (fun g => g e)]; rfl)
  have LI := Lib.hid (iotaL_len zz)
  have hf : ¬ 405 < 1 := by omega
  clear hsa ha hl hzz hic hoc h0c hz0 hz1
  go_enter Try.func10, Try.ntmps10
  go_wp2_with fail
  refine (far_any _ _ _ _ _ _ _ _).mono ?_
  rintro e w1 ⟨rfl, hst⟩
  obtain ⟨Xa, hst⟩ := after1 hst
  replace Sa := Lib.hid (Sa.out.step hst)
  have b : Below w.heap.size w w1 := hst
  clear hst
  rw [decide_eq_false hf]
  have dXa : ∀ i, w1.cell? ⟨w.heap.size, i, none⟩ = _ := Bx.cell Xa
  have eXa : ∀ i, w1.frozen? ⟨w.heap.size, i, none⟩ = false := Bx.frozen Xa
  have qXa := Bx.lt Xa
  go_wp2_with fail
  refine (racheck_any k 0 0 0 Aa 1 ca xs 0 _ Sa.out HC.out).mono ?_
  rintro e w2 ⟨rfl, hst⟩
  clear dXa eXa qXa
  replace Xa := Bx.step Xa hst
  replace Sa := Lib.hid (Sa.out.step hst)
  replace b : Below w.heap.size w w2 := bst b hst
  clear hst
  have dXa : ∀ i, w2.cell? ⟨w.heap.size, i, none⟩ = _ := Bx.cell Xa
  have eXa : ∀ i, w2.frozen? ⟨w.heap.size, i, none⟩ = false := Bx.frozen Xa
  have qXa := Bx.lt Xa
  go_wp2_with fail
  refine (fshape_any k 0 0 0 Aa 1 ca xs _ _ Sa.out HS.out).mono ?_
  intro e w3 hR
  obtain ⟨A3, n3, c3, rfl, hS3, hN3, hst⟩ := RetA.flat hR
  clear hR
  clear dXa eXa qXa
  replace Xa := Bx.step Xa hst
  replace Sa := Lib.hid (Sa.out.step hst)
  replace b : Below w.heap.size w w3 := bst b hst
  clear hst
  have Ss := Lib.hid hS3
  have NSs := Lib.hid hN3
  clear hS3 hN3
  obtain rfl : n3 = 0 := Ss.out.len.symm
  have dXa : ∀ i, w3.cell? ⟨w.heap.size, i, none⟩ = _ := Bx.cell Xa
  have eXa : ∀ i, w3.frozen? ⟨w.heap.size, i, none⟩ = false := Bx.frozen Xa
  have qXa := Bx.lt Xa
  go_upto_if 52 with fail
  have Xs := Bx.new w3 #[.int .i64 1, .int .i64 1, .int .i64 0, .int .i64 0, .slice A3 0 c3] 25
  have hst := below1 w3 (.cells #[.int .i64 1, .int .i64 1, .int .i64 0, .int .i64 0, .slice A3 0 c3] 25)
  obtain ⟨w4, hw_⟩ : ∃ w4, w3.alloc (.cells #[.int .i64 1, .int .i64 1, .int .i64 0, .int .i64 0, .slice A3 0 c3] 25) = w4 := ⟨_, rfl⟩
  rw [hw_] at Xs hst
  rw [hw_]
  clear hw_
  clear dXa eXa qXa
  replace Xa := Bx.step Xa hst
  replace Sa := Lib.hid (Sa.out.step hst)
  replace Ss := Lib.hid (Ss.out.step hst)
  replace b := bst b hst
  clear hst
  have dXa : ∀ i, w4.cell? ⟨w.heap.size, i, none⟩ = _ := Bx.cell Xa
  have eXa : ∀ i, w4.frozen? ⟨w.heap.size, i, none⟩ = false := Bx.frozen Xa
  have qXa := Bx.lt Xa
  have dXs : ∀ i, w4.cell? ⟨w3.heap.size, i, none⟩ = _ := Bx.cell Xs
  have eXs : ∀ i, w4.frozen? ⟨w3.heap.size, i, none⟩ = false := Bx.frozen Xs
  have qXs := Bx.lt Xs
  go_wp2_with fail
  refine wp_loop_rounds 1 ?_
  rw [rounds_succ]
  go_wp2_with fail
  refine (int_any (zz : Int) _).mono ?_
  rintro e w5 ⟨⟨A5, n5, c5, rfl, hS5, hN5⟩, hst⟩
  clear dXa eXa qXa dXs eXs qXs
  replace Xa := Bx.step Xa hst
  replace Xs := Bx.step Xs hst
  replace Sa := Lib.hid (Sa.out.step hst)
  replace Ss := Lib.hid (Ss.out.step hst)
  replace b : Below w.heap.size w w5 := bst b hst
  clear hst
  have Sn := Lib.hid hS5
  have NSn := Lib.hid hN5
  clear hS5 hN5
  clear hrem
  have dXa : ∀ i, w5.cell? ⟨w.heap.size, i, none⟩ = _ := Bx.cell Xa
  have eXa : ∀ i, w5.frozen? ⟨w.heap.size, i, none⟩ = false := Bx.frozen Xa
  have qXa := Bx.lt Xa
  have dXs : ∀ i, w5.cell? ⟨w3.heap.size, i, none⟩ = _ := Bx.cell Xs
  have eXs : ∀ i, w5.frozen? ⟨w3.heap.size, i, none⟩ = false := Bx.frozen Xs
  have qXs := Bx.lt Xs
  go_wp2_with fail
  refine (fiota_any 1 0 0 0 A5 n5 c5 [(zz : Int)] _ _ (Sn.out.step (below1 _ _ )) HI.out).mono ?_
  intro e w6 hR
  obtain ⟨A6, n6, c6, rfl, hS6, hN6, hst⟩ := RetA.flat hR
  clear hR
  clear dXa eXa qXa dXs eXs qXs
  obtain ⟨Xn, hst⟩ := after1 hst
  replace Xa := Bx.step Xa hst
  replace Xs := Bx.step Xs hst
  replace Sa := Lib.hid (Sa.out.step hst)
  replace Ss := Lib.hid (Ss.out.step hst)
  replace Sn := Lib.hid (Sn.out.step hst)
  replace b : Below w.heap.size w w6 := bst b hst
  clear hst
  have Sal := Lib.hid hS6
  have NSal := Lib.hid hN6
  clear hS6 hN6
  obtain rfl : zz = n6 := LI.out.symm.trans Sal.out.len
  have dXa : ∀ i, w6.cell? ⟨w.heap.size, i, none⟩ = _ := Bx.cell Xa
  have eXa : ∀ i, w6.frozen? ⟨w.heap.size, i, none⟩ = false := Bx.frozen Xa
  have qXa := Bx.lt Xa
  have dXs : ∀ i, w6.cell? ⟨w3.heap.size, i, none⟩ = _ := Bx.cell Xs
  have eXs : ∀ i, w6.frozen? ⟨w3.heap.size, i, none⟩ = false := Bx.frozen Xs
  have qXs := Bx.lt Xs
  have dXn : ∀ i, w6.cell? ⟨w5.heap.size, i, none⟩ = _ := Bx.cell Xn
  have eXn : ∀ i, w6.frozen? ⟨w5.heap.size, i, none⟩ = false := Bx.frozen Xn
  have qXn := Bx.lt Xn
  go_wp2_with fail
  refine (fshape_any 1 1 (zz : Int) 0 A6 zz c6 (iotaL zz) _ _ (Sal.out.step (below1 _ _ )) HT.out).mono ?_
  intro e w7 hR
  obtain ⟨A7, n7, c7, rfl, hS7, hN7, hst⟩ := RetA.flat hR
  clear hR
  clear dXa eXa qXa dXs eXs qXs dXn eXn qXn
  obtain ⟨Xl, hst⟩ := after1 hst
  replace Xa := Bx.step Xa hst
  replace Xs := Bx.step Xs hst
  replace Xn := Bx.step Xn hst
  replace Sa := Lib.hid (Sa.out.step hst)
  replace Ss := Lib.hid (Ss.out.step hst)
  replace Sn := Lib.hid (Sn.out.step hst)
  replace Sal := Lib.hid (Sal.out.step hst)
  replace b : Below w.heap.size w w7 := bst b hst
  clear hst
  have St := Lib.hid hS7
  have NSt := Lib.hid hN7
  clear hS7 hN7
  obtain rfl : n7 = 1 := St.out.len.symm
  have dXa : ∀ i, w7.cell? ⟨w.heap.size, i, none⟩ = _ := Bx.cell Xa
  have eXa : ∀ i, w7.frozen? ⟨w.heap.size, i, none⟩ = false := Bx.frozen Xa
  have qXa := Bx.lt Xa
  have dXs : ∀ i, w7.cell? ⟨w3.heap.size, i, none⟩ = _ := Bx.cell Xs
  have eXs : ∀ i, w7.frozen? ⟨w3.heap.size, i, none⟩ = false := Bx.frozen Xs
  have qXs := Bx.lt Xs
  have dXn : ∀ i, w7.cell? ⟨w5.heap.size, i, none⟩ = _ := Bx.cell Xn
  have eXn : ∀ i, w7.frozen? ⟨w5.heap.size, i, none⟩ = false := Bx.frozen Xn
  have qXn := Bx.lt Xn
  have dXl : ∀ i, w7.cell? ⟨w6.heap.size, i, none⟩ = _ := Bx.cell Xl
  have eXl : ∀ i, w7.frozen? ⟨w6.heap.size, i, none⟩ = false := Bx.frozen Xl
  have qXl := Bx.lt Xl
  go_upto_region 21 with fail
  have Xt := Bx.new w7 #[.int .i64 1, .int .i64 1, .int .i64 1, .int .i64 0, .slice A7 1 c7] 25
  have hst := below1 w7 (.cells #[.int .i64 1, .int .i64 1, .int .i64 1, .int .i64 0, .slice A7 1 c7] 25)
  obtain ⟨w8, hw_⟩ : ∃ w8, w7.alloc (.cells #[.int .i64 1, .int .i64 1, .int .i64 1, .int .i64 0, .slice A7 1 c7] 25) = w8 := ⟨_, rfl⟩
  rw [hw_] at Xt hst
  rw [hw_]
  clear hw_
  clear dXa eXa qXa dXs eXs qXs dXn eXn qXn dXl eXl qXl
  replace Xa := Bx.step Xa hst
  replace Xs := Bx.step Xs hst
  replace Xn := Bx.step Xn hst
  replace Xl := Bx.step Xl hst
  replace Sa := Lib.hid (Sa.out.step hst)
  replace Ss := Lib.hid (Ss.out.step hst)
  replace Sn := Lib.hid (Sn.out.step hst)
  replace Sal := Lib.hid (Sal.out.step hst)
  replace St := Lib.hid (St.out.step hst)
  replace b := bst b hst
  clear hst
  go_cut [18, 19] from 109 to 114 (fun p e wx => ∃ (B : Nat) (A : Option Addr) (n c : Nat), p = .pointer (some ⟨B, 0, none⟩) ∧ e = .int .i64 0 ∧ Below w8.heap.size w8 wx ∧ Hid (Bx wx B #[.int .i64 1, .int .i64 0, .int .i64 0, .int .i64 0, .slice A n c] 25) ∧ Hid (Sl wx A n c [(zz : Int)]) ∧ w8.heap.size ≤ B ∧ Hid (New w8 A) ∧ Hid (0 < n → ∀ b o, A = some ⟨b, o, none⟩ → b ≠ B))
  case first =>
    have hS : ∀ u, Below w8.heap.size w8 u → (∀ i, u.cell? ⟨w7.heap.size, i, none⟩ = #[.int .i64 1, .int .i64 1, .int .i64 1, .int .i64 0, .slice A7 1 c7][i]?) := fun u h => Bx.cell (Bx.step Xt h)
    have P0 : Below w8.heap.size w8 w8.drew := bdr (Below.refl _ _)
    have P1 : Below w8.heap.size w8 (w8.alloc (.cells #[.int .i64 0, .int .i64 0, .int .i64 0, .int .i64 0, .slice none 0 0] 25)).drew := bdr (bal (Below.refl _ _) _)
    have N1 : Bx (w8.alloc (.cells #[.int .i64 0, .int .i64 0, .int .i64 0, .int .i64 0, .slice none 0 0] 25)).drew (w8.heap.size) #[.int .i64 0, .int .i64 0, .int .i64 0, .int .i64 0, .slice none 0 0] 25 := Bx.new w8 _ _
    go_region_held3 (fun w' => (∀ i, w'.cell? ⟨w7.heap.size, i, none⟩ = #[.int .i64 1, .int .i64 1, .int .i64 1, .int .i64 0, .slice A7 1 c7][i]?))
      (with_reducible first | exact hS _ P0 | exact hS _ P1 | exact hS _ R1 | exact hS _ (bal R1 _) | exact hS _ R2 | exact hS _ (bal R2 _) | exact hS _ (below_set5' R2 (Nat.le_refl _) _ _ _ _ _) | exact hS _ (below_set5' R2 R1.size _ _ _ _ _))
      (first
        | (go_at_call 27; (with_reducible first | refine (int_any 0 _).mono ?_ | refine (int_any 0 _).mono ?_); rintro e y1 ⟨⟨Ay1, ny1, cy1, rfl, hSy, hNy⟩, hb_⟩; have R1 : Below w8.heap.size w8 y1 := (by with_reducible first | exact bst P0 hb_ | exact bst P1 hb_); have ss1 := R1.size; have O1 : Below y1.heap.size y1 (y1.alloc (.cells #[.int .i64 0, .int .i64 0, .int .i64 0, .int .i64 0, .slice none 0 0] 25)) := below1 _ _; have NO1 : Bx (y1.alloc (.cells #[.int .i64 0, .int .i64 0, .int .i64 0, .int .i64 0, .slice none 0 0] 25)) (y1.heap.size) #[.int .i64 0, .int .i64 0, .int .i64 0, .int .i64 0, .slice none 0 0] 25 := Bx.new y1 _ _; have QSt := Lib.hid (St.out.step R1); have T1 := Lib.hid hSy; clear hSy; (try (have M1 : Bx y1 (w8.heap.size) #[.int .i64 0, .int .i64 0, .int .i64 0, .int .i64 0, .slice none 0 0] 25 := (by with_reducible exact Bx.step N1 hb_))); (try (have LM1 := Bx.lt M1)))
        | (go_at_call 18; (with_reducible first | refine (fat_any _ _ _ _ _ _ _ [(zz : Int)] _ _ _ _ _ _ _ [0] (⟨1, 0, 0, 0, [(zz : Int)]⟩, 0) y1 QSt.out T1.out HE.out).mono ?_ | refine (fat_any _ _ _ _ _ _ _ [(zz : Int)] _ _ _ _ _ _ _ [0] (⟨1, 0, 0, 0, [(zz : Int)]⟩, 0) _ (QSt.out.step O1) (T1.out.step O1) HE.out).mono ?_); intro e y2 hR_; obtain ⟨Ay2, ny2, cy2, rfl, hSy, hNy, hb_⟩ := RetA.flat hR_; have R2 : Below w8.heap.size w8 y2 := (by with_reducible first | exact bst R1 hb_ | exact bst (bal R1 _) hb_); have ss2 := R2.size; have O2 : Below y2.heap.size y2 (y2.alloc (.cells #[.int .i64 0, .int .i64 0, .int .i64 0, .int .i64 0, .slice none 0 0] 25)) := below1 _ _; have NO2 : Bx (y2.alloc (.cells #[.int .i64 0, .int .i64 0, .int .i64 0, .int .i64 0, .slice none 0 0] 25)) (y2.heap.size) #[.int .i64 0, .int .i64 0, .int .i64 0, .int .i64 0, .slice none 0 0] 25 := Bx.new y2 _ _; have step_ : Below y1.heap.size y1 y2 := (by with_reducible first | exact hb_ | exact bst O1 hb_); have QSt := Lib.hid (St.out.step R2); have T1 := Lib.hid (T1.out.step step_); (try (have M1 : Bx y2 (w8.heap.size) #[.int .i64 0, .int .i64 0, .int .i64 0, .int .i64 0, .slice none 0 0] 25 := (by with_reducible exact Bx.step M1 hb_))); (try (have K1 : Bx y2 (y1.heap.size) #[.int .i64 0, .int .i64 0, .int .i64 0, .int .i64 0, .slice none 0 0] 25 := (by with_reducible exact Bx.step NO1 hb_))); (first | (have gB : ∀ i, y2.cell? ⟨(w8.heap.size), i, none⟩ = _ := Bx.cell M1; have kB : ∀ i, y2.frozen? ⟨(w8.heap.size), i, none⟩ = false := Bx.frozen M1) | (have gB : ∀ i, y2.cell? ⟨(y1.heap.size), i, none⟩ = _ := Bx.cell K1; have kB : ∀ i, y2.frozen? ⟨(y1.heap.size), i, none⟩ = false := Bx.frozen K1) | skip)))
    all_goals go_wp2_with fail
    all_goals go_meet
    · exact ⟨y2.heap.size, Ay2, ny2, cy2, rfl, rfl, bal R2 _, Lib.hid (Bx.new y2 _ _), Lib.hid (hSy.step (below1 _ _)), R2.size, Lib.hid (hNy.mono ss1), Lib.hid (hSy.ne_lo (Nat.le_refl _))⟩
    · exact ⟨(y1.heap.size), Ay2, ny2, cy2, rfl, rfl, below_set5' R2 R1.size _ _ _ _ _, Lib.hid (Bx.set5 K1 _ _ _ _ _), Lib.hid (hSy.past5 _ _ _ _ _ fun b o e => by have h_ := hNy b o none e; rw [World.size_alloc] at h_; omega), R1.size, Lib.hid (hNy.mono (by rw [World.size_alloc]; omega)), Lib.hid (fun _ b o e => by have h_ := hNy b o none e; rw [World.size_alloc] at h_; omega)⟩
    · exact ⟨(w8.heap.size), Ay2, ny2, cy2, rfl, rfl, below_set5' R2 (Nat.le_refl _) _ _ _ _ _, Lib.hid (Bx.set5 M1 _ _ _ _ _), Lib.hid (hSy.past5 _ _ _ _ _ fun b o e => by have h_ := hNy b o none e; have l_ := LM1; omega), (Nat.le_refl _), Lib.hid (hNy.mono ss1), Lib.hid (fun _ b o e => by have h_ := hNy b o none e; have l_ := LM1; omega)⟩
  case rest =>
  obtain ⟨B9, A9, n9, c9, rfl, rfl, hst, HX_, HS_, hB9, NSe, ne_Se_Xe⟩ := hcut
  obtain ⟨w9, hw9⟩ : ∃ w9, wc = w9 := ⟨_, rfl⟩
  rw [hw9] at hst HX_ HS_
  rw [hw9]
  clear hw9
  replace Xa := Bx.step Xa hst
  replace Xs := Bx.step Xs hst
  replace Xn := Bx.step Xn hst
  replace Xl := Bx.step Xl hst
  replace Xt := Bx.step Xt hst
  replace Sa := Lib.hid (Sa.out.step hst)
  replace Ss := Lib.hid (Ss.out.step hst)
  replace Sn := Lib.hid (Sn.out.step hst)
  replace Sal := Lib.hid (Sal.out.step hst)
  replace St := Lib.hid (St.out.step hst)
  replace b := bst b hst
  have Xe := HX_.out
  have Se := HS_
  clear hst HX_ HS_
  have dXa : ∀ i, w9.cell? ⟨w.heap.size, i, none⟩ = _ := Bx.cell Xa
  have eXa : ∀ i, w9.frozen? ⟨w.heap.size, i, none⟩ = false := Bx.frozen Xa
  have qXa := Bx.lt Xa
  have dXs : ∀ i, w9.cell? ⟨w3.heap.size, i, none⟩ = _ := Bx.cell Xs
  have eXs : ∀ i, w9.frozen? ⟨w3.heap.size, i, none⟩ = false := Bx.frozen Xs
  have qXs := Bx.lt Xs
  have dXn : ∀ i, w9.cell? ⟨w5.heap.size, i, none⟩ = _ := Bx.cell Xn
  have eXn : ∀ i, w9.frozen? ⟨w5.heap.size, i, none⟩ = false := Bx.frozen Xn
  have qXn := Bx.lt Xn
  have dXl : ∀ i, w9.cell? ⟨w6.heap.size, i, none⟩ = _ := Bx.cell Xl
  have eXl : ∀ i, w9.frozen? ⟨w6.heap.size, i, none⟩ = false := Bx.frozen Xl
  have qXl := Bx.lt Xl
  have dXt : ∀ i, w9.cell? ⟨w7.heap.size, i, none⟩ = _ := Bx.cell Xt
  have eXt : ∀ i, w9.frozen? ⟨w7.heap.size, i, none⟩ = false := Bx.frozen Xt
  have qXt := Bx.lt Xt
  have dXe : ∀ i, w9.cell? ⟨B9, i, none⟩ = _ := Bx.cell Xe
  have eXe : ∀ i, w9.frozen? ⟨B9, i, none⟩ = false := Bx.frozen Xe
  have qXe := Bx.lt Xe
  go_wp2_with fail
  refine (is_true 1 0 0 0 A9 n9 c9 [(zz : Int)] A5 n5 c5 _ Se.out Sn.out).mono ?_
  rintro e w10 ⟨rfl, hst⟩
  clear dXa eXa qXa dXs eXs qXs dXn eXn qXn dXl eXl qXl dXt eXt qXt dXe eXe qXe
  replace Xa := Bx.step Xa hst
  replace Xs := Bx.step Xs hst
  replace Xn := Bx.step Xn hst
  replace Xl := Bx.step Xl hst
  replace Xt := Bx.step Xt hst
  replace Xe := Bx.step Xe hst
  replace Sa := Lib.hid (Sa.out.step hst)
  replace Ss := Lib.hid (Ss.out.step hst)
  replace Sn := Lib.hid (Sn.out.step hst)
  replace Sal := Lib.hid (Sal.out.step hst)
  replace St := Lib.hid (St.out.step hst)
  replace Se := Lib.hid (Se.out.step hst)
  replace b : Below w.heap.size w w10 := bst b hst
  clear hst
  have dXa : ∀ i, w10.cell? ⟨w.heap.size, i, none⟩ = _ := Bx.cell Xa
  have eXa : ∀ i, w10.frozen? ⟨w.heap.size, i, none⟩ = false := Bx.frozen Xa
  have qXa := Bx.lt Xa
  have dXs : ∀ i, w10.cell? ⟨w3.heap.size, i, none⟩ = _ := Bx.cell Xs
  have eXs : ∀ i, w10.frozen? ⟨w3.heap.size, i, none⟩ = false := Bx.frozen Xs
  have qXs := Bx.lt Xs
  have dXn : ∀ i, w10.cell? ⟨w5.heap.size, i, none⟩ = _ := Bx.cell Xn
  have eXn : ∀ i, w10.frozen? ⟨w5.heap.size, i, none⟩ = false := Bx.frozen Xn
  have qXn := Bx.lt Xn
  have dXl : ∀ i, w10.cell? ⟨w6.heap.size, i, none⟩ = _ := Bx.cell Xl
  have eXl : ∀ i, w10.frozen? ⟨w6.heap.size, i, none⟩ = false := Bx.frozen Xl
  have qXl := Bx.lt Xl
  have dXt : ∀ i, w10.cell? ⟨w7.heap.size, i, none⟩ = _ := Bx.cell Xt
  have eXt : ∀ i, w10.frozen? ⟨w7.heap.size, i, none⟩ = false := Bx.frozen Xt
  have qXt := Bx.lt Xt
  have dXe : ∀ i, w10.cell? ⟨B9, i, none⟩ = _ := Bx.cell Xe
  have eXe : ∀ i, w10.frozen? ⟨B9, i, none⟩ = false := Bx.frozen Xe
  have qXe := Bx.lt Xe
  go_wp2_with fail
  refine (awake_any _).mono ?_
  rintro e wz ⟨rfl, hbz⟩
  go_wp2
  go_ret
  exact ⟨rfl, bst b hbz⟩
set_option maxRecDepth 100000 in
set_option maxHeartbeats 4000000 in
theorem grids_r1 (k : Int) (Aa : Option Addr) (na ca : Nat) (xs : List Int) (z : Int) (w : World) (hsa : Sl w Aa na ca xs) (ha : achk k 1 (na : Int) 0 xs = 0) (hz0 : 0 ≤ z) (hz1 : z < 65536) :
    Calls Try.prog 10 #[.agg #[.int .i64 k, .int .i64 1, .int .i64 (na : Int), .int .i64 0, .slice Aa na ca], .int .u16 z] w fun e w' => e = .returned (.bool true) ∧ Below w.heap.size w w' := by
  have Sa := Lib.hid hsa
  have HC := Lib.hid ha
  have hl := hsa.len
  have hn : na ≤ 400 := by rw [← hl]; exact achk_len ha
  have HS := Lib.hid (show sShape ⟨k, 1, (na : Int), 0, xs⟩ = (⟨1, 1, 1, 0, [(na : Int)]⟩, 0) from by unfold sShape chkA; simp only [ha]; rfl)
  obtain ⟨Z, rfl⟩ : ∃ Z : Nat, z = (Z : Int) := ⟨z.toNat, by omega⟩
  obtain ⟨zz, hzz⟩ : ∃ zz : Nat, Z % 401 = zz := ⟨_, rfl⟩
  have hz4 : zz ≤ 400 := by omega
  have hrem : Int.tmod (Z : Int) 401 = (zz : Int) := by rw [← hzz]; rfl
  have HI := Lib.hid (show sIota ⟨1, 0, 0, 0, [(zz : Int)]⟩ = (⟨1, 1, (zz : Int), 0, iotaL zz⟩, 0) from sIota_int hz4)
  have hic : achk 1 1 (zz : Int) 0 (iotaL zz) = 0 := ivec_mk' (iotaL_len zz) hz4
  have HT := Lib.hid (show sShape ⟨1, 1, (zz : Int), 0, iotaL zz⟩ = (⟨1, 1, 1, 0, [(zz : Int)]⟩, 0) from by unfold sShape chkA; simp only [hic]; rfl)
  have hoc : achk 1 1 1 0 [(zz : Int)] = 0 := ivec_mk (xs := [(zz : Int)]) (by simp)
  have h0c : achk 1 0 0 0 [(0 : Int)] = 0 := achk_mk (.inl rfl) (by decide) rfl fun x _ => right_int x
  have HE := Lib.hid (show sFAt ⟨1, 1, 1, 0, [(zz : Int)]⟩ ⟨1, 0, 0, 0, [0]⟩ = (⟨1, 0, 0, 0, [(zz : Int)]⟩, 0) from by have e : atE ⟨1, 1, 1, 0, [(zz : Int)]⟩ ⟨1, 0, 0, 0, [0]⟩ = 0 := (by unfold atE chkA; simp only [hoc, h0c]; rfl); unfold sFAt; rw [if_neg (fun g => g e)]; rfl)
  have LI := Lib.hid (iotaL_len zz)
  have hf : ¬ 405 < na := by omega
  have hw9 : (na : Int) ≤ 9223372036854775807 := by omega
  have hnn : ((na : Int) != (na : Int)) = false := by simp
  clear hsa ha hl hzz hic hoc h0c hz0 hz1
  go_enter Try.func10, Try.ntmps10
  go_wp2_with fail
  refine (far_any _ _ _ _ _ _ _ _).mono ?_
  rintro e w1 ⟨rfl, hst⟩
  obtain ⟨Xa, hst⟩ := after1 hst
  replace Sa := Lib.hid (Sa.out.step hst)
  have b : Below w.heap.size w w1 := hst
  clear hst
  rw [decide_eq_false hf]
  have dXa : ∀ i, w1.cell? ⟨w.heap.size, i, none⟩ = _ := Bx.cell Xa
  have eXa : ∀ i, w1.frozen? ⟨w.heap.size, i, none⟩ = false := Bx.frozen Xa
  have qXa := Bx.lt Xa
  go_wp2_with fail
  refine (racheck_any k 1 (na : Int) 0 Aa na ca xs 0 _ Sa.out HC.out).mono ?_
  rintro e w2 ⟨rfl, hst⟩
  clear dXa eXa qXa
  replace Xa := Bx.step Xa hst
  replace Sa := Lib.hid (Sa.out.step hst)
  replace b : Below w.heap.size w w2 := bst b hst
  clear hst
  have dXa : ∀ i, w2.cell? ⟨w.heap.size, i, none⟩ = _ := Bx.cell Xa
  have eXa : ∀ i, w2.frozen? ⟨w.heap.size, i, none⟩ = false := Bx.frozen Xa
  have qXa := Bx.lt Xa
  go_wp2_with fail
  refine (fshape_any k 1 (na : Int) 0 Aa na ca xs _ _ Sa.out HS.out).mono ?_
  intro e w3 hR
  obtain ⟨A3, n3, c3, rfl, hS3, hN3, hst⟩ := RetA.flat hR
  clear hR
  clear dXa eXa qXa
  replace Xa := Bx.step Xa hst
  replace Sa := Lib.hid (Sa.out.step hst)
  replace b : Below w.heap.size w w3 := bst b hst
  clear hst
  have Ss := Lib.hid hS3
  have NSs := Lib.hid hN3
  clear hS3 hN3
  obtain rfl : n3 = 1 := Ss.out.len.symm
  have dXa : ∀ i, w3.cell? ⟨w.heap.size, i, none⟩ = _ := Bx.cell Xa
  have eXa : ∀ i, w3.frozen? ⟨w.heap.size, i, none⟩ = false := Bx.frozen Xa
  have qXa := Bx.lt Xa
  go_upto_if 52 with fail
  have Xs := Bx.new w3 #[.int .i64 1, .int .i64 1, .int .i64 1, .int .i64 0, .slice A3 1 c3] 25
  have hst := below1 w3 (.cells #[.int .i64 1, .int .i64 1, .int .i64 1, .int .i64 0, .slice A3 1 c3] 25)
  obtain ⟨w4, hw_⟩ : ∃ w4, w3.alloc (.cells #[.int .i64 1, .int .i64 1, .int .i64 1, .int .i64 0, .slice A3 1 c3] 25) = w4 := ⟨_, rfl⟩
  rw [hw_] at Xs hst
  rw [hw_]
  clear hw_
  clear dXa eXa qXa
  replace Xa := Bx.step Xa hst
  replace Sa := Lib.hid (Sa.out.step hst)
  replace Ss := Lib.hid (Ss.out.step hst)
  replace b := bst b hst
  clear hst
  have dXa : ∀ i, w4.cell? ⟨w.heap.size, i, none⟩ = _ := Bx.cell Xa
  have eXa : ∀ i, w4.frozen? ⟨w.heap.size, i, none⟩ = false := Bx.frozen Xa
  have qXa := Bx.lt Xa
  have dXs : ∀ i, w4.cell? ⟨w3.heap.size, i, none⟩ = _ := Bx.cell Xs
  have eXs : ∀ i, w4.frozen? ⟨w3.heap.size, i, none⟩ = false := Bx.frozen Xs
  have qXs := Bx.lt Xs
  obtain ⟨sb, so_, hsA, hsl, hs0⟩ := Ss.out.at_ (k := 0) (by omega)
  simp only [List.getD_cons_zero, Nat.add_zero] at hs0
  have HSA := Lib.hid hsA
  rw [hsA] at dXs
  clear hsA
  go_wp2_with fail
  refine wp_loop_rounds 2 ?_
  rw [rounds_succ]
  go_wp2
  rw [rounds_succ]
  go_wp2_with fail
  clear hs0
  refine (int_any (zz : Int) _).mono ?_
  rintro e w5 ⟨⟨A5, n5, c5, rfl, hS5, hN5⟩, hst⟩
  clear dXa eXa qXa dXs eXs qXs
  replace Xa := Bx.step Xa hst
  replace Xs := Bx.step Xs hst
  replace Sa := Lib.hid (Sa.out.step hst)
  replace Ss := Lib.hid (Ss.out.step hst)
  replace b : Below w.heap.size w w5 := bst b hst
  clear hst
  have Sn := Lib.hid hS5
  have NSn := Lib.hid hN5
  clear hS5 hN5
  clear hrem
  have dXa : ∀ i, w5.cell? ⟨w.heap.size, i, none⟩ = _ := Bx.cell Xa
  have eXa : ∀ i, w5.frozen? ⟨w.heap.size, i, none⟩ = false := Bx.frozen Xa
  have qXa := Bx.lt Xa
  have dXs : ∀ i, w5.cell? ⟨w3.heap.size, i, none⟩ = _ := Bx.cell Xs
  have eXs : ∀ i, w5.frozen? ⟨w3.heap.size, i, none⟩ = false := Bx.frozen Xs
  have qXs := Bx.lt Xs
  go_wp2_with fail
  refine (fiota_any 1 0 0 0 A5 n5 c5 [(zz : Int)] _ _ (Sn.out.step (below1 _ _ )) HI.out).mono ?_
  intro e w6 hR
  obtain ⟨A6, n6, c6, rfl, hS6, hN6, hst⟩ := RetA.flat hR
  clear hR
  clear dXa eXa qXa dXs eXs qXs
  obtain ⟨Xn, hst⟩ := after1 hst
  replace Xa := Bx.step Xa hst
  replace Xs := Bx.step Xs hst
  replace Sa := Lib.hid (Sa.out.step hst)
  replace Ss := Lib.hid (Ss.out.step hst)
  replace Sn := Lib.hid (Sn.out.step hst)
  replace b : Below w.heap.size w w6 := bst b hst
  clear hst
  have Sal := Lib.hid hS6
  have NSal := Lib.hid hN6
  clear hS6 hN6
  obtain rfl : zz = n6 := LI.out.symm.trans Sal.out.len
  have dXa : ∀ i, w6.cell? ⟨w.heap.size, i, none⟩ = _ := Bx.cell Xa
  have eXa : ∀ i, w6.frozen? ⟨w.heap.size, i, none⟩ = false := Bx.frozen Xa
  have qXa := Bx.lt Xa
  have dXs : ∀ i, w6.cell? ⟨w3.heap.size, i, none⟩ = _ := Bx.cell Xs
  have eXs : ∀ i, w6.frozen? ⟨w3.heap.size, i, none⟩ = false := Bx.frozen Xs
  have qXs := Bx.lt Xs
  have dXn : ∀ i, w6.cell? ⟨w5.heap.size, i, none⟩ = _ := Bx.cell Xn
  have eXn : ∀ i, w6.frozen? ⟨w5.heap.size, i, none⟩ = false := Bx.frozen Xn
  have qXn := Bx.lt Xn
  go_wp2_with fail
  refine (fshape_any 1 1 (zz : Int) 0 A6 zz c6 (iotaL zz) _ _ (Sal.out.step (below1 _ _ )) HT.out).mono ?_
  intro e w7 hR
  obtain ⟨A7, n7, c7, rfl, hS7, hN7, hst⟩ := RetA.flat hR
  clear hR
  clear dXa eXa qXa dXs eXs qXs dXn eXn qXn
  obtain ⟨Xl, hst⟩ := after1 hst
  replace Xa := Bx.step Xa hst
  replace Xs := Bx.step Xs hst
  replace Xn := Bx.step Xn hst
  replace Sa := Lib.hid (Sa.out.step hst)
  replace Ss := Lib.hid (Ss.out.step hst)
  replace Sn := Lib.hid (Sn.out.step hst)
  replace Sal := Lib.hid (Sal.out.step hst)
  replace b : Below w.heap.size w w7 := bst b hst
  clear hst
  have St := Lib.hid hS7
  have NSt := Lib.hid hN7
  clear hS7 hN7
  obtain rfl : n7 = 1 := St.out.len.symm
  have dXa : ∀ i, w7.cell? ⟨w.heap.size, i, none⟩ = _ := Bx.cell Xa
  have eXa : ∀ i, w7.frozen? ⟨w.heap.size, i, none⟩ = false := Bx.frozen Xa
  have qXa := Bx.lt Xa
  have dXs : ∀ i, w7.cell? ⟨w3.heap.size, i, none⟩ = _ := Bx.cell Xs
  have eXs : ∀ i, w7.frozen? ⟨w3.heap.size, i, none⟩ = false := Bx.frozen Xs
  have qXs := Bx.lt Xs
  have dXn : ∀ i, w7.cell? ⟨w5.heap.size, i, none⟩ = _ := Bx.cell Xn
  have eXn : ∀ i, w7.frozen? ⟨w5.heap.size, i, none⟩ = false := Bx.frozen Xn
  have qXn := Bx.lt Xn
  have dXl : ∀ i, w7.cell? ⟨w6.heap.size, i, none⟩ = _ := Bx.cell Xl
  have eXl : ∀ i, w7.frozen? ⟨w6.heap.size, i, none⟩ = false := Bx.frozen Xl
  have qXl := Bx.lt Xl
  go_upto_region 21 with fail
  have Xt := Bx.new w7 #[.int .i64 1, .int .i64 1, .int .i64 1, .int .i64 0, .slice A7 1 c7] 25
  have hst := below1 w7 (.cells #[.int .i64 1, .int .i64 1, .int .i64 1, .int .i64 0, .slice A7 1 c7] 25)
  obtain ⟨w8, hw_⟩ : ∃ w8, w7.alloc (.cells #[.int .i64 1, .int .i64 1, .int .i64 1, .int .i64 0, .slice A7 1 c7] 25) = w8 := ⟨_, rfl⟩
  rw [hw_] at Xt hst
  rw [hw_]
  clear hw_
  clear dXa eXa qXa dXs eXs qXs dXn eXn qXn dXl eXl qXl
  replace Xa := Bx.step Xa hst
  replace Xs := Bx.step Xs hst
  replace Xn := Bx.step Xn hst
  replace Xl := Bx.step Xl hst
  replace Sa := Lib.hid (Sa.out.step hst)
  replace Ss := Lib.hid (Ss.out.step hst)
  replace Sn := Lib.hid (Sn.out.step hst)
  replace Sal := Lib.hid (Sal.out.step hst)
  replace St := Lib.hid (St.out.step hst)
  replace b := bst b hst
  clear hst
  go_cut [18, 19] from 109 to 114 (fun p e wx => ∃ (B : Nat) (A : Option Addr) (n c : Nat), p = .pointer (some ⟨B, 0, none⟩) ∧ e = .int .i64 0 ∧ Below w8.heap.size w8 wx ∧ Hid (Bx wx B #[.int .i64 1, .int .i64 0, .int .i64 0, .int .i64 0, .slice A n c] 25) ∧ Hid (Sl wx A n c [(zz : Int)]) ∧ w8.heap.size ≤ B ∧ Hid (New w8 A) ∧ Hid (0 < n → ∀ b o, A = some ⟨b, o, none⟩ → b ≠ B))
  case first =>
    have hS : ∀ u, Below w8.heap.size w8 u → (∀ i, u.cell? ⟨w7.heap.size, i, none⟩ = #[.int .i64 1, .int .i64 1, .int .i64 1, .int .i64 0, .slice A7 1 c7][i]?) := fun u h => Bx.cell (Bx.step Xt h)
    have P0 : Below w8.heap.size w8 w8.drew := bdr (Below.refl _ _)
    have P1 : Below w8.heap.size w8 (w8.alloc (.cells #[.int .i64 0, .int .i64 0, .int .i64 0, .int .i64 0, .slice none 0 0] 25)).drew := bdr (bal (Below.refl _ _) _)
    have N1 : Bx (w8.alloc (.cells #[.int .i64 0, .int .i64 0, .int .i64 0, .int .i64 0, .slice none 0 0] 25)).drew (w8.heap.size) #[.int .i64 0, .int .i64 0, .int .i64 0, .int .i64 0, .slice none 0 0] 25 := Bx.new w8 _ _
    go_region_held3 (fun w' => (∀ i, w'.cell? ⟨w7.heap.size, i, none⟩ = #[.int .i64 1, .int .i64 1, .int .i64 1, .int .i64 0, .slice A7 1 c7][i]?))
      (with_reducible first | exact hS _ P0 | exact hS _ P1 | exact hS _ R1 | exact hS _ (bal R1 _) | exact hS _ R2 | exact hS _ (bal R2 _) | exact hS _ (below_set5' R2 (Nat.le_refl _) _ _ _ _ _) | exact hS _ (below_set5' R2 R1.size _ _ _ _ _))
      (first
        | (go_at_call 27; (with_reducible first | refine (int_any 0 _).mono ?_ | refine (int_any 0 _).mono ?_); rintro e y1 ⟨⟨Ay1, ny1, cy1, rfl, hSy, hNy⟩, hb_⟩; have R1 : Below w8.heap.size w8 y1 := (by with_reducible first | exact bst P0 hb_ | exact bst P1 hb_); have ss1 := R1.size; have O1 : Below y1.heap.size y1 (y1.alloc (.cells #[.int .i64 0, .int .i64 0, .int .i64 0, .int .i64 0, .slice none 0 0] 25)) := below1 _ _; have NO1 : Bx (y1.alloc (.cells #[.int .i64 0, .int .i64 0, .int .i64 0, .int .i64 0, .slice none 0 0] 25)) (y1.heap.size) #[.int .i64 0, .int .i64 0, .int .i64 0, .int .i64 0, .slice none 0 0] 25 := Bx.new y1 _ _; have QSt := Lib.hid (St.out.step R1); have T1 := Lib.hid hSy; clear hSy; (try (have M1 : Bx y1 (w8.heap.size) #[.int .i64 0, .int .i64 0, .int .i64 0, .int .i64 0, .slice none 0 0] 25 := (by with_reducible exact Bx.step N1 hb_))); (try (have LM1 := Bx.lt M1)))
        | (go_at_call 18; (with_reducible first | refine (fat_any _ _ _ _ _ _ _ [(zz : Int)] _ _ _ _ _ _ _ [0] (⟨1, 0, 0, 0, [(zz : Int)]⟩, 0) y1 QSt.out T1.out HE.out).mono ?_ | refine (fat_any _ _ _ _ _ _ _ [(zz : Int)] _ _ _ _ _ _ _ [0] (⟨1, 0, 0, 0, [(zz : Int)]⟩, 0) _ (QSt.out.step O1) (T1.out.step O1) HE.out).mono ?_); intro e y2 hR_; obtain ⟨Ay2, ny2, cy2, rfl, hSy, hNy, hb_⟩ := RetA.flat hR_; have R2 : Below w8.heap.size w8 y2 := (by with_reducible first | exact bst R1 hb_ | exact bst (bal R1 _) hb_); have ss2 := R2.size; have O2 : Below y2.heap.size y2 (y2.alloc (.cells #[.int .i64 0, .int .i64 0, .int .i64 0, .int .i64 0, .slice none 0 0] 25)) := below1 _ _; have NO2 : Bx (y2.alloc (.cells #[.int .i64 0, .int .i64 0, .int .i64 0, .int .i64 0, .slice none 0 0] 25)) (y2.heap.size) #[.int .i64 0, .int .i64 0, .int .i64 0, .int .i64 0, .slice none 0 0] 25 := Bx.new y2 _ _; have step_ : Below y1.heap.size y1 y2 := (by with_reducible first | exact hb_ | exact bst O1 hb_); have QSt := Lib.hid (St.out.step R2); have T1 := Lib.hid (T1.out.step step_); (try (have M1 : Bx y2 (w8.heap.size) #[.int .i64 0, .int .i64 0, .int .i64 0, .int .i64 0, .slice none 0 0] 25 := (by with_reducible exact Bx.step M1 hb_))); (try (have K1 : Bx y2 (y1.heap.size) #[.int .i64 0, .int .i64 0, .int .i64 0, .int .i64 0, .slice none 0 0] 25 := (by with_reducible exact Bx.step NO1 hb_))); (first | (have gB : ∀ i, y2.cell? ⟨(w8.heap.size), i, none⟩ = _ := Bx.cell M1; have kB : ∀ i, y2.frozen? ⟨(w8.heap.size), i, none⟩ = false := Bx.frozen M1) | (have gB : ∀ i, y2.cell? ⟨(y1.heap.size), i, none⟩ = _ := Bx.cell K1; have kB : ∀ i, y2.frozen? ⟨(y1.heap.size), i, none⟩ = false := Bx.frozen K1) | skip)))
    all_goals go_wp2_with fail
    all_goals go_meet
    · exact ⟨y2.heap.size, Ay2, ny2, cy2, rfl, rfl, bal R2 _, Lib.hid (Bx.new y2 _ _), Lib.hid (hSy.step (below1 _ _)), R2.size, Lib.hid (hNy.mono ss1), Lib.hid (hSy.ne_lo (Nat.le_refl _))⟩
    · exact ⟨(y1.heap.size), Ay2, ny2, cy2, rfl, rfl, below_set5' R2 R1.size _ _ _ _ _, Lib.hid (Bx.set5 K1 _ _ _ _ _), Lib.hid (hSy.past5 _ _ _ _ _ fun b o e => by have h_ := hNy b o none e; rw [World.size_alloc] at h_; omega), R1.size, Lib.hid (hNy.mono (by rw [World.size_alloc]; omega)), Lib.hid (fun _ b o e => by have h_ := hNy b o none e; rw [World.size_alloc] at h_; omega)⟩
    · exact ⟨(w8.heap.size), Ay2, ny2, cy2, rfl, rfl, below_set5' R2 (Nat.le_refl _) _ _ _ _ _, Lib.hid (Bx.set5 M1 _ _ _ _ _), Lib.hid (hSy.past5 _ _ _ _ _ fun b o e => by have h_ := hNy b o none e; have l_ := LM1; omega), (Nat.le_refl _), Lib.hid (hNy.mono ss1), Lib.hid (fun _ b o e => by have h_ := hNy b o none e; have l_ := LM1; omega)⟩
  case rest =>
  obtain ⟨B9, A9, n9, c9, rfl, rfl, hst, HX_, HS_, hB9, NSe, ne_Se_Xe⟩ := hcut
  obtain ⟨w9, hw9⟩ : ∃ w9, wc = w9 := ⟨_, rfl⟩
  rw [hw9] at hst HX_ HS_
  rw [hw9]
  clear hw9
  replace Xa := Bx.step Xa hst
  replace Xs := Bx.step Xs hst
  replace Xn := Bx.step Xn hst
  replace Xl := Bx.step Xl hst
  replace Xt := Bx.step Xt hst
  replace Sa := Lib.hid (Sa.out.step hst)
  replace Ss := Lib.hid (Ss.out.step hst)
  replace Sn := Lib.hid (Sn.out.step hst)
  replace Sal := Lib.hid (Sal.out.step hst)
  replace St := Lib.hid (St.out.step hst)
  replace b := bst b hst
  have Xe := HX_.out
  have Se := HS_
  clear hst HX_ HS_
  have dXa : ∀ i, w9.cell? ⟨w.heap.size, i, none⟩ = _ := Bx.cell Xa
  have eXa : ∀ i, w9.frozen? ⟨w.heap.size, i, none⟩ = false := Bx.frozen Xa
  have qXa := Bx.lt Xa
  have dXs : ∀ i, w9.cell? ⟨w3.heap.size, i, none⟩ = _ := Bx.cell Xs
  have eXs : ∀ i, w9.frozen? ⟨w3.heap.size, i, none⟩ = false := Bx.frozen Xs
  have qXs := Bx.lt Xs
  have dXn : ∀ i, w9.cell? ⟨w5.heap.size, i, none⟩ = _ := Bx.cell Xn
  have eXn : ∀ i, w9.frozen? ⟨w5.heap.size, i, none⟩ = false := Bx.frozen Xn
  have qXn := Bx.lt Xn
  have dXl : ∀ i, w9.cell? ⟨w6.heap.size, i, none⟩ = _ := Bx.cell Xl
  have eXl : ∀ i, w9.frozen? ⟨w6.heap.size, i, none⟩ = false := Bx.frozen Xl
  have qXl := Bx.lt Xl
  have dXt : ∀ i, w9.cell? ⟨w7.heap.size, i, none⟩ = _ := Bx.cell Xt
  have eXt : ∀ i, w9.frozen? ⟨w7.heap.size, i, none⟩ = false := Bx.frozen Xt
  have qXt := Bx.lt Xt
  have dXe : ∀ i, w9.cell? ⟨B9, i, none⟩ = _ := Bx.cell Xe
  have eXe : ∀ i, w9.frozen? ⟨B9, i, none⟩ = false := Bx.frozen Xe
  have qXe := Bx.lt Xe
  go_wp2_with fail
  refine (is_true 1 0 0 0 A9 n9 c9 [(zz : Int)] A5 n5 c5 _ Se.out Sn.out).mono ?_
  rintro e w10 ⟨rfl, hst⟩
  clear dXa eXa qXa dXs eXs qXs dXn eXn qXn dXl eXl qXl dXt eXt qXt dXe eXe qXe
  replace Xa := Bx.step Xa hst
  replace Xs := Bx.step Xs hst
  replace Xn := Bx.step Xn hst
  replace Xl := Bx.step Xl hst
  replace Xt := Bx.step Xt hst
  replace Xe := Bx.step Xe hst
  replace Sa := Lib.hid (Sa.out.step hst)
  replace Ss := Lib.hid (Ss.out.step hst)
  replace Sn := Lib.hid (Sn.out.step hst)
  replace Sal := Lib.hid (Sal.out.step hst)
  replace St := Lib.hid (St.out.step hst)
  replace Se := Lib.hid (Se.out.step hst)
  replace b : Below w.heap.size w w10 := bst b hst
  clear hst
  have dXa : ∀ i, w10.cell? ⟨w.heap.size, i, none⟩ = _ := Bx.cell Xa
  have eXa : ∀ i, w10.frozen? ⟨w.heap.size, i, none⟩ = false := Bx.frozen Xa
  have qXa := Bx.lt Xa
  have dXs : ∀ i, w10.cell? ⟨w3.heap.size, i, none⟩ = _ := Bx.cell Xs
  have eXs : ∀ i, w10.frozen? ⟨w3.heap.size, i, none⟩ = false := Bx.frozen Xs
  have qXs := Bx.lt Xs
  have dXn : ∀ i, w10.cell? ⟨w5.heap.size, i, none⟩ = _ := Bx.cell Xn
  have eXn : ∀ i, w10.frozen? ⟨w5.heap.size, i, none⟩ = false := Bx.frozen Xn
  have qXn := Bx.lt Xn
  have dXl : ∀ i, w10.cell? ⟨w6.heap.size, i, none⟩ = _ := Bx.cell Xl
  have eXl : ∀ i, w10.frozen? ⟨w6.heap.size, i, none⟩ = false := Bx.frozen Xl
  have qXl := Bx.lt Xl
  have dXt : ∀ i, w10.cell? ⟨w7.heap.size, i, none⟩ = _ := Bx.cell Xt
  have eXt : ∀ i, w10.frozen? ⟨w7.heap.size, i, none⟩ = false := Bx.frozen Xt
  have qXt := Bx.lt Xt
  have dXe : ∀ i, w10.cell? ⟨B9, i, none⟩ = _ := Bx.cell Xe
  have eXe : ∀ i, w10.frozen? ⟨B9, i, none⟩ = false := Bx.frozen Xe
  have qXe := Bx.lt Xe
  go_wp2_with fail
  refine (awake_any _).mono ?_
  rintro e wz ⟨rfl, hbz⟩
  go_wp2
  go_ret
  exact ⟨rfl, bst b hbz⟩
set_option maxRecDepth 100000 in
set_option maxHeartbeats 4000000 in
theorem grids_r2 (k : Int) (m q : Nat) (Aa : Option Addr) (na ca : Nat) (xs : List Int) (z : Int) (w : World) (hsa : Sl w Aa na ca xs) (ha : achk k 2 (m : Int) (q : Int) xs = 0) (hmq : m * q = na) (hm4 : m ≤ 400) (hq4 : q ≤ 400) (hz0 : 0 ≤ z) (hz1 : z < 65536) :
    Calls Try.prog 10 #[.agg #[.int .i64 k, .int .i64 2, .int .i64 (m : Int), .int .i64 (q : Int), .slice Aa na ca], .int .u16 z] w fun e w' => e = .returned (.bool true) ∧ Below w.heap.size w w' := by
  have HLA := Lib.hid hsa.len
  have Sa := Lib.hid hsa
  have HC := Lib.hid ha
  have hl := hsa.len
  have hn : na ≤ 400 := by rw [← hl]; exact achk_len ha
  have HS := Lib.hid (show sShape ⟨k, 2, (m : Int), (q : Int), xs⟩ = (⟨1, 1, 2, 0, [(m : Int), (q : Int)]⟩, 0) from by unfold sShape chkA; simp only [ha]; rfl)
  obtain ⟨Z, rfl⟩ : ∃ Z : Nat, z = (Z : Int) := ⟨z.toNat, by omega⟩
  obtain ⟨zz, hzz⟩ : ∃ zz : Nat, Z % 401 = zz := ⟨_, rfl⟩
  have hz4 : zz ≤ 400 := by omega
  have hrem : Int.tmod (Z : Int) 401 = (zz : Int) := by rw [← hzz]; rfl
  have HI := Lib.hid (show sIota ⟨1, 0, 0, 0, [(zz : Int)]⟩ = (⟨1, 1, (zz : Int), 0, iotaL zz⟩, 0) from sIota_int hz4)
  have hic : achk 1 1 (zz : Int) 0 (iotaL zz) = 0 := ivec_mk' (iotaL_len zz) hz4
  have HT := Lib.hid (show sShape ⟨1, 1, (zz : Int), 0, iotaL zz⟩ = (⟨1, 1, 1, 0, [(zz : Int)]⟩, 0) from by unfold sShape chkA; simp only [hic]; rfl)
  have hoc : achk 1 1 1 0 [(zz : Int)] = 0 := ivec_mk (xs := [(zz : Int)]) (by simp)
  have h0c : achk 1 0 0 0 [(0 : Int)] = 0 := achk_mk (.inl rfl) (by decide) rfl fun x _ => right_int x
  have HE := Lib.hid (show sFAt ⟨1, 1, 1, 0, [(zz : Int)]⟩ ⟨1, 0, 0, 0, [0]⟩ = (⟨1, 0, 0, 0, [(zz : Int)]⟩, 0) from by have e : atE ⟨1, 1, 1, 0, [(zz : Int)]⟩ ⟨1, 0, 0, 0, [0]⟩ = 0 := (by unfold atE chkA; simp only [hoc, h0c]; rfl); unfold sFAt; rw [if_neg (fun g => g e)]; rfl)
  have LI := Lib.hid (iotaL_len zz)
  have hf : ¬ 405 < na := by omega
  have e5 : (m : Int) * (q : Int) = (na : Int) := by rw [← hmq]; simp
  have hw9 : (na : Int) ≤ 9223372036854775807 := by omega
  have hwm : (m : Int) ≤ 9223372036854775807 := by omega
  have HMQ := Lib.hid hmq
  have HM4 := Lib.hid hm4
  have HQ4 := Lib.hid hq4
  have hvk := (achk_ok ha).1
  have HVC := Lib.hid (show achk k 1 (na : Int) 0 xs = 0 by have := vec_mk (k := k) (xs := xs) (by omega) (by omega) (achk_all ha); rwa [hl] at this)
  have HSC := Lib.hid (show achk 1 1 2 0 [(m : Int), (q : Int)] = 0 from ivec_mk (xs := [(m : Int), (q : Int)]) (by simp))
  clear hvk hmq hm4 hq4
  have hnn : ((na : Int) != (na : Int)) = false := by simp
  clear hsa ha hl hzz hic hoc h0c hz0 hz1
  go_enter Try.func10, Try.ntmps10
  go_wp2_with fail
  refine (far_any _ _ _ _ _ _ _ _).mono ?_
  rintro e w1 ⟨rfl, hst⟩
  obtain ⟨Xa, hst⟩ := after1 hst
  replace Sa := Lib.hid (Sa.out.step hst)
  have b : Below w.heap.size w w1 := hst
  clear hst
  rw [decide_eq_false hf]
  have dXa : ∀ i, w1.cell? ⟨w.heap.size, i, none⟩ = _ := Bx.cell Xa
  have eXa : ∀ i, w1.frozen? ⟨w.heap.size, i, none⟩ = false := Bx.frozen Xa
  have qXa := Bx.lt Xa
  go_wp2_with fail
  refine (racheck_any k 2 (m : Int) (q : Int) Aa na ca xs 0 _ Sa.out HC.out).mono ?_
  rintro e w2 ⟨rfl, hst⟩
  clear dXa eXa qXa
  replace Xa := Bx.step Xa hst
  replace Sa := Lib.hid (Sa.out.step hst)
  replace b : Below w.heap.size w w2 := bst b hst
  clear hst
  have dXa : ∀ i, w2.cell? ⟨w.heap.size, i, none⟩ = _ := Bx.cell Xa
  have eXa : ∀ i, w2.frozen? ⟨w.heap.size, i, none⟩ = false := Bx.frozen Xa
  have qXa := Bx.lt Xa
  go_wp2_with fail
  refine (fshape_any k 2 (m : Int) (q : Int) Aa na ca xs _ _ Sa.out HS.out).mono ?_
  intro e w3 hR
  obtain ⟨A3, n3, c3, rfl, hS3, hN3, hst⟩ := RetA.flat hR
  clear hR
  clear dXa eXa qXa
  replace Xa := Bx.step Xa hst
  replace Sa := Lib.hid (Sa.out.step hst)
  replace b : Below w.heap.size w w3 := bst b hst
  clear hst
  have Ss := Lib.hid hS3
  have NSs := Lib.hid hN3
  clear hS3 hN3
  obtain rfl : n3 = 2 := Ss.out.len.symm
  have dXa : ∀ i, w3.cell? ⟨w.heap.size, i, none⟩ = _ := Bx.cell Xa
  have eXa : ∀ i, w3.frozen? ⟨w.heap.size, i, none⟩ = false := Bx.frozen Xa
  have qXa := Bx.lt Xa
  go_upto_if 52 with fail
  have Xs := Bx.new w3 #[.int .i64 1, .int .i64 1, .int .i64 2, .int .i64 0, .slice A3 2 c3] 25
  have hst := below1 w3 (.cells #[.int .i64 1, .int .i64 1, .int .i64 2, .int .i64 0, .slice A3 2 c3] 25)
  obtain ⟨w4, hw_⟩ : ∃ w4, w3.alloc (.cells #[.int .i64 1, .int .i64 1, .int .i64 2, .int .i64 0, .slice A3 2 c3] 25) = w4 := ⟨_, rfl⟩
  rw [hw_] at Xs hst
  rw [hw_]
  clear hw_
  clear dXa eXa qXa
  replace Xa := Bx.step Xa hst
  replace Sa := Lib.hid (Sa.out.step hst)
  replace Ss := Lib.hid (Ss.out.step hst)
  replace b := bst b hst
  clear hst
  have dXa : ∀ i, w4.cell? ⟨w.heap.size, i, none⟩ = _ := Bx.cell Xa
  have eXa : ∀ i, w4.frozen? ⟨w.heap.size, i, none⟩ = false := Bx.frozen Xa
  have qXa := Bx.lt Xa
  have dXs : ∀ i, w4.cell? ⟨w3.heap.size, i, none⟩ = _ := Bx.cell Xs
  have eXs : ∀ i, w4.frozen? ⟨w3.heap.size, i, none⟩ = false := Bx.frozen Xs
  have qXs := Bx.lt Xs
  obtain ⟨sb, so_, hsA, hsl, hs0⟩ := Ss.out.at_ (k := 0) (by omega)
  obtain ⟨sb2, so2, hsB, _, hs1⟩ := Ss.out.at_ (k := 1) (by omega)
  obtain ⟨rfl, rfl⟩ : sb = sb2 ∧ so_ = so2 := by rw [hsA] at hsB; simpa using hsB
  clear hsB
  simp only [List.getD_cons_zero, List.getD_cons_succ, Nat.add_zero] at hs0 hs1
  have HSA := Lib.hid hsA
  rw [hsA] at dXs
  clear hsA
  go_wp2_with fail
  refine wp_loop_rounds 3 ?_
  rw [rounds_succ]
  go_wp2
  rw [rounds_succ]
  go_wp2
  rw [rounds_succ]
  go_wp2_with fail
  clear hs0 hs1
  refine (rravel_any k 2 (m : Int) (q : Int) Aa na ca xs _ Sa.out HC.out).mono ?_
  intro e w5 hR
  obtain ⟨A5, n5, c5, rfl, hS5, hN5, hst⟩ := RetA.flat hR
  clear hR
  clear dXa eXa qXa dXs eXs qXs
  replace Xa := Bx.step Xa hst
  replace Xs := Bx.step Xs hst
  replace Sa := Lib.hid (Sa.out.step hst)
  replace Ss := Lib.hid (Ss.out.step hst)
  replace b : Below w.heap.size w w5 := bst b hst
  clear hst
  have Sr := Lib.hid hS5
  have NSr := Lib.hid hN5
  clear hS5 hN5
  obtain rfl : na = n5 := HLA.out.symm.trans Sr.out.len
  have dXa : ∀ i, w5.cell? ⟨w.heap.size, i, none⟩ = _ := Bx.cell Xa
  have eXa : ∀ i, w5.frozen? ⟨w.heap.size, i, none⟩ = false := Bx.frozen Xa
  have qXa := Bx.lt Xa
  have dXs : ∀ i, w5.cell? ⟨w3.heap.size, i, none⟩ = _ := Bx.cell Xs
  have eXs : ∀ i, w5.frozen? ⟨w3.heap.size, i, none⟩ = false := Bx.frozen Xs
  have qXs := Bx.lt Xs
  go_wp2_with fail
  refine (rgridv_any k m q na A3 c3 A5 c5 xs _ (Ss.out.step (below1 _ _ )) (Sr.out.step (below1 _ _ )) HM4.out HQ4.out HMQ.out HSC.out HVC.out).mono ?_
  intro e w6 hR
  obtain ⟨A6, n6, c6, rfl, hS6, hN6, hst⟩ := RetA.flat hR
  clear hR
  clear dXa eXa qXa dXs eXs qXs
  obtain ⟨Xr, hst⟩ := after1 hst
  replace Xa := Bx.step Xa hst
  replace Xs := Bx.step Xs hst
  replace Sa := Lib.hid (Sa.out.step hst)
  replace Ss := Lib.hid (Ss.out.step hst)
  replace Sr := Lib.hid (Sr.out.step hst)
  replace b : Below w.heap.size w w6 := bst b hst
  clear hst
  have Sg := Lib.hid hS6
  have NSg := Lib.hid hN6
  clear hS6 hN6
  obtain rfl : na = n6 := HLA.out.symm.trans Sg.out.len
  have dXa : ∀ i, w6.cell? ⟨w.heap.size, i, none⟩ = _ := Bx.cell Xa
  have eXa : ∀ i, w6.frozen? ⟨w.heap.size, i, none⟩ = false := Bx.frozen Xa
  have qXa := Bx.lt Xa
  have dXs : ∀ i, w6.cell? ⟨w3.heap.size, i, none⟩ = _ := Bx.cell Xs
  have eXs : ∀ i, w6.frozen? ⟨w3.heap.size, i, none⟩ = false := Bx.frozen Xs
  have qXs := Bx.lt Xs
  have dXr : ∀ i, w6.cell? ⟨w5.heap.size, i, none⟩ = _ := Bx.cell Xr
  have eXr : ∀ i, w6.frozen? ⟨w5.heap.size, i, none⟩ = false := Bx.frozen Xr
  have qXr := Bx.lt Xr
  go_wp2_with fail
  refine (is_true k 2 (m : Int) (q : Int) A6 na c6 xs Aa na ca _ (Sg.out.step (below1 _ _ )) (Sa.out.step (below1 _ _ ))).mono ?_
  rintro e w7 ⟨rfl, hst⟩
  clear dXa eXa qXa dXs eXs qXs dXr eXr qXr
  obtain ⟨Xg, hst⟩ := after1 hst
  replace Xa := Bx.step Xa hst
  replace Xs := Bx.step Xs hst
  replace Xr := Bx.step Xr hst
  replace Sa := Lib.hid (Sa.out.step hst)
  replace Ss := Lib.hid (Ss.out.step hst)
  replace Sr := Lib.hid (Sr.out.step hst)
  replace Sg := Lib.hid (Sg.out.step hst)
  replace b : Below w.heap.size w w7 := bst b hst
  clear hst
  have dXa : ∀ i, w7.cell? ⟨w.heap.size, i, none⟩ = _ := Bx.cell Xa
  have eXa : ∀ i, w7.frozen? ⟨w.heap.size, i, none⟩ = false := Bx.frozen Xa
  have qXa := Bx.lt Xa
  have dXs : ∀ i, w7.cell? ⟨w3.heap.size, i, none⟩ = _ := Bx.cell Xs
  have eXs : ∀ i, w7.frozen? ⟨w3.heap.size, i, none⟩ = false := Bx.frozen Xs
  have qXs := Bx.lt Xs
  have dXr : ∀ i, w7.cell? ⟨w5.heap.size, i, none⟩ = _ := Bx.cell Xr
  have eXr : ∀ i, w7.frozen? ⟨w5.heap.size, i, none⟩ = false := Bx.frozen Xr
  have qXr := Bx.lt Xr
  have dXg : ∀ i, w7.cell? ⟨w6.heap.size, i, none⟩ = _ := Bx.cell Xg
  have eXg : ∀ i, w7.frozen? ⟨w6.heap.size, i, none⟩ = false := Bx.frozen Xg
  have qXg := Bx.lt Xg
  go_wp2_with fail
  refine (int_any (zz : Int) _).mono ?_
  rintro e w8 ⟨⟨A8, n8, c8, rfl, hS8, hN8⟩, hst⟩
  clear dXa eXa qXa dXs eXs qXs dXr eXr qXr dXg eXg qXg
  replace Xa := Bx.step Xa hst
  replace Xs := Bx.step Xs hst
  replace Xr := Bx.step Xr hst
  replace Xg := Bx.step Xg hst
  replace Sa := Lib.hid (Sa.out.step hst)
  replace Ss := Lib.hid (Ss.out.step hst)
  replace Sr := Lib.hid (Sr.out.step hst)
  replace Sg := Lib.hid (Sg.out.step hst)
  replace b : Below w.heap.size w w8 := bst b hst
  clear hst
  have Sn := Lib.hid hS8
  have NSn := Lib.hid hN8
  clear hS8 hN8
  clear hrem
  have dXa : ∀ i, w8.cell? ⟨w.heap.size, i, none⟩ = _ := Bx.cell Xa
  have eXa : ∀ i, w8.frozen? ⟨w.heap.size, i, none⟩ = false := Bx.frozen Xa
  have qXa := Bx.lt Xa
  have dXs : ∀ i, w8.cell? ⟨w3.heap.size, i, none⟩ = _ := Bx.cell Xs
  have eXs : ∀ i, w8.frozen? ⟨w3.heap.size, i, none⟩ = false := Bx.frozen Xs
  have qXs := Bx.lt Xs
  have dXr : ∀ i, w8.cell? ⟨w5.heap.size, i, none⟩ = _ := Bx.cell Xr
  have eXr : ∀ i, w8.frozen? ⟨w5.heap.size, i, none⟩ = false := Bx.frozen Xr
  have qXr := Bx.lt Xr
  have dXg : ∀ i, w8.cell? ⟨w6.heap.size, i, none⟩ = _ := Bx.cell Xg
  have eXg : ∀ i, w8.frozen? ⟨w6.heap.size, i, none⟩ = false := Bx.frozen Xg
  have qXg := Bx.lt Xg
  go_wp2_with fail
  refine (fiota_any 1 0 0 0 A8 n8 c8 [(zz : Int)] _ _ (Sn.out.step (below1 _ _ )) HI.out).mono ?_
  intro e w9 hR
  obtain ⟨A9, n9, c9, rfl, hS9, hN9, hst⟩ := RetA.flat hR
  clear hR
  clear dXa eXa qXa dXs eXs qXs dXr eXr qXr dXg eXg qXg
  obtain ⟨Xn, hst⟩ := after1 hst
  replace Xa := Bx.step Xa hst
  replace Xs := Bx.step Xs hst
  replace Xr := Bx.step Xr hst
  replace Xg := Bx.step Xg hst
  replace Sa := Lib.hid (Sa.out.step hst)
  replace Ss := Lib.hid (Ss.out.step hst)
  replace Sr := Lib.hid (Sr.out.step hst)
  replace Sg := Lib.hid (Sg.out.step hst)
  replace Sn := Lib.hid (Sn.out.step hst)
  replace b : Below w.heap.size w w9 := bst b hst
  clear hst
  have Sal := Lib.hid hS9
  have NSal := Lib.hid hN9
  clear hS9 hN9
  obtain rfl : zz = n9 := LI.out.symm.trans Sal.out.len
  have dXa : ∀ i, w9.cell? ⟨w.heap.size, i, none⟩ = _ := Bx.cell Xa
  have eXa : ∀ i, w9.frozen? ⟨w.heap.size, i, none⟩ = false := Bx.frozen Xa
  have qXa := Bx.lt Xa
  have dXs : ∀ i, w9.cell? ⟨w3.heap.size, i, none⟩ = _ := Bx.cell Xs
  have eXs : ∀ i, w9.frozen? ⟨w3.heap.size, i, none⟩ = false := Bx.frozen Xs
  have qXs := Bx.lt Xs
  have dXr : ∀ i, w9.cell? ⟨w5.heap.size, i, none⟩ = _ := Bx.cell Xr
  have eXr : ∀ i, w9.frozen? ⟨w5.heap.size, i, none⟩ = false := Bx.frozen Xr
  have qXr := Bx.lt Xr
  have dXg : ∀ i, w9.cell? ⟨w6.heap.size, i, none⟩ = _ := Bx.cell Xg
  have eXg : ∀ i, w9.frozen? ⟨w6.heap.size, i, none⟩ = false := Bx.frozen Xg
  have qXg := Bx.lt Xg
  have dXn : ∀ i, w9.cell? ⟨w8.heap.size, i, none⟩ = _ := Bx.cell Xn
  have eXn : ∀ i, w9.frozen? ⟨w8.heap.size, i, none⟩ = false := Bx.frozen Xn
  have qXn := Bx.lt Xn
  go_wp2_with fail
  refine (fshape_any 1 1 (zz : Int) 0 A9 zz c9 (iotaL zz) _ _ (Sal.out.step (below1 _ _ )) HT.out).mono ?_
  intro e w10 hR
  obtain ⟨A10, n10, c10, rfl, hS10, hN10, hst⟩ := RetA.flat hR
  clear hR
  clear dXa eXa qXa dXs eXs qXs dXr eXr qXr dXg eXg qXg dXn eXn qXn
  obtain ⟨Xl, hst⟩ := after1 hst
  replace Xa := Bx.step Xa hst
  replace Xs := Bx.step Xs hst
  replace Xr := Bx.step Xr hst
  replace Xg := Bx.step Xg hst
  replace Xn := Bx.step Xn hst
  replace Sa := Lib.hid (Sa.out.step hst)
  replace Ss := Lib.hid (Ss.out.step hst)
  replace Sr := Lib.hid (Sr.out.step hst)
  replace Sg := Lib.hid (Sg.out.step hst)
  replace Sn := Lib.hid (Sn.out.step hst)
  replace Sal := Lib.hid (Sal.out.step hst)
  replace b : Below w.heap.size w w10 := bst b hst
  clear hst
  have St := Lib.hid hS10
  have NSt := Lib.hid hN10
  clear hS10 hN10
  obtain rfl : n10 = 1 := St.out.len.symm
  have dXa : ∀ i, w10.cell? ⟨w.heap.size, i, none⟩ = _ := Bx.cell Xa
  have eXa : ∀ i, w10.frozen? ⟨w.heap.size, i, none⟩ = false := Bx.frozen Xa
  have qXa := Bx.lt Xa
  have dXs : ∀ i, w10.cell? ⟨w3.heap.size, i, none⟩ = _ := Bx.cell Xs
  have eXs : ∀ i, w10.frozen? ⟨w3.heap.size, i, none⟩ = false := Bx.frozen Xs
  have qXs := Bx.lt Xs
  have dXr : ∀ i, w10.cell? ⟨w5.heap.size, i, none⟩ = _ := Bx.cell Xr
  have eXr : ∀ i, w10.frozen? ⟨w5.heap.size, i, none⟩ = false := Bx.frozen Xr
  have qXr := Bx.lt Xr
  have dXg : ∀ i, w10.cell? ⟨w6.heap.size, i, none⟩ = _ := Bx.cell Xg
  have eXg : ∀ i, w10.frozen? ⟨w6.heap.size, i, none⟩ = false := Bx.frozen Xg
  have qXg := Bx.lt Xg
  have dXn : ∀ i, w10.cell? ⟨w8.heap.size, i, none⟩ = _ := Bx.cell Xn
  have eXn : ∀ i, w10.frozen? ⟨w8.heap.size, i, none⟩ = false := Bx.frozen Xn
  have qXn := Bx.lt Xn
  have dXl : ∀ i, w10.cell? ⟨w9.heap.size, i, none⟩ = _ := Bx.cell Xl
  have eXl : ∀ i, w10.frozen? ⟨w9.heap.size, i, none⟩ = false := Bx.frozen Xl
  have qXl := Bx.lt Xl
  go_upto_region 21 with fail
  have Xt := Bx.new w10 #[.int .i64 1, .int .i64 1, .int .i64 1, .int .i64 0, .slice A10 1 c10] 25
  have hst := below1 w10 (.cells #[.int .i64 1, .int .i64 1, .int .i64 1, .int .i64 0, .slice A10 1 c10] 25)
  obtain ⟨w11, hw_⟩ : ∃ w11, w10.alloc (.cells #[.int .i64 1, .int .i64 1, .int .i64 1, .int .i64 0, .slice A10 1 c10] 25) = w11 := ⟨_, rfl⟩
  rw [hw_] at Xt hst
  rw [hw_]
  clear hw_
  clear dXa eXa qXa dXs eXs qXs dXr eXr qXr dXg eXg qXg dXn eXn qXn dXl eXl qXl
  replace Xa := Bx.step Xa hst
  replace Xs := Bx.step Xs hst
  replace Xr := Bx.step Xr hst
  replace Xg := Bx.step Xg hst
  replace Xn := Bx.step Xn hst
  replace Xl := Bx.step Xl hst
  replace Sa := Lib.hid (Sa.out.step hst)
  replace Ss := Lib.hid (Ss.out.step hst)
  replace Sr := Lib.hid (Sr.out.step hst)
  replace Sg := Lib.hid (Sg.out.step hst)
  replace Sn := Lib.hid (Sn.out.step hst)
  replace Sal := Lib.hid (Sal.out.step hst)
  replace St := Lib.hid (St.out.step hst)
  replace b := bst b hst
  clear hst
  go_cut [18, 19] from 109 to 114 (fun p e wx => ∃ (B : Nat) (A : Option Addr) (n c : Nat), p = .pointer (some ⟨B, 0, none⟩) ∧ e = .int .i64 0 ∧ Below w11.heap.size w11 wx ∧ Hid (Bx wx B #[.int .i64 1, .int .i64 0, .int .i64 0, .int .i64 0, .slice A n c] 25) ∧ Hid (Sl wx A n c [(zz : Int)]) ∧ w11.heap.size ≤ B ∧ Hid (New w11 A) ∧ Hid (0 < n → ∀ b o, A = some ⟨b, o, none⟩ → b ≠ B))
  case first =>
    have hS : ∀ u, Below w11.heap.size w11 u → (∀ i, u.cell? ⟨w10.heap.size, i, none⟩ = #[.int .i64 1, .int .i64 1, .int .i64 1, .int .i64 0, .slice A10 1 c10][i]?) := fun u h => Bx.cell (Bx.step Xt h)
    have P0 : Below w11.heap.size w11 w11.drew := bdr (Below.refl _ _)
    have P1 : Below w11.heap.size w11 (w11.alloc (.cells #[.int .i64 0, .int .i64 0, .int .i64 0, .int .i64 0, .slice none 0 0] 25)).drew := bdr (bal (Below.refl _ _) _)
    have N1 : Bx (w11.alloc (.cells #[.int .i64 0, .int .i64 0, .int .i64 0, .int .i64 0, .slice none 0 0] 25)).drew (w11.heap.size) #[.int .i64 0, .int .i64 0, .int .i64 0, .int .i64 0, .slice none 0 0] 25 := Bx.new w11 _ _
    go_region_held3 (fun w' => (∀ i, w'.cell? ⟨w10.heap.size, i, none⟩ = #[.int .i64 1, .int .i64 1, .int .i64 1, .int .i64 0, .slice A10 1 c10][i]?))
      (with_reducible first | exact hS _ P0 | exact hS _ P1 | exact hS _ R1 | exact hS _ (bal R1 _) | exact hS _ R2 | exact hS _ (bal R2 _) | exact hS _ (below_set5' R2 (Nat.le_refl _) _ _ _ _ _) | exact hS _ (below_set5' R2 R1.size _ _ _ _ _))
      (first
        | (go_at_call 27; (with_reducible first | refine (int_any 0 _).mono ?_ | refine (int_any 0 _).mono ?_); rintro e y1 ⟨⟨Ay1, ny1, cy1, rfl, hSy, hNy⟩, hb_⟩; have R1 : Below w11.heap.size w11 y1 := (by with_reducible first | exact bst P0 hb_ | exact bst P1 hb_); have ss1 := R1.size; have O1 : Below y1.heap.size y1 (y1.alloc (.cells #[.int .i64 0, .int .i64 0, .int .i64 0, .int .i64 0, .slice none 0 0] 25)) := below1 _ _; have NO1 : Bx (y1.alloc (.cells #[.int .i64 0, .int .i64 0, .int .i64 0, .int .i64 0, .slice none 0 0] 25)) (y1.heap.size) #[.int .i64 0, .int .i64 0, .int .i64 0, .int .i64 0, .slice none 0 0] 25 := Bx.new y1 _ _; have QSt := Lib.hid (St.out.step R1); have T1 := Lib.hid hSy; clear hSy; (try (have M1 : Bx y1 (w11.heap.size) #[.int .i64 0, .int .i64 0, .int .i64 0, .int .i64 0, .slice none 0 0] 25 := (by with_reducible exact Bx.step N1 hb_))); (try (have LM1 := Bx.lt M1)))
        | (go_at_call 18; (with_reducible first | refine (fat_any _ _ _ _ _ _ _ [(zz : Int)] _ _ _ _ _ _ _ [0] (⟨1, 0, 0, 0, [(zz : Int)]⟩, 0) y1 QSt.out T1.out HE.out).mono ?_ | refine (fat_any _ _ _ _ _ _ _ [(zz : Int)] _ _ _ _ _ _ _ [0] (⟨1, 0, 0, 0, [(zz : Int)]⟩, 0) _ (QSt.out.step O1) (T1.out.step O1) HE.out).mono ?_); intro e y2 hR_; obtain ⟨Ay2, ny2, cy2, rfl, hSy, hNy, hb_⟩ := RetA.flat hR_; have R2 : Below w11.heap.size w11 y2 := (by with_reducible first | exact bst R1 hb_ | exact bst (bal R1 _) hb_); have ss2 := R2.size; have O2 : Below y2.heap.size y2 (y2.alloc (.cells #[.int .i64 0, .int .i64 0, .int .i64 0, .int .i64 0, .slice none 0 0] 25)) := below1 _ _; have NO2 : Bx (y2.alloc (.cells #[.int .i64 0, .int .i64 0, .int .i64 0, .int .i64 0, .slice none 0 0] 25)) (y2.heap.size) #[.int .i64 0, .int .i64 0, .int .i64 0, .int .i64 0, .slice none 0 0] 25 := Bx.new y2 _ _; have step_ : Below y1.heap.size y1 y2 := (by with_reducible first | exact hb_ | exact bst O1 hb_); have QSt := Lib.hid (St.out.step R2); have T1 := Lib.hid (T1.out.step step_); (try (have M1 : Bx y2 (w11.heap.size) #[.int .i64 0, .int .i64 0, .int .i64 0, .int .i64 0, .slice none 0 0] 25 := (by with_reducible exact Bx.step M1 hb_))); (try (have K1 : Bx y2 (y1.heap.size) #[.int .i64 0, .int .i64 0, .int .i64 0, .int .i64 0, .slice none 0 0] 25 := (by with_reducible exact Bx.step NO1 hb_))); (first | (have gB : ∀ i, y2.cell? ⟨(w11.heap.size), i, none⟩ = _ := Bx.cell M1; have kB : ∀ i, y2.frozen? ⟨(w11.heap.size), i, none⟩ = false := Bx.frozen M1) | (have gB : ∀ i, y2.cell? ⟨(y1.heap.size), i, none⟩ = _ := Bx.cell K1; have kB : ∀ i, y2.frozen? ⟨(y1.heap.size), i, none⟩ = false := Bx.frozen K1) | skip)))
    all_goals go_wp2_with fail
    all_goals go_meet
    · exact ⟨y2.heap.size, Ay2, ny2, cy2, rfl, rfl, bal R2 _, Lib.hid (Bx.new y2 _ _), Lib.hid (hSy.step (below1 _ _)), R2.size, Lib.hid (hNy.mono ss1), Lib.hid (hSy.ne_lo (Nat.le_refl _))⟩
    · exact ⟨(y1.heap.size), Ay2, ny2, cy2, rfl, rfl, below_set5' R2 R1.size _ _ _ _ _, Lib.hid (Bx.set5 K1 _ _ _ _ _), Lib.hid (hSy.past5 _ _ _ _ _ fun b o e => by have h_ := hNy b o none e; rw [World.size_alloc] at h_; omega), R1.size, Lib.hid (hNy.mono (by rw [World.size_alloc]; omega)), Lib.hid (fun _ b o e => by have h_ := hNy b o none e; rw [World.size_alloc] at h_; omega)⟩
    · exact ⟨(w11.heap.size), Ay2, ny2, cy2, rfl, rfl, below_set5' R2 (Nat.le_refl _) _ _ _ _ _, Lib.hid (Bx.set5 M1 _ _ _ _ _), Lib.hid (hSy.past5 _ _ _ _ _ fun b o e => by have h_ := hNy b o none e; have l_ := LM1; omega), (Nat.le_refl _), Lib.hid (hNy.mono ss1), Lib.hid (fun _ b o e => by have h_ := hNy b o none e; have l_ := LM1; omega)⟩
  case rest =>
  obtain ⟨B12, A12, n12, c12, rfl, rfl, hst, HX_, HS_, hB12, NSe, ne_Se_Xe⟩ := hcut
  obtain ⟨w12, hw12⟩ : ∃ w12, wc = w12 := ⟨_, rfl⟩
  rw [hw12] at hst HX_ HS_
  rw [hw12]
  clear hw12
  replace Xa := Bx.step Xa hst
  replace Xs := Bx.step Xs hst
  replace Xr := Bx.step Xr hst
  replace Xg := Bx.step Xg hst
  replace Xn := Bx.step Xn hst
  replace Xl := Bx.step Xl hst
  replace Xt := Bx.step Xt hst
  replace Sa := Lib.hid (Sa.out.step hst)
  replace Ss := Lib.hid (Ss.out.step hst)
  replace Sr := Lib.hid (Sr.out.step hst)
  replace Sg := Lib.hid (Sg.out.step hst)
  replace Sn := Lib.hid (Sn.out.step hst)
  replace Sal := Lib.hid (Sal.out.step hst)
  replace St := Lib.hid (St.out.step hst)
  replace b := bst b hst
  have Xe := HX_.out
  have Se := HS_
  clear hst HX_ HS_
  have dXa : ∀ i, w12.cell? ⟨w.heap.size, i, none⟩ = _ := Bx.cell Xa
  have eXa : ∀ i, w12.frozen? ⟨w.heap.size, i, none⟩ = false := Bx.frozen Xa
  have qXa := Bx.lt Xa
  have dXs : ∀ i, w12.cell? ⟨w3.heap.size, i, none⟩ = _ := Bx.cell Xs
  have eXs : ∀ i, w12.frozen? ⟨w3.heap.size, i, none⟩ = false := Bx.frozen Xs
  have qXs := Bx.lt Xs
  have dXr : ∀ i, w12.cell? ⟨w5.heap.size, i, none⟩ = _ := Bx.cell Xr
  have eXr : ∀ i, w12.frozen? ⟨w5.heap.size, i, none⟩ = false := Bx.frozen Xr
  have qXr := Bx.lt Xr
  have dXg : ∀ i, w12.cell? ⟨w6.heap.size, i, none⟩ = _ := Bx.cell Xg
  have eXg : ∀ i, w12.frozen? ⟨w6.heap.size, i, none⟩ = false := Bx.frozen Xg
  have qXg := Bx.lt Xg
  have dXn : ∀ i, w12.cell? ⟨w8.heap.size, i, none⟩ = _ := Bx.cell Xn
  have eXn : ∀ i, w12.frozen? ⟨w8.heap.size, i, none⟩ = false := Bx.frozen Xn
  have qXn := Bx.lt Xn
  have dXl : ∀ i, w12.cell? ⟨w9.heap.size, i, none⟩ = _ := Bx.cell Xl
  have eXl : ∀ i, w12.frozen? ⟨w9.heap.size, i, none⟩ = false := Bx.frozen Xl
  have qXl := Bx.lt Xl
  have dXt : ∀ i, w12.cell? ⟨w10.heap.size, i, none⟩ = _ := Bx.cell Xt
  have eXt : ∀ i, w12.frozen? ⟨w10.heap.size, i, none⟩ = false := Bx.frozen Xt
  have qXt := Bx.lt Xt
  have dXe : ∀ i, w12.cell? ⟨B12, i, none⟩ = _ := Bx.cell Xe
  have eXe : ∀ i, w12.frozen? ⟨B12, i, none⟩ = false := Bx.frozen Xe
  have qXe := Bx.lt Xe
  go_wp2_with fail
  refine (is_true 1 0 0 0 A12 n12 c12 [(zz : Int)] A8 n8 c8 _ Se.out Sn.out).mono ?_
  rintro e w13 ⟨rfl, hst⟩
  clear dXa eXa qXa dXs eXs qXs dXr eXr qXr dXg eXg qXg dXn eXn qXn dXl eXl qXl dXt eXt qXt dXe eXe qXe
  replace Xa := Bx.step Xa hst
  replace Xs := Bx.step Xs hst
  replace Xr := Bx.step Xr hst
  replace Xg := Bx.step Xg hst
  replace Xn := Bx.step Xn hst
  replace Xl := Bx.step Xl hst
  replace Xt := Bx.step Xt hst
  replace Xe := Bx.step Xe hst
  replace Sa := Lib.hid (Sa.out.step hst)
  replace Ss := Lib.hid (Ss.out.step hst)
  replace Sr := Lib.hid (Sr.out.step hst)
  replace Sg := Lib.hid (Sg.out.step hst)
  replace Sn := Lib.hid (Sn.out.step hst)
  replace Sal := Lib.hid (Sal.out.step hst)
  replace St := Lib.hid (St.out.step hst)
  replace Se := Lib.hid (Se.out.step hst)
  replace b : Below w.heap.size w w13 := bst b hst
  clear hst
  have dXa : ∀ i, w13.cell? ⟨w.heap.size, i, none⟩ = _ := Bx.cell Xa
  have eXa : ∀ i, w13.frozen? ⟨w.heap.size, i, none⟩ = false := Bx.frozen Xa
  have qXa := Bx.lt Xa
  have dXs : ∀ i, w13.cell? ⟨w3.heap.size, i, none⟩ = _ := Bx.cell Xs
  have eXs : ∀ i, w13.frozen? ⟨w3.heap.size, i, none⟩ = false := Bx.frozen Xs
  have qXs := Bx.lt Xs
  have dXr : ∀ i, w13.cell? ⟨w5.heap.size, i, none⟩ = _ := Bx.cell Xr
  have eXr : ∀ i, w13.frozen? ⟨w5.heap.size, i, none⟩ = false := Bx.frozen Xr
  have qXr := Bx.lt Xr
  have dXg : ∀ i, w13.cell? ⟨w6.heap.size, i, none⟩ = _ := Bx.cell Xg
  have eXg : ∀ i, w13.frozen? ⟨w6.heap.size, i, none⟩ = false := Bx.frozen Xg
  have qXg := Bx.lt Xg
  have dXn : ∀ i, w13.cell? ⟨w8.heap.size, i, none⟩ = _ := Bx.cell Xn
  have eXn : ∀ i, w13.frozen? ⟨w8.heap.size, i, none⟩ = false := Bx.frozen Xn
  have qXn := Bx.lt Xn
  have dXl : ∀ i, w13.cell? ⟨w9.heap.size, i, none⟩ = _ := Bx.cell Xl
  have eXl : ∀ i, w13.frozen? ⟨w9.heap.size, i, none⟩ = false := Bx.frozen Xl
  have qXl := Bx.lt Xl
  have dXt : ∀ i, w13.cell? ⟨w10.heap.size, i, none⟩ = _ := Bx.cell Xt
  have eXt : ∀ i, w13.frozen? ⟨w10.heap.size, i, none⟩ = false := Bx.frozen Xt
  have qXt := Bx.lt Xt
  have dXe : ∀ i, w13.cell? ⟨B12, i, none⟩ = _ := Bx.cell Xe
  have eXe : ∀ i, w13.frozen? ⟨B12, i, none⟩ = false := Bx.frozen Xe
  have qXe := Bx.lt Xe
  go_wp2_with fail
  refine (awake_any _).mono ?_
  rintro e wz ⟨rfl, hbz⟩
  go_wp2
  go_ret
  exact ⟨rfl, bst b hbz⟩
set_option maxRecDepth 100000 in
set_option maxHeartbeats 1000000 in
theorem grids_f1 (k r l0 l1 : Int) (Aa : Option Addr) (na ca : Nat) (xs : List Int) (z : Int) (w : World) (hsa : Sl w Aa na ca xs) (hf : 405 < na) :
    Calls Try.prog 10 #[.agg #[.int .i64 k, .int .i64 r, .int .i64 l0, .int .i64 l1, .slice Aa na ca], .int .u16 z] w fun e w' => e = .returned (.bool true) ∧ Below w.heap.size w w' := by
  have Sa := Lib.hid hsa
  clear hsa
  go_enter Try.func10, Try.ntmps10
  go_wp2_with fail
  refine (far_any _ _ _ _ _ _ _ _).mono ?_
  rintro e w1 ⟨rfl, hst⟩
  obtain ⟨Xa, hst⟩ := after1 hst
  replace Sa := Lib.hid (Sa.out.step hst)
  have b : Below w.heap.size w w1 := hst
  clear hst
  rw [decide_eq_true hf]
  have dXa : ∀ i, w1.cell? ⟨w.heap.size, i, none⟩ = _ := Bx.cell Xa
  have eXa : ∀ i, w1.frozen? ⟨w.heap.size, i, none⟩ = false := Bx.frozen Xa
  have qXa := Bx.lt Xa
  go_wp2_with fail
  refine (awake_any _).mono ?_
  rintro e wz ⟨rfl, hbz⟩
  go_wp2
  go_ret
  exact ⟨rfl, bst b hbz⟩
set_option maxRecDepth 100000 in
set_option maxHeartbeats 1000000 in
theorem grids_f2 (k r l0 l1 : Int) (Aa : Option Addr) (na ca : Nat) (xs : List Int) (z : Int) (w : World) (hsa : Sl w Aa na ca xs) (ec : Int) (hf : ¬ 405 < na) (hc : achk k r l0 l1 xs = ec) (h0 : ec ≠ 0) :
    Calls Try.prog 10 #[.agg #[.int .i64 k, .int .i64 r, .int .i64 l0, .int .i64 l1, .slice Aa na ca], .int .u16 z] w fun e w' => e = .returned (.bool true) ∧ Below w.heap.size w w' := by
  have Sa := Lib.hid hsa
  have HC := Lib.hid hc
  have hne : (ec != 0) = true := by simpa using h0
  clear hsa hc h0
  go_enter Try.func10, Try.ntmps10
  go_wp2_with fail
  refine (far_any _ _ _ _ _ _ _ _).mono ?_
  rintro e w1 ⟨rfl, hst⟩
  obtain ⟨Xa, hst⟩ := after1 hst
  replace Sa := Lib.hid (Sa.out.step hst)
  have b : Below w.heap.size w w1 := hst
  clear hst
  rw [decide_eq_false hf]
  have dXa : ∀ i, w1.cell? ⟨w.heap.size, i, none⟩ = _ := Bx.cell Xa
  have eXa : ∀ i, w1.frozen? ⟨w.heap.size, i, none⟩ = false := Bx.frozen Xa
  have qXa := Bx.lt Xa
  go_wp2_with fail
  refine (racheck_any _ _ _ _ _ _ _ xs ec _ Sa.out HC.out).mono ?_
  rintro e w2 ⟨rfl, hst⟩
  clear dXa eXa qXa
  replace Xa := Bx.step Xa hst
  replace Sa := Lib.hid (Sa.out.step hst)
  replace b : Below w.heap.size w w2 := bst b hst
  clear hst
  have dXa : ∀ i, w2.cell? ⟨w.heap.size, i, none⟩ = _ := Bx.cell Xa
  have eXa : ∀ i, w2.frozen? ⟨w.heap.size, i, none⟩ = false := Bx.frozen Xa
  have qXa := Bx.lt Xa
  go_wp2_with fail
  refine (awake_any _).mono ?_
  rintro e wz ⟨rfl, hbz⟩
  go_wp2
  go_ret
  exact ⟨rfl, bst b hbz⟩
theorem lawGrids8 (k r l0 l1 : Int) (Aa : Option Addr) (na ca : Nat) (xs : List Int) (z : Int) (w : World) (hsa : Sl w Aa na ca xs) (_hwa : ∀ x ∈ xs, -9223372036854775808 ≤ x ∧ x ≤ 9223372036854775807) (hz : 0 ≤ z ∧ z < 65536) :
    Calls Try.prog 10 #[.agg #[.int .i64 k, .int .i64 r, .int .i64 l0, .int .i64 l1, .slice Aa na ca], .int .u16 z] w fun e w' => e = .returned (.bool true) ∧ Below w.heap.size w w' := by
  by_cases hf : 405 < na
  · exact grids_f1 k r l0 l1 Aa na ca xs z w hsa hf
  · by_cases h0 : achk k r l0 l1 xs = 0
    · have hl := hsa.len
      have ho := achk_ok h0
      have hp := ho.2.2.1
      rcases shp_ok ho.2.1 with ⟨rfl, rfl, rfl⟩ | ⟨rfl, _, _, rfl⟩ | ⟨rfl, h1, h2, h3, h4, _⟩
      · have : na = 1 := by simp [prodI] at hp; omega
        subst this
        exact grids_r0 k Aa ca xs z w hsa h0 hz.1 hz.2
      · have : l0 = (na : Int) := by simp [prodI] at hp; omega
        subst this
        exact grids_r1 k Aa na ca xs z w hsa h0 hz.1 hz.2
      · obtain ⟨m, rfl⟩ : ∃ m : Nat, l0 = (m : Int) := ⟨l0.toNat, by omega⟩
        obtain ⟨q, rfl⟩ : ∃ q : Nat, l1 = (q : Int) := ⟨l1.toNat, by omega⟩
        have hmq : m * q = na := by
          simp [prodI] at hp
          have e : ((m * q : Nat) : Int) = (na : Int) := by simp; omega
          omega
        exact grids_r2 k m q Aa na ca xs z w hsa h0 hmq (by omega) (by omega) hz.1 hz.2
    · exact grids_f2 k r l0 l1 Aa na ca xs z w hsa _ hf rfl h0
end Go.Proofs.Ytfbloddffhafdaa

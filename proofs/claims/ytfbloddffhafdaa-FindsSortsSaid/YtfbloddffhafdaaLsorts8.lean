/-
  The law FindsSorts: its walk.
-/
import Derived.Deep.CutRange
import Derived.Test.YtfbloddffhafdaaVec8
import Derived.Test.YtfbloddffhafdaaFok
import Derived.Test.YtfbloddffhafdaaFbb
namespace Go.Proofs.Ytfbloddffhafdaa
open Go.RowKit

theorem bdn2 {B : Nat} {w0 w : World} (h : Below B w0 w) (n : Nat) : Below B w0 (w.drewN n) := ⟨h.os, h.tape, h.output, h.size, h.block⟩
set_option maxRecDepth 100000 in
set_option maxHeartbeats 4000000 in
theorem sorts_main (A : Option Addr) (n c : Nat) (xs : List Int) (w : World) (hs : Sl w A n c xs) (hl : xs.length = n) (hn : n ≤ 400) :
    Calls Try.prog 6 #[.agg #[.int .i64 1, .int .i64 1, .int .i64 (n : Int), .int .i64 0, .slice A n c]] w fun e w' => e = .returned (.bool true) ∧ Below w.heap.size w w' := by
  have hva : achk 1 1 (n : Int) 0 xs = 0 := ivec_mk' hl hn
  have hga : achk 1 1 (n : Int) 0 (gradeL xs) = 0 := ivec_mk' (by rw [gradeL_len, hl]) hn
  have hsa : achk 1 1 (n : Int) 0 (srtL xs) = 0 := ivec_mk' (by rw [srtL_len, hl]) hn
  have hba : achk 1 1 (n : Int) 0 (gradeL (gradeL xs)) = 0 := ivec_mk' (by rw [gradeL_len, gradeL_len, hl]) hn
  have HV := Lib.hid (show isV 1 1 (n : Int) 0 xs = true from decide_eq_true ⟨hva, rfl⟩)
  have HGR := Lib.hid (show sGrade ⟨1, 1, (n : Int), 0, xs⟩ = (⟨1, 1, (n : Int), 0, gradeL xs⟩, 0) from by rw [sGrade_vec hva, hl])
  have HAT := Lib.hid (show sFAt ⟨1, 1, (n : Int), 0, xs⟩ ⟨1, 1, (n : Int), 0, gradeL xs⟩ = (⟨1, 1, (n : Int), 0, srtL xs⟩, 0) from sFAt_vec hva hga (fun p hp => mem_gradeL.1 hp))
  have HGS := Lib.hid (show sGrade ⟨1, 1, (n : Int), 0, srtL xs⟩ = (⟨1, 1, (n : Int), 0, iotaL n⟩, 0) from by rw [sGrade_vec hsa, srtL_len, sorted_grade, hl])
  have HGB := Lib.hid (show sGrade ⟨1, 1, (n : Int), 0, gradeL xs⟩ = (⟨1, 1, (n : Int), 0, gradeL (gradeL xs)⟩, 0) from by rw [sGrade_vec hga, gradeL_len, hl])
  have HAB := Lib.hid (show sFAt ⟨1, 1, (n : Int), 0, srtL xs⟩ ⟨1, 1, (n : Int), 0, gradeL (gradeL xs)⟩ = (⟨1, 1, (n : Int), 0, xs⟩, 0) from by rw [sFAt_vec hsa hba (fun p hp => by have := mem_gradeL.1 hp; rw [gradeL_len] at this; rw [srtL_len]; exact this), back_sorted])
  have HIO := Lib.hid (show sIota ⟨1, 0, 0, 0, [(n : Int)]⟩ = (⟨1, 1, (n : Int), 0, iotaL n⟩, 0) from sIota_int hn)
  have HL := Lib.hid hl
  have HLG := Lib.hid (show (gradeL xs).length = n from by rw [gradeL_len, hl])
  have HLS := Lib.hid (show (srtL xs).length = n from by rw [srtL_len, hl])
  have HLI := Lib.hid (show (iotaL n).length = n from iotaL_len n)
  have HLB := Lib.hid (show (gradeL (gradeL xs)).length = n from by rw [gradeL_len, gradeL_len, hl])
  have Sv := Lib.hid hs
  have hnn : ((n : Int) != (n : Int)) = false := by simp
  obtain ⟨i1_, hi1, hy0, hy1, hy2⟩ := info_parts infoBool
  clear hva hga hsa hba hl hs
  go_enter Try.func6, Try.ntmps6
  go_wp2_with fail
  refine (vec8_any 1 1 (n : Int) 0 A n c xs true _ (Sv.out.step (below1 _ _ )) HV.out).mono ?_
  rintro e w1 ⟨rfl, hst⟩
  obtain ⟨Xv, hst⟩ := after1 hst
  replace Sv := Lib.hid (Sv.out.step hst)
  have b : Below w.heap.size w w1 := hst
  clear hst
  have dXv : ∀ i, w1.cell? ⟨w.heap.size, i, none⟩ = _ := Bx.cell Xv
  have eXv : ∀ i, w1.frozen? ⟨w.heap.size, i, none⟩ = false := Bx.frozen Xv
  have qXv := Bx.lt Xv
  go_wp2_with fail
  refine (fgrade_any 1 1 (n : Int) 0 A n c xs _ _ Sv.out HGR.out).mono ?_
  intro e w2 hR
  obtain ⟨A2, n2, c2, rfl, hS2, hN2, hst⟩ := RetA.flat hR
  clear hR
  clear dXv eXv qXv
  replace Xv := Bx.step Xv hst
  replace Sv := Lib.hid (Sv.out.step hst)
  replace b : Below w.heap.size w w2 := bst b hst
  clear hst
  have Sg := Lib.hid hS2
  have NSg := Lib.hid hN2
  clear hS2 hN2
  obtain rfl : n = n2 := HLG.out.symm.trans Sg.out.len
  have dXv : ∀ i, w2.cell? ⟨w.heap.size, i, none⟩ = _ := Bx.cell Xv
  have eXv : ∀ i, w2.frozen? ⟨w.heap.size, i, none⟩ = false := Bx.frozen Xv
  have qXv := Bx.lt Xv
  go_wp2_with fail
  refine (fat_any 1 1 (n : Int) 0 A n c xs 1 1 (n : Int) 0 A2 n c2 (gradeL xs) _ _ (Sv.out.step (below1 _ _ )) (Sg.out.step (below1 _ _ )) HAT.out).mono ?_
  intro e w3 hR
  obtain ⟨A3, n3, c3, rfl, hS3, hN3, hst⟩ := RetA.flat hR
  clear hR
  clear dXv eXv qXv
  obtain ⟨Xg, hst⟩ := after1 hst
  replace Xv := Bx.step Xv hst
  replace Sv := Lib.hid (Sv.out.step hst)
  replace Sg := Lib.hid (Sg.out.step hst)
  replace b : Below w.heap.size w w3 := bst b hst
  clear hst
  have Ss := Lib.hid hS3
  have NSs := Lib.hid hN3
  clear hS3 hN3
  obtain rfl : n = n3 := HLS.out.symm.trans Ss.out.len
  have dXv : ∀ i, w3.cell? ⟨w.heap.size, i, none⟩ = _ := Bx.cell Xv
  have eXv : ∀ i, w3.frozen? ⟨w.heap.size, i, none⟩ = false := Bx.frozen Xv
  have qXv := Bx.lt Xv
  have dXg : ∀ i, w3.cell? ⟨w2.heap.size, i, none⟩ = _ := Bx.cell Xg
  have eXg : ∀ i, w3.frozen? ⟨w2.heap.size, i, none⟩ = false := Bx.frozen Xg
  have qXg := Bx.lt Xg
  go_upto_if 61 with fail
  have Xs := Bx.new w3 #[.int .i64 1, .int .i64 1, .int .i64 (n : Int), .int .i64 0, .slice A3 n c3] 25
  have hst := below1 w3 (.cells #[.int .i64 1, .int .i64 1, .int .i64 (n : Int), .int .i64 0, .slice A3 n c3] 25)
  obtain ⟨w4, hw_⟩ : ∃ w4, w3.alloc (.cells #[.int .i64 1, .int .i64 1, .int .i64 (n : Int), .int .i64 0, .slice A3 n c3] 25) = w4 := ⟨_, rfl⟩
  rw [hw_] at Xs hst
  rw [hw_]
  clear hw_
  clear dXv eXv qXv dXg eXg qXg
  replace Xv := Bx.step Xv hst
  replace Xg := Bx.step Xg hst
  replace Sv := Lib.hid (Sv.out.step hst)
  replace Sg := Lib.hid (Sg.out.step hst)
  replace Ss := Lib.hid (Ss.out.step hst)
  replace b := bst b hst
  clear hst
  have dXv : ∀ i, w4.cell? ⟨w.heap.size, i, none⟩ = _ := Bx.cell Xv
  have eXv : ∀ i, w4.frozen? ⟨w.heap.size, i, none⟩ = false := Bx.frozen Xv
  have qXv := Bx.lt Xv
  have dXg : ∀ i, w4.cell? ⟨w2.heap.size, i, none⟩ = _ := Bx.cell Xg
  have eXg : ∀ i, w4.frozen? ⟨w2.heap.size, i, none⟩ = false := Bx.frozen Xg
  have qXg := Bx.lt Xg
  have dXs : ∀ i, w4.cell? ⟨w3.heap.size, i, none⟩ = _ := Bx.cell Xs
  have eXs : ∀ i, w4.frozen? ⟨w3.heap.size, i, none⟩ = false := Bx.frozen Xs
  have qXs := Bx.lt Xs
  go_wp2_with (with_reducible refine wpList_make_row _ rfl _ _ 34 rfl 4 i1_ (.bool false) Try.underlying34 hi1 hy0 hy1 rfl .i64 .i64 n rfl rfl (by rw [hy2]; omega) (by omega) ?_)
  clear dXv eXv qXv dXg eXg qXg dXs eXs qXs
  have HB0 : Bb (w4.alloc (.cells (madeCells #[Value.bool false] n) 4)) w4.heap.size n (fun p => decide ((p : Int) ∈ (gradeL xs).take 0)) := (bb_made w4 n).congr fun j _ => by simp
  have hbl0 := below1 w4 (.cells (madeCells #[Value.bool false] n) 4)
  obtain ⟨wm, hwm⟩ : ∃ wm, w4.alloc (.cells (madeCells #[Value.bool false] n) 4) = wm := ⟨_, rfl⟩
  rw [hwm] at HB0 hbl0
  rw [hwm]
  obtain ⟨M, hM⟩ : ∃ M, w4.heap.size = M := ⟨_, rfl⟩
  rw [hM] at HB0
  rw [hM]
  have HM := Lib.hid hM
  have HB1 := Lib.hid HB0
  clear HB0 hwm hM hnn
  go_loopw [9, 10] (fun i _ wr => ∃ j : Nat, i = .int .i64 j ∧ j ≤ n ∧ Below w4.heap.size w4 wr ∧ Hid (Bb wr M n (fun p => decide ((p : Int) ∈ (gradeL xs).take j)))) (fun i _ _ => n - (intOf i).toNat)
  case atStart => exact ⟨0, rfl, Nat.zero_le _, hbl0, HB1⟩
  case round =>
    clear hbl0 HB1
    obtain ⟨j, rfl, hj, hbl, HF⟩ := hrel
    by_cases hlt : j < n
    · have k0 : (0 : Int) ≤ (j : Int) := by omega
      have k1 : (j : Int) < (n : Int) := by omega
      have hgi := gradeL_in xs j (by rw [HL.out]; exact hlt)
      have hnew := gradeL_new xs j (by rw [HL.out]; exact hlt)
      rw [HL.out] at hgi
      obtain ⟨gb, go_, hgA, hgl, hgc0⟩ := Sg.out.at_ hlt
      obtain ⟨sb, so_, hsA, hsl, hsc0⟩ := Ss.out.at_ hlt
      have hsx := srtL_at xs j (by rw [HL.out]; exact hlt)
      obtain ⟨x, hx⟩ : ∃ x, (gradeL xs).getD j 0 = x := ⟨_, rfl⟩
      rw [hx] at hgi hnew hgc0 hsx
      obtain ⟨q, rfl⟩ : ∃ q : Nat, x = (q : Int) := ⟨x.toNat, by omega⟩
      have hq : q < n := by omega
      obtain ⟨y, hy⟩ : ∃ y, (srtL xs).getD j 0 = y := ⟨_, rfl⟩
      rw [hy] at hsc0 hsx
      have hmet := HF.out.cell hq
      have fmet := HF.out.frozen q
      rw [decide_eq_false hnew] at hmet
      have dXg : ∀ i, wr.cell? ⟨w2.heap.size, i, none⟩ = _ := Bx.cell (Bx.step Xg hbl)
      have hgc := (hbl.cell (p := ⟨gb, go_ + j, none⟩) hgl).trans hgc0
      have q1' : ¬ (q : Int) < 0 := by omega
      have q2' : ¬ (n : Int) ≤ (q : Int) := by omega
      have q3' : (q : Int) < (n : Int) := by omega
      have q4' : (0 : Int) ≤ (q : Int) := by omega
      have HGX := Lib.hid hx
      have HSY := Lib.hid hy
      have HKX := Lib.hid hsx
      have HGA := Lib.hid hgA
      have HSA := Lib.hid hsA
      have HNW := Lib.hid hnew
      clear hx hy hsx hnew hgi hsA
      rw [hgA] at dXg
      clear hgA
      go_upto_region 16 with fail
      have hbl6 := hbl.setCell (p := ⟨M, q, none⟩) (by show _ ≤ M; have := HM.out; omega) (.bool true)
      have HF6 := Lib.hid ((HF.out.set q true).congr (f' := fun p => decide ((p : Int) ∈ (gradeL xs).take (j + 1))) (fun p _ => by
        have hj2 : j < (gradeL xs).length := by rw [HLG.out]; exact hlt
        rw [List.take_succ_eq_append_getElem hj2, ← getD_get hj2, HGX.out]
        by_cases e : p = q
        · subst e; simp
        · rw [if_neg e]
          have e' : ¬ (p : Int) = (q : Int) := by omega
          simp [e']))
      obtain ⟨w6, hw6⟩ : ∃ w6, wr.setCell ⟨M, q, none⟩ (.bool true) = w6 := ⟨_, rfl⟩
      rw [hw6] at hbl6 HF6
      rw [hw6]
      clear hw6 dXg hmet fmet hgc hbl
      have dXg : ∀ i, w6.cell? ⟨w2.heap.size, i, none⟩ = _ := Bx.cell (Bx.step Xg hbl6)
      have dXs : ∀ i, w6.cell? ⟨w3.heap.size, i, none⟩ = _ := Bx.cell (Bx.step Xs hbl6)
      rw [HGA.out] at dXg
      rw [HSA.out] at dXs
      have hsc := (hbl6.cell (p := ⟨sb, so_ + j, none⟩) hsl).trans hsc0
      by_cases hj0 : j = 0
      · subst hj0
        have z0 : ¬ (0 : Int) < ((0 : Nat) : Int) := by omega
        go_quiet (fail)
        go_wp2
        refine ⟨⟨1, rfl, by omega, bdn2 hbl6 nq, Lib.hid (HF6.out.block rfl)⟩, by simp [intOf]; omega⟩
      · obtain ⟨j', hj'⟩ : ∃ j', j' + 1 = j := ⟨j - 1, by omega⟩
        have ej : (j : Int) - 1 = (j' : Int) := by omega
        have wj : IntKind.i64.wrap (j' : Int) = (j' : Int) := by rw [IntKind.wrap_i64]; omega
        have jp : 0 < j := by omega
        have jpd : decide (0 < j) = true := decide_eq_true jp
        have j'0 : (0 : Int) ≤ (j' : Int) := by omega
        have j'1 : (j' : Int) < (n : Int) := by omega
        obtain ⟨gb2, go2, hg2, _, hgc2⟩ := Sg.out.at_ (k := j') (by omega)
        obtain ⟨sb2, so2, hs2, _, hsc2⟩ := Ss.out.at_ (k := j') (by omega)
        have hpl := gradeL_lt xs j' j (by omega) (by rw [HL.out]; exact hlt)
        have hsx2 := srtL_at xs j' (by rw [HL.out]; omega)
        have eg : gb = gb2 ∧ go_ = go2 := by rw [HGA.out] at hg2; simpa using hg2
        have es : sb = sb2 ∧ so_ = so2 := by rw [HSA.out] at hs2; simpa using hs2
        obtain ⟨rfl, rfl⟩ := eg
        obtain ⟨rfl, rfl⟩ := es
        obtain ⟨x2, hx2⟩ : ∃ x2, (gradeL xs).getD j' 0 = x2 := ⟨_, rfl⟩
        obtain ⟨y2, hy2⟩ : ∃ y2, (srtL xs).getD j' 0 = y2 := ⟨_, rfl⟩
        rw [hx2] at hgc2 hpl hsx2
        rw [hy2] at hsc2 hsx2
        rw [HGX.out] at hpl
        have hgc3 := (hbl6.cell (p := ⟨gb, go_ + j', none⟩) hgl).trans hgc2
        have hsc3 := (hbl6.cell (p := ⟨sb, so_ + j', none⟩) hsl).trans hsc2
        unfold plt at hpl
        rw [← hsx2, ← HKX.out] at hpl
        have hyy : decide (y < y2) = false := decide_eq_false (by omega)
        by_cases hye : y = y2
        · have hyb : (y == y2) = true := by simpa using hye
          have hxx : decide ((q : Int) < x2) = false := decide_eq_false (by omega)
          clear hg2 hs2 hgc2 hsc2 hsc0 hgc0 hpl hx2 hy2 hsx2 hye
          go_quiet (fail)
          go_wp2
          refine ⟨⟨j + 1, rfl, by omega, bdn2 hbl6 nq, Lib.hid (HF6.out.block rfl)⟩, by simp [intOf]; omega⟩
        · have hyb : (y == y2) = false := by simpa using hye
          clear hg2 hs2 hgc2 hsc2 hsc0 hgc0 hpl hx2 hy2 hsx2 hye
          go_quiet (fail)
          go_wp2
          refine ⟨⟨j + 1, rfl, by omega, bdn2 hbl6 nq, Lib.hid (HF6.out.block rfl)⟩, by simp [intOf]; omega⟩
    · obtain rfl : j = n := by omega
      obtain ⟨w7, hw7⟩ : ∃ w7, wr = w7 := ⟨_, rfl⟩
      rw [hw7] at hbl
      rw [hw7]
      clear hw7 HF
      have hst := hbl
      replace Xv := Bx.step Xv hst
      replace Xg := Bx.step Xg hst
      replace Xs := Bx.step Xs hst
      replace Sv := Lib.hid (Sv.out.step hst)
      replace Sg := Lib.hid (Sg.out.step hst)
      replace Ss := Lib.hid (Ss.out.step hst)
      replace b := bst b hst
      clear hst hbl
      have dXv : ∀ i, w7.cell? ⟨w.heap.size, i, none⟩ = _ := Bx.cell Xv
      have eXv : ∀ i, w7.frozen? ⟨w.heap.size, i, none⟩ = false := Bx.frozen Xv
      have qXv := Bx.lt Xv
      have dXg : ∀ i, w7.cell? ⟨w2.heap.size, i, none⟩ = _ := Bx.cell Xg
      have eXg : ∀ i, w7.frozen? ⟨w2.heap.size, i, none⟩ = false := Bx.frozen Xg
      have qXg := Bx.lt Xg
      have dXs : ∀ i, w7.cell? ⟨w3.heap.size, i, none⟩ = _ := Bx.cell Xs
      have eXs : ∀ i, w7.frozen? ⟨w3.heap.size, i, none⟩ = false := Bx.frozen Xs
      have qXs := Bx.lt Xs
      go_wp2_with fail
      refine (fgrade_any 1 1 (j : Int) 0 A3 j c3 (srtL xs) _ _ Ss.out HGS.out).mono ?_
      intro e w21 hR
      obtain ⟨A21, n21, c21, rfl, hS21, hN21, hst⟩ := RetA.flat hR
      clear hR
      clear dXv eXv qXv dXg eXg qXg dXs eXs qXs
      replace Xv := Bx.step Xv hst
      replace Xg := Bx.step Xg hst
      replace Xs := Bx.step Xs hst
      replace Sv := Lib.hid (Sv.out.step hst)
      replace Sg := Lib.hid (Sg.out.step hst)
      replace Ss := Lib.hid (Ss.out.step hst)
      replace b : Below w.heap.size w w21 := bst b hst
      clear hst
      have Sa := Lib.hid hS21
      have NSa := Lib.hid hN21
      clear hS21 hN21
      obtain rfl : j = n21 := HLI.out.symm.trans Sa.out.len
      have dXv : ∀ i, w21.cell? ⟨w.heap.size, i, none⟩ = _ := Bx.cell Xv
      have eXv : ∀ i, w21.frozen? ⟨w.heap.size, i, none⟩ = false := Bx.frozen Xv
      have qXv := Bx.lt Xv
      have dXg : ∀ i, w21.cell? ⟨w2.heap.size, i, none⟩ = _ := Bx.cell Xg
      have eXg : ∀ i, w21.frozen? ⟨w2.heap.size, i, none⟩ = false := Bx.frozen Xg
      have qXg := Bx.lt Xg
      have dXs : ∀ i, w21.cell? ⟨w3.heap.size, i, none⟩ = _ := Bx.cell Xs
      have eXs : ∀ i, w21.frozen? ⟨w3.heap.size, i, none⟩ = false := Bx.frozen Xs
      have qXs := Bx.lt Xs
      go_wp2_with fail
      refine (int_any (j : Int) _).mono ?_
      rintro e w22 ⟨⟨A22, n22, c22, rfl, hS22, hN22⟩, hst⟩
      clear dXv eXv qXv dXg eXg qXg dXs eXs qXs
      obtain ⟨Xa, hst⟩ := after1 hst
      replace Xv := Bx.step Xv hst
      replace Xg := Bx.step Xg hst
      replace Xs := Bx.step Xs hst
      replace Sv := Lib.hid (Sv.out.step hst)
      replace Sg := Lib.hid (Sg.out.step hst)
      replace Ss := Lib.hid (Ss.out.step hst)
      replace Sa := Lib.hid (Sa.out.step hst)
      replace b : Below w.heap.size w w22 := bst b hst
      clear hst
      have Si := Lib.hid hS22
      have NSi := Lib.hid hN22
      clear hS22 hN22
      have dXv : ∀ i, w22.cell? ⟨w.heap.size, i, none⟩ = _ := Bx.cell Xv
      have eXv : ∀ i, w22.frozen? ⟨w.heap.size, i, none⟩ = false := Bx.frozen Xv
      have qXv := Bx.lt Xv
      have dXg : ∀ i, w22.cell? ⟨w2.heap.size, i, none⟩ = _ := Bx.cell Xg
      have eXg : ∀ i, w22.frozen? ⟨w2.heap.size, i, none⟩ = false := Bx.frozen Xg
      have qXg := Bx.lt Xg
      have dXs : ∀ i, w22.cell? ⟨w3.heap.size, i, none⟩ = _ := Bx.cell Xs
      have eXs : ∀ i, w22.frozen? ⟨w3.heap.size, i, none⟩ = false := Bx.frozen Xs
      have qXs := Bx.lt Xs
      have dXa : ∀ i, w22.cell? ⟨w21.heap.size, i, none⟩ = _ := Bx.cell Xa
      have eXa : ∀ i, w22.frozen? ⟨w21.heap.size, i, none⟩ = false := Bx.frozen Xa
      have qXa := Bx.lt Xa
      go_wp2_with fail
      refine (fiota_any 1 0 0 0 A22 n22 c22 [(j : Int)] _ _ Si.out HIO.out).mono ?_
      intro e w23 hR
      obtain ⟨A23, n23, c23, rfl, hS23, hN23, hst⟩ := RetA.flat hR
      clear hR
      clear dXv eXv qXv dXg eXg qXg dXs eXs qXs dXa eXa qXa
      replace Xv := Bx.step Xv hst
      replace Xg := Bx.step Xg hst
      replace Xs := Bx.step Xs hst
      replace Xa := Bx.step Xa hst
      replace Sv := Lib.hid (Sv.out.step hst)
      replace Sg := Lib.hid (Sg.out.step hst)
      replace Ss := Lib.hid (Ss.out.step hst)
      replace Sa := Lib.hid (Sa.out.step hst)
      replace Si := Lib.hid (Si.out.step hst)
      replace b : Below w.heap.size w w23 := bst b hst
      clear hst
      have Sl := Lib.hid hS23
      have NSl := Lib.hid hN23
      clear hS23 hN23
      obtain rfl : j = n23 := HLI.out.symm.trans Sl.out.len
      have dXv : ∀ i, w23.cell? ⟨w.heap.size, i, none⟩ = _ := Bx.cell Xv
      have eXv : ∀ i, w23.frozen? ⟨w.heap.size, i, none⟩ = false := Bx.frozen Xv
      have qXv := Bx.lt Xv
      have dXg : ∀ i, w23.cell? ⟨w2.heap.size, i, none⟩ = _ := Bx.cell Xg
      have eXg : ∀ i, w23.frozen? ⟨w2.heap.size, i, none⟩ = false := Bx.frozen Xg
      have qXg := Bx.lt Xg
      have dXs : ∀ i, w23.cell? ⟨w3.heap.size, i, none⟩ = _ := Bx.cell Xs
      have eXs : ∀ i, w23.frozen? ⟨w3.heap.size, i, none⟩ = false := Bx.frozen Xs
      have qXs := Bx.lt Xs
      have dXa : ∀ i, w23.cell? ⟨w21.heap.size, i, none⟩ = _ := Bx.cell Xa
      have eXa : ∀ i, w23.frozen? ⟨w21.heap.size, i, none⟩ = false := Bx.frozen Xa
      have qXa := Bx.lt Xa
      go_wp2_with fail
      refine (fgrade_any 1 1 (j : Int) 0 A2 j c2 (gradeL xs) _ _ (Sg.out.step (below1 _ _ )) HGB.out).mono ?_
      intro e w24 hR
      obtain ⟨A24, n24, c24, rfl, hS24, hN24, hst⟩ := RetA.flat hR
      clear hR
      clear dXv eXv qXv dXg eXg qXg dXs eXs qXs dXa eXa qXa
      obtain ⟨Xl, hst⟩ := after1 hst
      replace Xv := Bx.step Xv hst
      replace Xg := Bx.step Xg hst
      replace Xs := Bx.step Xs hst
      replace Xa := Bx.step Xa hst
      replace Sv := Lib.hid (Sv.out.step hst)
      replace Sg := Lib.hid (Sg.out.step hst)
      replace Ss := Lib.hid (Ss.out.step hst)
      replace Sa := Lib.hid (Sa.out.step hst)
      replace Si := Lib.hid (Si.out.step hst)
      replace Sl := Lib.hid (Sl.out.step hst)
      replace b : Below w.heap.size w w24 := bst b hst
      clear hst
      have Sb := Lib.hid hS24
      have NSb := Lib.hid hN24
      clear hS24 hN24
      obtain rfl : j = n24 := HLB.out.symm.trans Sb.out.len
      have dXv : ∀ i, w24.cell? ⟨w.heap.size, i, none⟩ = _ := Bx.cell Xv
      have eXv : ∀ i, w24.frozen? ⟨w.heap.size, i, none⟩ = false := Bx.frozen Xv
      have qXv := Bx.lt Xv
      have dXg : ∀ i, w24.cell? ⟨w2.heap.size, i, none⟩ = _ := Bx.cell Xg
      have eXg : ∀ i, w24.frozen? ⟨w2.heap.size, i, none⟩ = false := Bx.frozen Xg
      have qXg := Bx.lt Xg
      have dXs : ∀ i, w24.cell? ⟨w3.heap.size, i, none⟩ = _ := Bx.cell Xs
      have eXs : ∀ i, w24.frozen? ⟨w3.heap.size, i, none⟩ = false := Bx.frozen Xs
      have qXs := Bx.lt Xs
      have dXa : ∀ i, w24.cell? ⟨w21.heap.size, i, none⟩ = _ := Bx.cell Xa
      have eXa : ∀ i, w24.frozen? ⟨w21.heap.size, i, none⟩ = false := Bx.frozen Xa
      have qXa := Bx.lt Xa
      have dXl : ∀ i, w24.cell? ⟨w23.heap.size, i, none⟩ = _ := Bx.cell Xl
      have eXl : ∀ i, w24.frozen? ⟨w23.heap.size, i, none⟩ = false := Bx.frozen Xl
      have qXl := Bx.lt Xl
      go_wp2_with fail
      refine (fat_any 1 1 (j : Int) 0 A3 j c3 (srtL xs) 1 1 (j : Int) 0 A24 j c24 (gradeL (gradeL xs)) _ _ (Ss.out.step (below1 _ _ )) (Sb.out.step (below1 _ _ )) HAB.out).mono ?_
      intro e w25 hR
      obtain ⟨A25, n25, c25, rfl, hS25, hN25, hst⟩ := RetA.flat hR
      clear hR
      clear dXv eXv qXv dXg eXg qXg dXs eXs qXs dXa eXa qXa dXl eXl qXl
      obtain ⟨Xb, hst⟩ := after1 hst
      replace Xv := Bx.step Xv hst
      replace Xg := Bx.step Xg hst
      replace Xs := Bx.step Xs hst
      replace Xa := Bx.step Xa hst
      replace Xl := Bx.step Xl hst
      replace Sv := Lib.hid (Sv.out.step hst)
      replace Sg := Lib.hid (Sg.out.step hst)
      replace Ss := Lib.hid (Ss.out.step hst)
      replace Sa := Lib.hid (Sa.out.step hst)
      replace Si := Lib.hid (Si.out.step hst)
      replace Sl := Lib.hid (Sl.out.step hst)
      replace Sb := Lib.hid (Sb.out.step hst)
      replace b : Below w.heap.size w w25 := bst b hst
      clear hst
      have So := Lib.hid hS25
      have NSo := Lib.hid hN25
      clear hS25 hN25
      obtain rfl : j = n25 := HL.out.symm.trans So.out.len
      have dXv : ∀ i, w25.cell? ⟨w.heap.size, i, none⟩ = _ := Bx.cell Xv
      have eXv : ∀ i, w25.frozen? ⟨w.heap.size, i, none⟩ = false := Bx.frozen Xv
      have qXv := Bx.lt Xv
      have dXg : ∀ i, w25.cell? ⟨w2.heap.size, i, none⟩ = _ := Bx.cell Xg
      have eXg : ∀ i, w25.frozen? ⟨w2.heap.size, i, none⟩ = false := Bx.frozen Xg
      have qXg := Bx.lt Xg
      have dXs : ∀ i, w25.cell? ⟨w3.heap.size, i, none⟩ = _ := Bx.cell Xs
      have eXs : ∀ i, w25.frozen? ⟨w3.heap.size, i, none⟩ = false := Bx.frozen Xs
      have qXs := Bx.lt Xs
      have dXa : ∀ i, w25.cell? ⟨w21.heap.size, i, none⟩ = _ := Bx.cell Xa
      have eXa : ∀ i, w25.frozen? ⟨w21.heap.size, i, none⟩ = false := Bx.frozen Xa
      have qXa := Bx.lt Xa
      have dXl : ∀ i, w25.cell? ⟨w23.heap.size, i, none⟩ = _ := Bx.cell Xl
      have eXl : ∀ i, w25.frozen? ⟨w23.heap.size, i, none⟩ = false := Bx.frozen Xl
      have qXl := Bx.lt Xl
      have dXb : ∀ i, w25.cell? ⟨w24.heap.size, i, none⟩ = _ := Bx.cell Xb
      have eXb : ∀ i, w25.frozen? ⟨w24.heap.size, i, none⟩ = false := Bx.frozen Xb
      have qXb := Bx.lt Xb
      go_wp2_with fail
      refine (is_true 1 1 (j : Int) 0 A21 j c21 (iotaL j) A23 j c23 _ (Sa.out.step (below1 _ _ )) (Sl.out.step (below1 _ _ ))).mono ?_
      rintro e w26 ⟨rfl, hst⟩
      clear dXv eXv qXv dXg eXg qXg dXs eXs qXs dXa eXa qXa dXl eXl qXl dXb eXb qXb
      obtain ⟨Xo, hst⟩ := after1 hst
      replace Xv := Bx.step Xv hst
      replace Xg := Bx.step Xg hst
      replace Xs := Bx.step Xs hst
      replace Xa := Bx.step Xa hst
      replace Xl := Bx.step Xl hst
      replace Xb := Bx.step Xb hst
      replace Sv := Lib.hid (Sv.out.step hst)
      replace Sg := Lib.hid (Sg.out.step hst)
      replace Ss := Lib.hid (Ss.out.step hst)
      replace Sa := Lib.hid (Sa.out.step hst)
      replace Si := Lib.hid (Si.out.step hst)
      replace Sl := Lib.hid (Sl.out.step hst)
      replace Sb := Lib.hid (Sb.out.step hst)
      replace So := Lib.hid (So.out.step hst)
      replace b : Below w.heap.size w w26 := bst b hst
      clear hst
      have dXv : ∀ i, w26.cell? ⟨w.heap.size, i, none⟩ = _ := Bx.cell Xv
      have eXv : ∀ i, w26.frozen? ⟨w.heap.size, i, none⟩ = false := Bx.frozen Xv
      have qXv := Bx.lt Xv
      have dXg : ∀ i, w26.cell? ⟨w2.heap.size, i, none⟩ = _ := Bx.cell Xg
      have eXg : ∀ i, w26.frozen? ⟨w2.heap.size, i, none⟩ = false := Bx.frozen Xg
      have qXg := Bx.lt Xg
      have dXs : ∀ i, w26.cell? ⟨w3.heap.size, i, none⟩ = _ := Bx.cell Xs
      have eXs : ∀ i, w26.frozen? ⟨w3.heap.size, i, none⟩ = false := Bx.frozen Xs
      have qXs := Bx.lt Xs
      have dXa : ∀ i, w26.cell? ⟨w21.heap.size, i, none⟩ = _ := Bx.cell Xa
      have eXa : ∀ i, w26.frozen? ⟨w21.heap.size, i, none⟩ = false := Bx.frozen Xa
      have qXa := Bx.lt Xa
      have dXl : ∀ i, w26.cell? ⟨w23.heap.size, i, none⟩ = _ := Bx.cell Xl
      have eXl : ∀ i, w26.frozen? ⟨w23.heap.size, i, none⟩ = false := Bx.frozen Xl
      have qXl := Bx.lt Xl
      have dXb : ∀ i, w26.cell? ⟨w24.heap.size, i, none⟩ = _ := Bx.cell Xb
      have eXb : ∀ i, w26.frozen? ⟨w24.heap.size, i, none⟩ = false := Bx.frozen Xb
      have qXb := Bx.lt Xb
      have dXo : ∀ i, w26.cell? ⟨w25.heap.size, i, none⟩ = _ := Bx.cell Xo
      have eXo : ∀ i, w26.frozen? ⟨w25.heap.size, i, none⟩ = false := Bx.frozen Xo
      have qXo := Bx.lt Xo
      go_wp2_with fail
      refine (is_true 1 1 (j : Int) 0 A25 j c25 xs A j c _ So.out Sv.out).mono ?_
      rintro e w27 ⟨rfl, hst⟩
      clear dXv eXv qXv dXg eXg qXg dXs eXs qXs dXa eXa qXa dXl eXl qXl dXb eXb qXb dXo eXo qXo
      replace Xv := Bx.step Xv hst
      replace Xg := Bx.step Xg hst
      replace Xs := Bx.step Xs hst
      replace Xa := Bx.step Xa hst
      replace Xl := Bx.step Xl hst
      replace Xb := Bx.step Xb hst
      replace Xo := Bx.step Xo hst
      replace Sv := Lib.hid (Sv.out.step hst)
      replace Sg := Lib.hid (Sg.out.step hst)
      replace Ss := Lib.hid (Ss.out.step hst)
      replace Sa := Lib.hid (Sa.out.step hst)
      replace Si := Lib.hid (Si.out.step hst)
      replace Sl := Lib.hid (Sl.out.step hst)
      replace Sb := Lib.hid (Sb.out.step hst)
      replace So := Lib.hid (So.out.step hst)
      replace b : Below w.heap.size w w27 := bst b hst
      clear hst
      have dXv : ∀ i, w27.cell? ⟨w.heap.size, i, none⟩ = _ := Bx.cell Xv
      have eXv : ∀ i, w27.frozen? ⟨w.heap.size, i, none⟩ = false := Bx.frozen Xv
      have qXv := Bx.lt Xv
      have dXg : ∀ i, w27.cell? ⟨w2.heap.size, i, none⟩ = _ := Bx.cell Xg
      have eXg : ∀ i, w27.frozen? ⟨w2.heap.size, i, none⟩ = false := Bx.frozen Xg
      have qXg := Bx.lt Xg
      have dXs : ∀ i, w27.cell? ⟨w3.heap.size, i, none⟩ = _ := Bx.cell Xs
      have eXs : ∀ i, w27.frozen? ⟨w3.heap.size, i, none⟩ = false := Bx.frozen Xs
      have qXs := Bx.lt Xs
      have dXa : ∀ i, w27.cell? ⟨w21.heap.size, i, none⟩ = _ := Bx.cell Xa
      have eXa : ∀ i, w27.frozen? ⟨w21.heap.size, i, none⟩ = false := Bx.frozen Xa
      have qXa := Bx.lt Xa
      have dXl : ∀ i, w27.cell? ⟨w23.heap.size, i, none⟩ = _ := Bx.cell Xl
      have eXl : ∀ i, w27.frozen? ⟨w23.heap.size, i, none⟩ = false := Bx.frozen Xl
      have qXl := Bx.lt Xl
      have dXb : ∀ i, w27.cell? ⟨w24.heap.size, i, none⟩ = _ := Bx.cell Xb
      have eXb : ∀ i, w27.frozen? ⟨w24.heap.size, i, none⟩ = false := Bx.frozen Xb
      have qXb := Bx.lt Xb
      have dXo : ∀ i, w27.cell? ⟨w25.heap.size, i, none⟩ = _ := Bx.cell Xo
      have eXo : ∀ i, w27.frozen? ⟨w25.heap.size, i, none⟩ = false := Bx.frozen Xo
      have qXo := Bx.lt Xo
      go_wp2_with fail
      refine (awake_any _).mono ?_
      rintro e wz ⟨rfl, hbz⟩
      go_wp2
      go_ret
      exact ⟨rfl, bst b hbz⟩
set_option maxRecDepth 100000 in
set_option maxHeartbeats 1000000 in
theorem sorts_far (kv rv v0 v1 : Int) (Av : Option Addr) (nv cv : Nat) (xsv : List Int) (w : World) (hs : Sl w Av nv cv xsv) (hv : isV kv rv v0 v1 xsv = false) :
    Calls Try.prog 6 #[.agg #[.int .i64 kv, .int .i64 rv, .int .i64 v0, .int .i64 v1, .slice Av nv cv]] w fun e w' => e = .returned (.bool true) ∧ Below w.heap.size w w' := by
  have Sv := Lib.hid hs
  have HV := Lib.hid hv
  clear hs hv
  go_enter Try.func6, Try.ntmps6
  go_wp2_with fail
  refine (vec8_any _ _ _ _ _ _ _ xsv false _ (Sv.out.step (below1 _ _ )) HV.out).mono ?_
  rintro e w1 ⟨rfl, hst⟩
  obtain ⟨Xv, hst⟩ := after1 hst
  replace Sv := Lib.hid (Sv.out.step hst)
  have b : Below w.heap.size w w1 := hst
  clear hst
  have dXv : ∀ i, w1.cell? ⟨w.heap.size, i, none⟩ = _ := Bx.cell Xv
  have eXv : ∀ i, w1.frozen? ⟨w.heap.size, i, none⟩ = false := Bx.frozen Xv
  have qXv := Bx.lt Xv
  go_wp2_with fail
  refine (awake_any _).mono ?_
  rintro e wz ⟨rfl, hbz⟩
  go_wp2
  go_ret
  exact ⟨rfl, bst b hbz⟩
set_option maxRecDepth 100000 in
set_option maxHeartbeats 1000000 in
theorem sorts_kind (kv rv v0 v1 : Int) (Av : Option Addr) (nv cv : Nat) (xsv : List Int) (w : World) (hs : Sl w Av nv cv xsv) (hv : isV kv rv v0 v1 xsv = true) (hk : (kv != 1) = true) :
    Calls Try.prog 6 #[.agg #[.int .i64 kv, .int .i64 rv, .int .i64 v0, .int .i64 v1, .slice Av nv cv]] w fun e w' => e = .returned (.bool true) ∧ Below w.heap.size w w' := by
  have Sv := Lib.hid hs
  have HV := Lib.hid hv
  clear hs hv
  go_enter Try.func6, Try.ntmps6
  go_wp2_with fail
  refine (vec8_any _ _ _ _ _ _ _ xsv true _ (Sv.out.step (below1 _ _ )) HV.out).mono ?_
  rintro e w1 ⟨rfl, hst⟩
  obtain ⟨Xv, hst⟩ := after1 hst
  replace Sv := Lib.hid (Sv.out.step hst)
  have b : Below w.heap.size w w1 := hst
  clear hst
  have dXv : ∀ i, w1.cell? ⟨w.heap.size, i, none⟩ = _ := Bx.cell Xv
  have eXv : ∀ i, w1.frozen? ⟨w.heap.size, i, none⟩ = false := Bx.frozen Xv
  have qXv := Bx.lt Xv
  go_wp2_with fail
  refine (awake_any _).mono ?_
  rintro e wz ⟨rfl, hbz⟩
  go_wp2
  go_ret
  exact ⟨rfl, bst b hbz⟩
theorem lawSorts8 (kv rv v0 v1 : Int) (Av : Option Addr) (nv cv : Nat) (xsv : List Int) (w : World) (hs : Sl w Av nv cv xsv) :
    Calls Try.prog 6 #[.agg #[.int .i64 kv, .int .i64 rv, .int .i64 v0, .int .i64 v1, .slice Av nv cv]] w fun e w' => e = .returned (.bool true) ∧ Below w.heap.size w w' := by
  by_cases h : achk kv rv v0 v1 xsv = 0 ∧ rv = 1
  · by_cases hk : kv = 1
    · subst hk
      obtain ⟨h1, rfl⟩ := h
      obtain ⟨_, rfl, rfl, h2⟩ := vec_ok h1
      have hl := hs.len
      rw [hl] at h2 ⊢
      exact sorts_main Av nv cv xsv w hs hl h2
    · exact sorts_kind kv rv v0 v1 Av nv cv xsv w hs (decide_eq_true h) (by simpa using hk)
  · exact sorts_far kv rv v0 v1 Av nv cv xsv w hs (decide_eq_false h)
end Go.Proofs.Ytfbloddffhafdaa

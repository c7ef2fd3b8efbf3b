/-
  The law FindsLooks: its walk.
-/
import Derived.Deep.CutRange
import Derived.Test.YtfbloddffhafdaaVec8
import Derived.Test.YtfbloddffhafdaaFok
import Derived.Test.YtfbloddffhafdaaFlk
namespace Go.Proofs.Ytfbloddffhafdaa
open Go.RowKit

set_option maxRecDepth 100000 in
set_option maxHeartbeats 4000000 in
theorem looks_n0 (kv : Int) (Av : Option Addr) (n cv : Nat) (xs : List Int) (Ap : Option Addr) (pn cp : Nat) (ps : List Int) (Aq : Option Addr) (qn cq : Nat) (qs : List Int) (w : World) (hsv : Sl w Av n cv xs) (hsp : SlU w Ap pn cp ps) (hsq : SlU w Aq qn cq qs) (hv : achk kv 1 (n : Int) 0 xs = 0) (hwv : ∀ x ∈ xs, -9223372036854775808 ≤ x ∧ x ≤ 9223372036854775807) (hp1 : decide ((100 : Int) < (pn : Int)) = false) (hq1 : decide ((100 : Int) < (qn : Int)) = false) (h0 : n = 0) :
    Calls Try.prog 7 #[.agg #[.int .i64 kv, .int .i64 1, .int .i64 (n : Int), .int .i64 0, .slice Av n cv], .slice Ap pn cp, .slice Aq qn cq] w fun e w' => e = .returned (.bool true) ∧ Below w.heap.size w w' := by
  have hl := hsv.len
  have hpl := hsp.len
  have hql := hsq.len
  have hn : n ≤ 400 := by rw [← hl]; exact achk_len hv
  have hp2 : pn ≤ 100 := by have := of_decide_eq_false hp1; omega
  have hq2 : qn ≤ 100 := by have := of_decide_eq_false hq1; omega
  have Sv := Lib.hid hsv
  have Sp := Lib.hid hsp
  have Sq := Lib.hid hsq
  have HW := Lib.hid hwv
  have HV := Lib.hid (show isV kv 1 (n : Int) 0 xs = true from decide_eq_true ⟨hv, rfl⟩)
  have HI := Lib.hid (show sIota ⟨1, 0, 0, 0, [(n : Int)]⟩ = (⟨1, 1, (n : Int), 0, iotaL n⟩, 0) from sIota_int hn)
  have HS := Lib.hid (show sFAt ⟨kv, 1, (n : Int), 0, xs⟩ ⟨1, 1, (n : Int), 0, iotaL n⟩ = (⟨kv, 1, (n : Int), 0, xs⟩, 0) from by rw [sFAt_vec hv (ivec_mk' (iotaL_len n) hn) (fun p hp => by rw [hl]; exact mem_iotaL.1 hp)]; rw [← hl, iota_map])
  have HN := Lib.hid (show sFIn ⟨kv, 1, (n : Int), 0, xs⟩ ⟨kv, 1, (n : Int), 0, xs⟩ = (⟨1, 1, (n : Int), 0, xs.map (isIn xs)⟩, 0) from sFIn_vec hv hv)
  have HL := Lib.hid hl
  have LI := Lib.hid (iotaL_len n)
  have LN := Lib.hid (show (xs.map (isIn xs)).length = n by rw [List.length_map, hl])
  have hz0 : ((n : Int) == 0) = true := by simp; omega
  have HZ0 := Lib.hid hz0
  have hnn : ((n : Int) != (n : Int)) = false := by simp
  clear h0
  have HPP := Lib.hid hp2
  have HQQ := Lib.hid hq2
  clear hl hpl hql hsv hsp hsq hv hwv hz0 hp2 hq2
  go_enter Try.func7, Try.ntmps7
  go_wp2_with fail
  refine (vec8_any kv 1 (n : Int) 0 Av n cv xs true _ (Sv.out.step (below1 _ _ )) HV.out).mono ?_
  rintro e w1 ⟨rfl, hst⟩
  obtain ⟨Xv, hst⟩ := after1 hst
  replace Sv := Lib.hid (Sv.out.step hst)
  replace Sp := Lib.hid (Sp.out.step hst)
  replace Sq := Lib.hid (Sq.out.step hst)
  have b : Below w.heap.size w w1 := hst
  clear hst
  have dXv : ∀ i, w1.cell? ⟨w.heap.size, i, none⟩ = _ := Bx.cell Xv
  have eXv : ∀ i, w1.frozen? ⟨w.heap.size, i, none⟩ = false := Bx.frozen Xv
  have qXv := Bx.lt Xv
  go_wp2_with fail
  refine (int_any (n : Int) _).mono ?_
  rintro e w2 ⟨⟨A2, n2, c2, rfl, hS2, hN2⟩, hst⟩
  clear dXv eXv qXv
  replace Xv := Bx.step Xv hst
  replace Sv := Lib.hid (Sv.out.step hst)
  replace Sp := Lib.hid (Sp.out.step hst)
  replace Sq := Lib.hid (Sq.out.step hst)
  replace b : Below w.heap.size w w2 := bst b hst
  clear hst
  have Si := Lib.hid hS2
  have NSi := Lib.hid hN2
  clear hS2 hN2
  clear hp1 hq1
  have dXv : ∀ i, w2.cell? ⟨w.heap.size, i, none⟩ = _ := Bx.cell Xv
  have eXv : ∀ i, w2.frozen? ⟨w.heap.size, i, none⟩ = false := Bx.frozen Xv
  have qXv := Bx.lt Xv
  go_wp2_with fail
  refine (fiota_any 1 0 0 0 A2 n2 c2 [(n : Int)] _ _ Si.out HI.out).mono ?_
  intro e w3 hR
  obtain ⟨A3, n3, c3, rfl, hS3, hN3, hst⟩ := RetA.flat hR
  clear hR
  clear dXv eXv qXv
  replace Xv := Bx.step Xv hst
  replace Sv := Lib.hid (Sv.out.step hst)
  replace Sp := Lib.hid (Sp.out.step hst)
  replace Sq := Lib.hid (Sq.out.step hst)
  replace Si := Lib.hid (Si.out.step hst)
  replace b : Below w.heap.size w w3 := bst b hst
  clear hst
  have Sio := Lib.hid hS3
  have NSio := Lib.hid hN3
  clear hS3 hN3
  obtain rfl : n = n3 := LI.out.symm.trans Sio.out.len
  have dXv : ∀ i, w3.cell? ⟨w.heap.size, i, none⟩ = _ := Bx.cell Xv
  have eXv : ∀ i, w3.frozen? ⟨w.heap.size, i, none⟩ = false := Bx.frozen Xv
  have qXv := Bx.lt Xv
  go_wp2_with fail
  refine (fat_any kv 1 (n : Int) 0 Av n cv xs 1 1 (n : Int) 0 A3 n c3 (iotaL n) _ _ (Sv.out.step (below1 _ _ )) (Sio.out.step (below1 _ _ )) HS.out).mono ?_
  intro e w4 hR
  obtain ⟨A4, n4, c4, rfl, hS4, hN4, hst⟩ := RetA.flat hR
  clear hR
  clear dXv eXv qXv
  obtain ⟨Xl, hst⟩ := after1 hst
  replace Xv := Bx.step Xv hst
  replace Sv := Lib.hid (Sv.out.step hst)
  replace Sp := Lib.hid (Sp.out.step hst)
  replace Sq := Lib.hid (Sq.out.step hst)
  replace Si := Lib.hid (Si.out.step hst)
  replace Sio := Lib.hid (Sio.out.step hst)
  replace b : Below w.heap.size w w4 := bst b hst
  clear hst
  have Sm := Lib.hid hS4
  have NSm := Lib.hid hN4
  clear hS4 hN4
  obtain rfl : n = n4 := HL.out.symm.trans Sm.out.len
  have dXv : ∀ i, w4.cell? ⟨w.heap.size, i, none⟩ = _ := Bx.cell Xv
  have eXv : ∀ i, w4.frozen? ⟨w.heap.size, i, none⟩ = false := Bx.frozen Xv
  have qXv := Bx.lt Xv
  have dXl : ∀ i, w4.cell? ⟨w3.heap.size, i, none⟩ = _ := Bx.cell Xl
  have eXl : ∀ i, w4.frozen? ⟨w3.heap.size, i, none⟩ = false := Bx.frozen Xl
  have qXl := Bx.lt Xl
  go_wp2_with fail
  refine (fin_any kv 1 (n : Int) 0 Av n cv xs kv 1 (n : Int) 0 Av n cv xs _ _ (Sv.out.step (below1 _ _ )) (Sv.out.step (below1 _ _ )) HW.out HW.out HN.out).mono ?_
  intro e w5 hR
  obtain ⟨A5, n5, c5, rfl, hS5, hN5, hst⟩ := RetA.flat hR
  clear hR
  clear dXv eXv qXv dXl eXl qXl
  obtain ⟨Xm, hst⟩ := after1 hst
  replace Xv := Bx.step Xv hst
  replace Xl := Bx.step Xl hst
  replace Sv := Lib.hid (Sv.out.step hst)
  replace Sp := Lib.hid (Sp.out.step hst)
  replace Sq := Lib.hid (Sq.out.step hst)
  replace Si := Lib.hid (Si.out.step hst)
  replace Sio := Lib.hid (Sio.out.step hst)
  replace Sm := Lib.hid (Sm.out.step hst)
  replace b : Below w.heap.size w w5 := bst b hst
  clear hst
  have Sn := Lib.hid hS5
  have NSn := Lib.hid hN5
  clear hS5 hN5
  obtain rfl : n = n5 := LN.out.symm.trans Sn.out.len
  have dXv : ∀ i, w5.cell? ⟨w.heap.size, i, none⟩ = _ := Bx.cell Xv
  have eXv : ∀ i, w5.frozen? ⟨w.heap.size, i, none⟩ = false := Bx.frozen Xv
  have qXv := Bx.lt Xv
  have dXl : ∀ i, w5.cell? ⟨w3.heap.size, i, none⟩ = _ := Bx.cell Xl
  have eXl : ∀ i, w5.frozen? ⟨w3.heap.size, i, none⟩ = false := Bx.frozen Xl
  have qXl := Bx.lt Xl
  have dXm : ∀ i, w5.cell? ⟨w4.heap.size, i, none⟩ = _ := Bx.cell Xm
  have eXm : ∀ i, w5.frozen? ⟨w4.heap.size, i, none⟩ = false := Bx.frozen Xm
  have qXm := Bx.lt Xm
  go_wp2_with fail
  refine (is_true kv 1 (n : Int) 0 A4 n c4 xs Av n cv _ (Sm.out.step (below1 _ _ )) (Sv.out.step (below1 _ _ ))).mono ?_
  rintro e w6 ⟨rfl, hst⟩
  clear dXv eXv qXv dXl eXl qXl dXm eXm qXm
  obtain ⟨Xn, hst⟩ := after1 hst
  replace Xv := Bx.step Xv hst
  replace Xl := Bx.step Xl hst
  replace Xm := Bx.step Xm hst
  replace Sv := Lib.hid (Sv.out.step hst)
  replace Sp := Lib.hid (Sp.out.step hst)
  replace Sq := Lib.hid (Sq.out.step hst)
  replace Si := Lib.hid (Si.out.step hst)
  replace Sio := Lib.hid (Sio.out.step hst)
  replace Sm := Lib.hid (Sm.out.step hst)
  replace Sn := Lib.hid (Sn.out.step hst)
  replace b : Below w.heap.size w w6 := bst b hst
  clear hst
  have dXv : ∀ i, w6.cell? ⟨w.heap.size, i, none⟩ = _ := Bx.cell Xv
  have eXv : ∀ i, w6.frozen? ⟨w.heap.size, i, none⟩ = false := Bx.frozen Xv
  have qXv := Bx.lt Xv
  have dXl : ∀ i, w6.cell? ⟨w3.heap.size, i, none⟩ = _ := Bx.cell Xl
  have eXl : ∀ i, w6.frozen? ⟨w3.heap.size, i, none⟩ = false := Bx.frozen Xl
  have qXl := Bx.lt Xl
  have dXm : ∀ i, w6.cell? ⟨w4.heap.size, i, none⟩ = _ := Bx.cell Xm
  have eXm : ∀ i, w6.frozen? ⟨w4.heap.size, i, none⟩ = false := Bx.frozen Xm
  have qXm := Bx.lt Xm
  have dXn : ∀ i, w6.cell? ⟨w5.heap.size, i, none⟩ = _ := Bx.cell Xn
  have eXn : ∀ i, w6.frozen? ⟨w5.heap.size, i, none⟩ = false := Bx.frozen Xn
  have qXn := Bx.lt Xn
  go_wp2_with fail
  clear hnn dXv eXv qXv dXl eXl qXl dXm eXm qXm dXn eXn qXn
  go_loopw [14] (fun i wr => ∃ j : Nat, i = .int .i64 j ∧ j ≤ n ∧ Below w6.heap.size w6 wr) (fun i _ => n - (intOf i).toNat)
  case atStart => exact ⟨0, rfl, Nat.zero_le _, Below.refl _ _⟩
  case round =>
    obtain ⟨j, rfl, hj, hbl⟩ := hrel
    by_cases hlt : j < n
    · have k0 : (0 : Int) ≤ (j : Int) := by omega
      have k1 : (j : Int) < (n : Int) := by omega
      obtain ⟨mb, mo, hmA, hml, hmc0⟩ := Sn.out.at_ hlt
      rw [isIn_self xs j (by rw [HL.out]; exact hlt)] at hmc0
      have hmc := (hbl.cell (p := ⟨mb, mo + j, none⟩) hml).trans hmc0
      have dXn : ∀ i, wr.cell? ⟨w5.heap.size, i, none⟩ = _ := Bx.cell (Bx.step Xn hbl)
      rw [hmA] at dXn
      clear hmA hmc0
      go_wp2
      exact ⟨⟨j + 1, rfl, by omega, hbl⟩, by simp only [intOf]; omega⟩
    · obtain rfl : n = j := by omega
      obtain ⟨w30, hw_⟩ : ∃ w30, wr = w30 := ⟨_, rfl⟩
      rw [hw_] at hbl
      rw [hw_]
      clear hw_
      have hst := hbl
      replace Xv := Bx.step Xv hst
      replace Xl := Bx.step Xl hst
      replace Xm := Bx.step Xm hst
      replace Xn := Bx.step Xn hst
      replace Sv := Lib.hid (Sv.out.step hst)
      replace Sp := Lib.hid (Sp.out.step hst)
      replace Sq := Lib.hid (Sq.out.step hst)
      replace Si := Lib.hid (Si.out.step hst)
      replace Sio := Lib.hid (Sio.out.step hst)
      replace Sm := Lib.hid (Sm.out.step hst)
      replace Sn := Lib.hid (Sn.out.step hst)
      replace b := bst b hst
      clear hst hbl
      have hz0 := HZ0.out
      have dXv : ∀ i, w30.cell? ⟨w.heap.size, i, none⟩ = _ := Bx.cell Xv
      have eXv : ∀ i, w30.frozen? ⟨w.heap.size, i, none⟩ = false := Bx.frozen Xv
      have qXv := Bx.lt Xv
      have dXl : ∀ i, w30.cell? ⟨w3.heap.size, i, none⟩ = _ := Bx.cell Xl
      have eXl : ∀ i, w30.frozen? ⟨w3.heap.size, i, none⟩ = false := Bx.frozen Xl
      have qXl := Bx.lt Xl
      have dXm : ∀ i, w30.cell? ⟨w4.heap.size, i, none⟩ = _ := Bx.cell Xm
      have eXm : ∀ i, w30.frozen? ⟨w4.heap.size, i, none⟩ = false := Bx.frozen Xm
      have qXm := Bx.lt Xm
      have dXn : ∀ i, w30.cell? ⟨w5.heap.size, i, none⟩ = _ := Bx.cell Xn
      have eXn : ∀ i, w30.frozen? ⟨w5.heap.size, i, none⟩ = false := Bx.frozen Xn
      have qXn := Bx.lt Xn
      go_wp2_with fail
      refine (awake_any _).mono ?_
      rintro e wz ⟨rfl, hbz⟩
      go_wp2
      go_ret
      exact ⟨rfl, bst b hbz⟩
set_option maxRecDepth 100000 in
set_option maxHeartbeats 4000000 in
theorem looks_p0 (kv : Int) (Av : Option Addr) (n cv : Nat) (xs : List Int) (Ap : Option Addr) (pn cp : Nat) (ps : List Int) (Aq : Option Addr) (qn cq : Nat) (qs : List Int) (w : World) (hsv : Sl w Av n cv xs) (hsp : SlU w Ap pn cp ps) (hsq : SlU w Aq qn cq qs) (hv : achk kv 1 (n : Int) 0 xs = 0) (hwv : ∀ x ∈ xs, -9223372036854775808 ≤ x ∧ x ≤ 9223372036854775807) (hp1 : decide ((100 : Int) < (pn : Int)) = false) (hq1 : decide ((100 : Int) < (qn : Int)) = false) (h0 : 0 < n) (h1 : pn = 0) :
    Calls Try.prog 7 #[.agg #[.int .i64 kv, .int .i64 1, .int .i64 (n : Int), .int .i64 0, .slice Av n cv], .slice Ap pn cp, .slice Aq qn cq] w fun e w' => e = .returned (.bool true) ∧ Below w.heap.size w w' := by
  have hl := hsv.len
  have hpl := hsp.len
  have hql := hsq.len
  have hn : n ≤ 400 := by rw [← hl]; exact achk_len hv
  have hp2 : pn ≤ 100 := by have := of_decide_eq_false hp1; omega
  have hq2 : qn ≤ 100 := by have := of_decide_eq_false hq1; omega
  have Sv := Lib.hid hsv
  have Sp := Lib.hid hsp
  have Sq := Lib.hid hsq
  have HW := Lib.hid hwv
  have HV := Lib.hid (show isV kv 1 (n : Int) 0 xs = true from decide_eq_true ⟨hv, rfl⟩)
  have HI := Lib.hid (show sIota ⟨1, 0, 0, 0, [(n : Int)]⟩ = (⟨1, 1, (n : Int), 0, iotaL n⟩, 0) from sIota_int hn)
  have HS := Lib.hid (show sFAt ⟨kv, 1, (n : Int), 0, xs⟩ ⟨1, 1, (n : Int), 0, iotaL n⟩ = (⟨kv, 1, (n : Int), 0, xs⟩, 0) from by rw [sFAt_vec hv (ivec_mk' (iotaL_len n) hn) (fun p hp => by rw [hl]; exact mem_iotaL.1 hp)]; rw [← hl, iota_map])
  have HN := Lib.hid (show sFIn ⟨kv, 1, (n : Int), 0, xs⟩ ⟨kv, 1, (n : Int), 0, xs⟩ = (⟨1, 1, (n : Int), 0, xs.map (isIn xs)⟩, 0) from sFIn_vec hv hv)
  have HL := Lib.hid hl
  have LI := Lib.hid (iotaL_len n)
  have LN := Lib.hid (show (xs.map (isIn xs)).length = n by rw [List.length_map, hl])
  have hz0 : ((n : Int) == 0) = false := by simp; omega
  have hz1 : ((pn : Int) == 0) = true := by simp; omega
  have HZ0 := Lib.hid hz0
  have HZ1 := Lib.hid hz1
  have hnn : ((n : Int) != (n : Int)) = false := by simp
  clear h0 h1
  have HPP := Lib.hid hp2
  have HQQ := Lib.hid hq2
  clear hl hpl hql hsv hsp hsq hv hwv hz0 hz1 hp2 hq2
  go_enter Try.func7, Try.ntmps7
  go_wp2_with fail
  refine (vec8_any kv 1 (n : Int) 0 Av n cv xs true _ (Sv.out.step (below1 _ _ )) HV.out).mono ?_
  rintro e w1 ⟨rfl, hst⟩
  obtain ⟨Xv, hst⟩ := after1 hst
  replace Sv := Lib.hid (Sv.out.step hst)
  replace Sp := Lib.hid (Sp.out.step hst)
  replace Sq := Lib.hid (Sq.out.step hst)
  have b : Below w.heap.size w w1 := hst
  clear hst
  have dXv : ∀ i, w1.cell? ⟨w.heap.size, i, none⟩ = _ := Bx.cell Xv
  have eXv : ∀ i, w1.frozen? ⟨w.heap.size, i, none⟩ = false := Bx.frozen Xv
  have qXv := Bx.lt Xv
  go_wp2_with fail
  refine (int_any (n : Int) _).mono ?_
  rintro e w2 ⟨⟨A2, n2, c2, rfl, hS2, hN2⟩, hst⟩
  clear dXv eXv qXv
  replace Xv := Bx.step Xv hst
  replace Sv := Lib.hid (Sv.out.step hst)
  replace Sp := Lib.hid (Sp.out.step hst)
  replace Sq := Lib.hid (Sq.out.step hst)
  replace b : Below w.heap.size w w2 := bst b hst
  clear hst
  have Si := Lib.hid hS2
  have NSi := Lib.hid hN2
  clear hS2 hN2
  clear hp1 hq1
  have dXv : ∀ i, w2.cell? ⟨w.heap.size, i, none⟩ = _ := Bx.cell Xv
  have eXv : ∀ i, w2.frozen? ⟨w.heap.size, i, none⟩ = false := Bx.frozen Xv
  have qXv := Bx.lt Xv
  go_wp2_with fail
  refine (fiota_any 1 0 0 0 A2 n2 c2 [(n : Int)] _ _ Si.out HI.out).mono ?_
  intro e w3 hR
  obtain ⟨A3, n3, c3, rfl, hS3, hN3, hst⟩ := RetA.flat hR
  clear hR
  clear dXv eXv qXv
  replace Xv := Bx.step Xv hst
  replace Sv := Lib.hid (Sv.out.step hst)
  replace Sp := Lib.hid (Sp.out.step hst)
  replace Sq := Lib.hid (Sq.out.step hst)
  replace Si := Lib.hid (Si.out.step hst)
  replace b : Below w.heap.size w w3 := bst b hst
  clear hst
  have Sio := Lib.hid hS3
  have NSio := Lib.hid hN3
  clear hS3 hN3
  obtain rfl : n = n3 := LI.out.symm.trans Sio.out.len
  have dXv : ∀ i, w3.cell? ⟨w.heap.size, i, none⟩ = _ := Bx.cell Xv
  have eXv : ∀ i, w3.frozen? ⟨w.heap.size, i, none⟩ = false := Bx.frozen Xv
  have qXv := Bx.lt Xv
  go_wp2_with fail
  refine (fat_any kv 1 (n : Int) 0 Av n cv xs 1 1 (n : Int) 0 A3 n c3 (iotaL n) _ _ (Sv.out.step (below1 _ _ )) (Sio.out.step (below1 _ _ )) HS.out).mono ?_
  intro e w4 hR
  obtain ⟨A4, n4, c4, rfl, hS4, hN4, hst⟩ := RetA.flat hR
  clear hR
  clear dXv eXv qXv
  obtain ⟨Xl, hst⟩ := after1 hst
  replace Xv := Bx.step Xv hst
  replace Sv := Lib.hid (Sv.out.step hst)
  replace Sp := Lib.hid (Sp.out.step hst)
  replace Sq := Lib.hid (Sq.out.step hst)
  replace Si := Lib.hid (Si.out.step hst)
  replace Sio := Lib.hid (Sio.out.step hst)
  replace b : Below w.heap.size w w4 := bst b hst
  clear hst
  have Sm := Lib.hid hS4
  have NSm := Lib.hid hN4
  clear hS4 hN4
  obtain rfl : n = n4 := HL.out.symm.trans Sm.out.len
  have dXv : ∀ i, w4.cell? ⟨w.heap.size, i, none⟩ = _ := Bx.cell Xv
  have eXv : ∀ i, w4.frozen? ⟨w.heap.size, i, none⟩ = false := Bx.frozen Xv
  have qXv := Bx.lt Xv
  have dXl : ∀ i, w4.cell? ⟨w3.heap.size, i, none⟩ = _ := Bx.cell Xl
  have eXl : ∀ i, w4.frozen? ⟨w3.heap.size, i, none⟩ = false := Bx.frozen Xl
  have qXl := Bx.lt Xl
  go_wp2_with fail
  refine (fin_any kv 1 (n : Int) 0 Av n cv xs kv 1 (n : Int) 0 Av n cv xs _ _ (Sv.out.step (below1 _ _ )) (Sv.out.step (below1 _ _ )) HW.out HW.out HN.out).mono ?_
  intro e w5 hR
  obtain ⟨A5, n5, c5, rfl, hS5, hN5, hst⟩ := RetA.flat hR
  clear hR
  clear dXv eXv qXv dXl eXl qXl
  obtain ⟨Xm, hst⟩ := after1 hst
  replace Xv := Bx.step Xv hst
  replace Xl := Bx.step Xl hst
  replace Sv := Lib.hid (Sv.out.step hst)
  replace Sp := Lib.hid (Sp.out.step hst)
  replace Sq := Lib.hid (Sq.out.step hst)
  replace Si := Lib.hid (Si.out.step hst)
  replace Sio := Lib.hid (Sio.out.step hst)
  replace Sm := Lib.hid (Sm.out.step hst)
  replace b : Below w.heap.size w w5 := bst b hst
  clear hst
  have Sn := Lib.hid hS5
  have NSn := Lib.hid hN5
  clear hS5 hN5
  obtain rfl : n = n5 := LN.out.symm.trans Sn.out.len
  have dXv : ∀ i, w5.cell? ⟨w.heap.size, i, none⟩ = _ := Bx.cell Xv
  have eXv : ∀ i, w5.frozen? ⟨w.heap.size, i, none⟩ = false := Bx.frozen Xv
  have qXv := Bx.lt Xv
  have dXl : ∀ i, w5.cell? ⟨w3.heap.size, i, none⟩ = _ := Bx.cell Xl
  have eXl : ∀ i, w5.frozen? ⟨w3.heap.size, i, none⟩ = false := Bx.frozen Xl
  have qXl := Bx.lt Xl
  have dXm : ∀ i, w5.cell? ⟨w4.heap.size, i, none⟩ = _ := Bx.cell Xm
  have eXm : ∀ i, w5.frozen? ⟨w4.heap.size, i, none⟩ = false := Bx.frozen Xm
  have qXm := Bx.lt Xm
  go_wp2_with fail
  refine (is_true kv 1 (n : Int) 0 A4 n c4 xs Av n cv _ (Sm.out.step (below1 _ _ )) (Sv.out.step (below1 _ _ ))).mono ?_
  rintro e w6 ⟨rfl, hst⟩
  clear dXv eXv qXv dXl eXl qXl dXm eXm qXm
  obtain ⟨Xn, hst⟩ := after1 hst
  replace Xv := Bx.step Xv hst
  replace Xl := Bx.step Xl hst
  replace Xm := Bx.step Xm hst
  replace Sv := Lib.hid (Sv.out.step hst)
  replace Sp := Lib.hid (Sp.out.step hst)
  replace Sq := Lib.hid (Sq.out.step hst)
  replace Si := Lib.hid (Si.out.step hst)
  replace Sio := Lib.hid (Sio.out.step hst)
  replace Sm := Lib.hid (Sm.out.step hst)
  replace Sn := Lib.hid (Sn.out.step hst)
  replace b : Below w.heap.size w w6 := bst b hst
  clear hst
  have dXv : ∀ i, w6.cell? ⟨w.heap.size, i, none⟩ = _ := Bx.cell Xv
  have eXv : ∀ i, w6.frozen? ⟨w.heap.size, i, none⟩ = false := Bx.frozen Xv
  have qXv := Bx.lt Xv
  have dXl : ∀ i, w6.cell? ⟨w3.heap.size, i, none⟩ = _ := Bx.cell Xl
  have eXl : ∀ i, w6.frozen? ⟨w3.heap.size, i, none⟩ = false := Bx.frozen Xl
  have qXl := Bx.lt Xl
  have dXm : ∀ i, w6.cell? ⟨w4.heap.size, i, none⟩ = _ := Bx.cell Xm
  have eXm : ∀ i, w6.frozen? ⟨w4.heap.size, i, none⟩ = false := Bx.frozen Xm
  have qXm := Bx.lt Xm
  have dXn : ∀ i, w6.cell? ⟨w5.heap.size, i, none⟩ = _ := Bx.cell Xn
  have eXn : ∀ i, w6.frozen? ⟨w5.heap.size, i, none⟩ = false := Bx.frozen Xn
  have qXn := Bx.lt Xn
  go_wp2_with fail
  clear hnn dXv eXv qXv dXl eXl qXl dXm eXm qXm dXn eXn qXn
  go_loopw [14] (fun i wr => ∃ j : Nat, i = .int .i64 j ∧ j ≤ n ∧ Below w6.heap.size w6 wr) (fun i _ => n - (intOf i).toNat)
  case atStart => exact ⟨0, rfl, Nat.zero_le _, Below.refl _ _⟩
  case round =>
    obtain ⟨j, rfl, hj, hbl⟩ := hrel
    by_cases hlt : j < n
    · have k0 : (0 : Int) ≤ (j : Int) := by omega
      have k1 : (j : Int) < (n : Int) := by omega
      obtain ⟨mb, mo, hmA, hml, hmc0⟩ := Sn.out.at_ hlt
      rw [isIn_self xs j (by rw [HL.out]; exact hlt)] at hmc0
      have hmc := (hbl.cell (p := ⟨mb, mo + j, none⟩) hml).trans hmc0
      have dXn : ∀ i, wr.cell? ⟨w5.heap.size, i, none⟩ = _ := Bx.cell (Bx.step Xn hbl)
      rw [hmA] at dXn
      clear hmA hmc0
      go_wp2
      exact ⟨⟨j + 1, rfl, by omega, hbl⟩, by simp only [intOf]; omega⟩
    · obtain rfl : n = j := by omega
      obtain ⟨w30, hw_⟩ : ∃ w30, wr = w30 := ⟨_, rfl⟩
      rw [hw_] at hbl
      rw [hw_]
      clear hw_
      have hst := hbl
      replace Xv := Bx.step Xv hst
      replace Xl := Bx.step Xl hst
      replace Xm := Bx.step Xm hst
      replace Xn := Bx.step Xn hst
      replace Sv := Lib.hid (Sv.out.step hst)
      replace Sp := Lib.hid (Sp.out.step hst)
      replace Sq := Lib.hid (Sq.out.step hst)
      replace Si := Lib.hid (Si.out.step hst)
      replace Sio := Lib.hid (Sio.out.step hst)
      replace Sm := Lib.hid (Sm.out.step hst)
      replace Sn := Lib.hid (Sn.out.step hst)
      replace b := bst b hst
      clear hst hbl
      have hz0 := HZ0.out
      have hz1 := HZ1.out
      have dXv : ∀ i, w30.cell? ⟨w.heap.size, i, none⟩ = _ := Bx.cell Xv
      have eXv : ∀ i, w30.frozen? ⟨w.heap.size, i, none⟩ = false := Bx.frozen Xv
      have qXv := Bx.lt Xv
      have dXl : ∀ i, w30.cell? ⟨w3.heap.size, i, none⟩ = _ := Bx.cell Xl
      have eXl : ∀ i, w30.frozen? ⟨w3.heap.size, i, none⟩ = false := Bx.frozen Xl
      have qXl := Bx.lt Xl
      have dXm : ∀ i, w30.cell? ⟨w4.heap.size, i, none⟩ = _ := Bx.cell Xm
      have eXm : ∀ i, w30.frozen? ⟨w4.heap.size, i, none⟩ = false := Bx.frozen Xm
      have qXm := Bx.lt Xm
      have dXn : ∀ i, w30.cell? ⟨w5.heap.size, i, none⟩ = _ := Bx.cell Xn
      have eXn : ∀ i, w30.frozen? ⟨w5.heap.size, i, none⟩ = false := Bx.frozen Xn
      have qXn := Bx.lt Xn
      go_wp2_with fail
      refine (awake_any _).mono ?_
      rintro e wz ⟨rfl, hbz⟩
      go_wp2
      go_ret
      exact ⟨rfl, bst b hbz⟩
set_option maxRecDepth 100000 in
set_option maxHeartbeats 4000000 in
theorem looks_main (kv : Int) (Av : Option Addr) (n cv : Nat) (xs : List Int) (Ap : Option Addr) (pn cp : Nat) (ps : List Int) (Aq : Option Addr) (qn cq : Nat) (qs : List Int) (w : World) (hsv : Sl w Av n cv xs) (hsp : SlU w Ap pn cp ps) (hsq : SlU w Aq qn cq qs) (hv : achk kv 1 (n : Int) 0 xs = 0) (hwv : ∀ x ∈ xs, -9223372036854775808 ≤ x ∧ x ≤ 9223372036854775807) (hp1 : decide ((100 : Int) < (pn : Int)) = false) (hq1 : decide ((100 : Int) < (qn : Int)) = false) (h0 : 0 < n) (h1 : 0 < pn) :
    Calls Try.prog 7 #[.agg #[.int .i64 kv, .int .i64 1, .int .i64 (n : Int), .int .i64 0, .slice Av n cv], .slice Ap pn cp, .slice Aq qn cq] w fun e w' => e = .returned (.bool true) ∧ Below w.heap.size w w' := by
  have hl := hsv.len
  have hpl := hsp.len
  have hql := hsq.len
  have hn : n ≤ 400 := by rw [← hl]; exact achk_len hv
  have hp2 : pn ≤ 100 := by have := of_decide_eq_false hp1; omega
  have hq2 : qn ≤ 100 := by have := of_decide_eq_false hq1; omega
  have Sv := Lib.hid hsv
  have Sp := Lib.hid hsp
  have Sq := Lib.hid hsq
  have HW := Lib.hid hwv
  have HV := Lib.hid (show isV kv 1 (n : Int) 0 xs = true from decide_eq_true ⟨hv, rfl⟩)
  have HI := Lib.hid (show sIota ⟨1, 0, 0, 0, [(n : Int)]⟩ = (⟨1, 1, (n : Int), 0, iotaL n⟩, 0) from sIota_int hn)
  have HS := Lib.hid (show sFAt ⟨kv, 1, (n : Int), 0, xs⟩ ⟨1, 1, (n : Int), 0, iotaL n⟩ = (⟨kv, 1, (n : Int), 0, xs⟩, 0) from by rw [sFAt_vec hv (ivec_mk' (iotaL_len n) hn) (fun p hp => by rw [hl]; exact mem_iotaL.1 hp)]; rw [← hl, iota_map])
  have HN := Lib.hid (show sFIn ⟨kv, 1, (n : Int), 0, xs⟩ ⟨kv, 1, (n : Int), 0, xs⟩ = (⟨1, 1, (n : Int), 0, xs.map (isIn xs)⟩, 0) from sFIn_vec hv hv)
  have HL := Lib.hid hl
  have LI := Lib.hid (iotaL_len n)
  have LN := Lib.hid (show (xs.map (isIn xs)).length = n by rw [List.length_map, hl])
  have hk := (vec_ok hv).1
  have hal : (modL n ps).length = pn := by rw [modL_len, hpl]
  have hbl : (modL pn qs).length = qn := by rw [modL_len, hql]
  have hai := modL_in h0 ps
  have hbi := modL_in h1 qs
  have hac : achk 1 1 (pn : Int) 0 (modL n ps) = 0 := ivec_mk' hal (by omega)
  have hbc : achk 1 1 (qn : Int) 0 (modL pn qs) = 0 := ivec_mk' hbl (by omega)
  have hai2 : ∀ p ∈ modL n ps, 0 ≤ p ∧ p < (xs.length : Int) := by rw [hl]; exact hai
  have hfl : (atL xs (modL n ps)).length = pn := by rw [atL_len, hal]
  have hfc : achk kv 1 (pn : Int) 0 (atL xs (modL n ps)) = 0 := by have := vec_mk hk (xs := atL xs (modL n ps)) (by omega) (atL_right (achk_all hv) hai2); rwa [hfl] at this
  have hll : (atL (modL n ps) (modL pn qs)).length = qn := by rw [atL_len, hbl]
  have hlc : achk 1 1 (qn : Int) 0 (atL (modL n ps) (modL pn qs)) = 0 := ivec_mk' hll (by omega)
  have hsl : (atL (atL xs (modL n ps)) (modL pn qs)).length = qn := by rw [atL_len, hbl]
  have HF := Lib.hid (show sFAt ⟨kv, 1, (n : Int), 0, xs⟩ ⟨1, 1, (pn : Int), 0, modL n ps⟩ = (⟨kv, 1, (pn : Int), 0, atL xs (modL n ps)⟩, 0) from sFAt_vec hv hac hai2)
  have HG2 := Lib.hid (show sFAt ⟨kv, 1, (pn : Int), 0, atL xs (modL n ps)⟩ ⟨1, 1, (qn : Int), 0, modL pn qs⟩ = (⟨kv, 1, (qn : Int), 0, atL (atL xs (modL n ps)) (modL pn qs)⟩, 0) from sFAt_vec hfc hbc (by rw [hfl]; exact hbi))
  have HP2 := Lib.hid (show sFAt ⟨1, 1, (pn : Int), 0, modL n ps⟩ ⟨1, 1, (qn : Int), 0, modL pn qs⟩ = (⟨1, 1, (qn : Int), 0, atL (modL n ps) (modL pn qs)⟩, 0) from sFAt_vec hac hbc (by rw [hal]; exact hbi))
  have HO2 := Lib.hid (show sFAt ⟨kv, 1, (n : Int), 0, xs⟩ ⟨1, 1, (qn : Int), 0, atL (modL n ps) (modL pn qs)⟩ = (⟨kv, 1, (qn : Int), 0, atL (atL xs (modL n ps)) (modL pn qs)⟩, 0) from by rw [sFAt_vec hv hlc (fun p hp => by obtain ⟨z, hz, rfl⟩ := List.mem_map.1 hp; have := hbi z hz; exact hai2 _ (by rw [getD_get (by omega)]; exact List.getElem_mem _)), atL_atL (by rw [hal]; exact hbi)]; rfl)
  have LA := Lib.hid hal
  have LB := Lib.hid hbl
  have LF := Lib.hid hfl
  have LL := Lib.hid hll
  have LS := Lib.hid hsl
  have LP := Lib.hid hpl
  have LQ := Lib.hid hql
  clear hk hal hbl hai hbi hac hbc hai2 hfl hfc hll hlc hsl
  obtain ⟨AL, hAL⟩ : ∃ z, modL n ps = z := ⟨_, rfl⟩
  rw [hAL] at HF HG2 HP2 HO2 LA LF LL LS
  have HAL := Lib.hid hAL
  clear hAL
  obtain ⟨BLL, hBLL⟩ : ∃ z, modL pn qs = z := ⟨_, rfl⟩
  rw [hBLL] at HG2 HP2 HO2 LB LL LS
  have HBLL := Lib.hid hBLL
  clear hBLL
  obtain ⟨F1, hF1⟩ : ∃ z, atL xs AL = z := ⟨_, rfl⟩
  rw [hF1] at HF HG2 HO2 LF LS
  have HF1 := Lib.hid hF1
  clear hF1
  obtain ⟨PP, hPP⟩ : ∃ z, atL AL BLL = z := ⟨_, rfl⟩
  rw [hPP] at HP2 HO2 LL
  have HPP := Lib.hid hPP
  clear hPP
  obtain ⟨S2, hS2⟩ : ∃ z, atL F1 BLL = z := ⟨_, rfl⟩
  rw [hS2] at HG2 HO2 LS
  have HS2 := Lib.hid hS2
  clear hS2
  have hz0 : ((n : Int) == 0) = false := by simp; omega
  have hz1 : ((pn : Int) == 0) = false := by simp; omega
  have HZ0 := Lib.hid hz0
  have HZ1 := Lib.hid hz1
  have hnn : ((n : Int) != (n : Int)) = false := by simp
  have H0 := Lib.hid h0
  have H1 := Lib.hid h1
  clear h0 h1
  have HPP := Lib.hid hp2
  have HQQ := Lib.hid hq2
  clear hl hpl hql hsv hsp hsq hv hwv hz0 hz1 hp2 hq2
  go_enter Try.func7, Try.ntmps7
  go_wp2_with fail
  refine (vec8_any kv 1 (n : Int) 0 Av n cv xs true _ (Sv.out.step (below1 _ _ )) HV.out).mono ?_
  rintro e w1 ⟨rfl, hst⟩
  obtain ⟨Xv, hst⟩ := after1 hst
  replace Sv := Lib.hid (Sv.out.step hst)
  replace Sp := Lib.hid (Sp.out.step hst)
  replace Sq := Lib.hid (Sq.out.step hst)
  have b : Below w.heap.size w w1 := hst
  clear hst
  have dXv : ∀ i, w1.cell? ⟨w.heap.size, i, none⟩ = _ := Bx.cell Xv
  have eXv : ∀ i, w1.frozen? ⟨w.heap.size, i, none⟩ = false := Bx.frozen Xv
  have qXv := Bx.lt Xv
  go_wp2_with fail
  refine (int_any (n : Int) _).mono ?_
  rintro e w2 ⟨⟨A2, n2, c2, rfl, hS2, hN2⟩, hst⟩
  clear dXv eXv qXv
  replace Xv := Bx.step Xv hst
  replace Sv := Lib.hid (Sv.out.step hst)
  replace Sp := Lib.hid (Sp.out.step hst)
  replace Sq := Lib.hid (Sq.out.step hst)
  replace b : Below w.heap.size w w2 := bst b hst
  clear hst
  have Si := Lib.hid hS2
  have NSi := Lib.hid hN2
  clear hS2 hN2
  clear hp1 hq1
  have dXv : ∀ i, w2.cell? ⟨w.heap.size, i, none⟩ = _ := Bx.cell Xv
  have eXv : ∀ i, w2.frozen? ⟨w.heap.size, i, none⟩ = false := Bx.frozen Xv
  have qXv := Bx.lt Xv
  go_wp2_with fail
  refine (fiota_any 1 0 0 0 A2 n2 c2 [(n : Int)] _ _ Si.out HI.out).mono ?_
  intro e w3 hR
  obtain ⟨A3, n3, c3, rfl, hS3, hN3, hst⟩ := RetA.flat hR
  clear hR
  clear dXv eXv qXv
  replace Xv := Bx.step Xv hst
  replace Sv := Lib.hid (Sv.out.step hst)
  replace Sp := Lib.hid (Sp.out.step hst)
  replace Sq := Lib.hid (Sq.out.step hst)
  replace Si := Lib.hid (Si.out.step hst)
  replace b : Below w.heap.size w w3 := bst b hst
  clear hst
  have Sio := Lib.hid hS3
  have NSio := Lib.hid hN3
  clear hS3 hN3
  obtain rfl : n = n3 := LI.out.symm.trans Sio.out.len
  have dXv : ∀ i, w3.cell? ⟨w.heap.size, i, none⟩ = _ := Bx.cell Xv
  have eXv : ∀ i, w3.frozen? ⟨w.heap.size, i, none⟩ = false := Bx.frozen Xv
  have qXv := Bx.lt Xv
  go_wp2_with fail
  refine (fat_any kv 1 (n : Int) 0 Av n cv xs 1 1 (n : Int) 0 A3 n c3 (iotaL n) _ _ (Sv.out.step (below1 _ _ )) (Sio.out.step (below1 _ _ )) HS.out).mono ?_
  intro e w4 hR
  obtain ⟨A4, n4, c4, rfl, hS4, hN4, hst⟩ := RetA.flat hR
  clear hR
  clear dXv eXv qXv
  obtain ⟨Xl, hst⟩ := after1 hst
  replace Xv := Bx.step Xv hst
  replace Sv := Lib.hid (Sv.out.step hst)
  replace Sp := Lib.hid (Sp.out.step hst)
  replace Sq := Lib.hid (Sq.out.step hst)
  replace Si := Lib.hid (Si.out.step hst)
  replace Sio := Lib.hid (Sio.out.step hst)
  replace b : Below w.heap.size w w4 := bst b hst
  clear hst
  have Sm := Lib.hid hS4
  have NSm := Lib.hid hN4
  clear hS4 hN4
  obtain rfl : n = n4 := HL.out.symm.trans Sm.out.len
  have dXv : ∀ i, w4.cell? ⟨w.heap.size, i, none⟩ = _ := Bx.cell Xv
  have eXv : ∀ i, w4.frozen? ⟨w.heap.size, i, none⟩ = false := Bx.frozen Xv
  have qXv := Bx.lt Xv
  have dXl : ∀ i, w4.cell? ⟨w3.heap.size, i, none⟩ = _ := Bx.cell Xl
  have eXl : ∀ i, w4.frozen? ⟨w3.heap.size, i, none⟩ = false := Bx.frozen Xl
  have qXl := Bx.lt Xl
  go_wp2_with fail
  refine (fin_any kv 1 (n : Int) 0 Av n cv xs kv 1 (n : Int) 0 Av n cv xs _ _ (Sv.out.step (below1 _ _ )) (Sv.out.step (below1 _ _ )) HW.out HW.out HN.out).mono ?_
  intro e w5 hR
  obtain ⟨A5, n5, c5, rfl, hS5, hN5, hst⟩ := RetA.flat hR
  clear hR
  clear dXv eXv qXv dXl eXl qXl
  obtain ⟨Xm, hst⟩ := after1 hst
  replace Xv := Bx.step Xv hst
  replace Xl := Bx.step Xl hst
  replace Sv := Lib.hid (Sv.out.step hst)
  replace Sp := Lib.hid (Sp.out.step hst)
  replace Sq := Lib.hid (Sq.out.step hst)
  replace Si := Lib.hid (Si.out.step hst)
  replace Sio := Lib.hid (Sio.out.step hst)
  replace Sm := Lib.hid (Sm.out.step hst)
  replace b : Below w.heap.size w w5 := bst b hst
  clear hst
  have Sn := Lib.hid hS5
  have NSn := Lib.hid hN5
  clear hS5 hN5
  obtain rfl : n = n5 := LN.out.symm.trans Sn.out.len
  have dXv : ∀ i, w5.cell? ⟨w.heap.size, i, none⟩ = _ := Bx.cell Xv
  have eXv : ∀ i, w5.frozen? ⟨w.heap.size, i, none⟩ = false := Bx.frozen Xv
  have qXv := Bx.lt Xv
  have dXl : ∀ i, w5.cell? ⟨w3.heap.size, i, none⟩ = _ := Bx.cell Xl
  have eXl : ∀ i, w5.frozen? ⟨w3.heap.size, i, none⟩ = false := Bx.frozen Xl
  have qXl := Bx.lt Xl
  have dXm : ∀ i, w5.cell? ⟨w4.heap.size, i, none⟩ = _ := Bx.cell Xm
  have eXm : ∀ i, w5.frozen? ⟨w4.heap.size, i, none⟩ = false := Bx.frozen Xm
  have qXm := Bx.lt Xm
  go_wp2_with fail
  refine (is_true kv 1 (n : Int) 0 A4 n c4 xs Av n cv _ (Sm.out.step (below1 _ _ )) (Sv.out.step (below1 _ _ ))).mono ?_
  rintro e w6 ⟨rfl, hst⟩
  clear dXv eXv qXv dXl eXl qXl dXm eXm qXm
  obtain ⟨Xn, hst⟩ := after1 hst
  replace Xv := Bx.step Xv hst
  replace Xl := Bx.step Xl hst
  replace Xm := Bx.step Xm hst
  replace Sv := Lib.hid (Sv.out.step hst)
  replace Sp := Lib.hid (Sp.out.step hst)
  replace Sq := Lib.hid (Sq.out.step hst)
  replace Si := Lib.hid (Si.out.step hst)
  replace Sio := Lib.hid (Sio.out.step hst)
  replace Sm := Lib.hid (Sm.out.step hst)
  replace Sn := Lib.hid (Sn.out.step hst)
  replace b : Below w.heap.size w w6 := bst b hst
  clear hst
  have dXv : ∀ i, w6.cell? ⟨w.heap.size, i, none⟩ = _ := Bx.cell Xv
  have eXv : ∀ i, w6.frozen? ⟨w.heap.size, i, none⟩ = false := Bx.frozen Xv
  have qXv := Bx.lt Xv
  have dXl : ∀ i, w6.cell? ⟨w3.heap.size, i, none⟩ = _ := Bx.cell Xl
  have eXl : ∀ i, w6.frozen? ⟨w3.heap.size, i, none⟩ = false := Bx.frozen Xl
  have qXl := Bx.lt Xl
  have dXm : ∀ i, w6.cell? ⟨w4.heap.size, i, none⟩ = _ := Bx.cell Xm
  have eXm : ∀ i, w6.frozen? ⟨w4.heap.size, i, none⟩ = false := Bx.frozen Xm
  have qXm := Bx.lt Xm
  have dXn : ∀ i, w6.cell? ⟨w5.heap.size, i, none⟩ = _ := Bx.cell Xn
  have eXn : ∀ i, w6.frozen? ⟨w5.heap.size, i, none⟩ = false := Bx.frozen Xn
  have qXn := Bx.lt Xn
  go_wp2_with fail
  clear hnn dXv eXv qXv dXl eXl qXl dXm eXm qXm dXn eXn qXn
  go_loopw [14] (fun i wr => ∃ j : Nat, i = .int .i64 j ∧ j ≤ n ∧ Below w6.heap.size w6 wr) (fun i _ => n - (intOf i).toNat)
  case atStart => exact ⟨0, rfl, Nat.zero_le _, Below.refl _ _⟩
  case round =>
    obtain ⟨j, rfl, hj, hbl⟩ := hrel
    by_cases hlt : j < n
    · have k0 : (0 : Int) ≤ (j : Int) := by omega
      have k1 : (j : Int) < (n : Int) := by omega
      obtain ⟨mb, mo, hmA, hml, hmc0⟩ := Sn.out.at_ hlt
      rw [isIn_self xs j (by rw [HL.out]; exact hlt)] at hmc0
      have hmc := (hbl.cell (p := ⟨mb, mo + j, none⟩) hml).trans hmc0
      have dXn : ∀ i, wr.cell? ⟨w5.heap.size, i, none⟩ = _ := Bx.cell (Bx.step Xn hbl)
      rw [hmA] at dXn
      clear hmA hmc0
      go_wp2
      exact ⟨⟨j + 1, rfl, by omega, hbl⟩, by simp only [intOf]; omega⟩
    · obtain rfl : n = j := by omega
      obtain ⟨w30, hw_⟩ : ∃ w30, wr = w30 := ⟨_, rfl⟩
      rw [hw_] at hbl
      rw [hw_]
      clear hw_
      have hst := hbl
      replace Xv := Bx.step Xv hst
      replace Xl := Bx.step Xl hst
      replace Xm := Bx.step Xm hst
      replace Xn := Bx.step Xn hst
      replace Sv := Lib.hid (Sv.out.step hst)
      replace Sp := Lib.hid (Sp.out.step hst)
      replace Sq := Lib.hid (Sq.out.step hst)
      replace Si := Lib.hid (Si.out.step hst)
      replace Sio := Lib.hid (Sio.out.step hst)
      replace Sm := Lib.hid (Sm.out.step hst)
      replace Sn := Lib.hid (Sn.out.step hst)
      replace b := bst b hst
      clear hst hbl
      have hz0 := HZ0.out
      have hz1 := HZ1.out
      go_wp2
      go_loopw [15, 17] (fun v i wr => ∃ (j : Nat) (V : Option Addr) (vc : Nat), i = .int .i64 j ∧ v = .slice V j vc ∧ j ≤ pn ∧ Hid (wr.ownsRow w30.heap.size 2 1 (.slice V j vc) j ((modL n (ps.take j)).map (Value.int .i64))) ∧ Below w30.heap.size w30 wr) (fun _ i _ => pn - (intOf i).toNat)
      case atStart => exact ⟨0, none, 0, rfl, rfl, Nat.zero_le _, Lib.hid (by simpa [modL] using World.ownsRow_nil _ _ _ _), Below.refl _ _⟩
      case round =>
        obtain ⟨j, V, vc, rfl, rfl, hj, HO, hbl⟩ := hrel
        by_cases hlt : j < pn
        · have k0 : (0 : Int) ≤ (j : Int) := by omega
          have k1 : (j : Int) < (pn : Int) := by omega
          obtain ⟨mb, mo, hmA, hml, hmc0⟩ := Sp.out.at_ hlt
          have hgt := Sp.out.get hlt
          have hmc := (hbl.cell (p := ⟨mb, mo + j, none⟩) hml).trans hmc0
          have htk : ps.take j ++ [ps.getD j 0] = ps.take (j + 1) := getD_set_last (by rw [LP.out]; exact hlt)
          have hms := modL_snoc n (ps.take j) (ps.getD j 0)
          rw [htk] at hms
          generalize ps.getD j 0 = x at hmc0 hmc hms hgt
          obtain ⟨X, rfl⟩ : ∃ X : Nat, x = (X : Int) := ⟨x.toNat, by omega⟩
          rw [Int.toNat_natCast] at hms
          have hmd : Int.tmod (X : Int) (n : Int) = ((X % n : Nat) : Int) := rfl
          have hm0 : ((n : Int) == 0) = false := by have := H0.out; simp; omega
          have hm00 : ¬ n = 0 := by have := H0.out; omega
          have hX : (X : Int) ≤ 65535 := by omega
          obtain ⟨z, hz⟩ : ∃ z : Nat, X % n = z := ⟨_, rfl⟩
          rw [hz] at hmd hms
          have HMS := Lib.hid hms
          subst hmA
          have hj100 : j ≤ 100 := by have := HPP.out; omega
          clear htk hmc0 hms hgt hz
          have HO1 := Lib.hid (HO.out.alloc (.cells #[.int .i64 (z : Int)] 2))
          have HS1 := Lib.hid (slOne wr (z : Int))
          have HZ := Lib.hid (show w30.heap.size ≤ (wr.alloc (.cells #[.int .i64 (z : Int)] 2)).heap.size by simp; have := hbl.size; omega)
          have HBL := Lib.hid (hbl.alloc hbl.size (.cells #[.int .i64 (z : Int)] 2))
          go_wp2_with (at_builtin; refine wpList_append_sl rfl _ _ rfl rfl w30.heap.size _ j (modL n (ps.take j)) rfl HO1.out (some ⟨wr.heap.size, 0, none⟩) 1 1 [(z : Int)] rfl HS1.out (by omega) HZ.out ?_)
          intro A2_ c2_ w2_ hg
          have hbl2 : Below w30.heap.size w30 w2_ := hg.below HBL.out (fun k hk => by have := (HO1.out.lt k hk).1; omega)
          have HG := Lib.hid (show w2_.ownsRow w30.heap.size 2 1 (.slice A2_ (j + 1) c2_) (j + 1) ((modL n (ps.take j) ++ [(z : Int)]).map (Value.int .i64)) from hg.1)
          clear hg hbl
          clear hmc hmd hm0 hm00
          go_wp2
          exact ⟨⟨j + 1, A2_, c2_, rfl, rfl, by omega, Lib.hid (by rw [HMS.out]; exact HG.out), hbl2⟩, by simp only [intOf]; omega⟩
        · obtain rfl : pn = j := by omega
          have hO := HO.out
          rw [List.take_of_length_le (by rw [LP.out]; exact Nat.le_refl _)] at hO
          obtain ⟨Ao_, co_, hv_, hS_, hN_⟩ := Sl.of_own hO
          obtain ⟨rfl, rfl⟩ : V = Ao_ ∧ vc = co_ := by simpa using hv_
          rw [HAL.out] at hS_
          have Sa := Lib.hid hS_
          clear hO hv_ hS_ hN_ HO hlt
          obtain ⟨VSa, hV_⟩ : ∃ z, V = z := ⟨_, rfl⟩
          obtain ⟨cSa, hC_⟩ : ∃ z, vc = z := ⟨_, rfl⟩
          rw [hV_, hC_] at Sa
          rw [hV_, hC_]
          clear hV_ hC_
          obtain ⟨w40, hw_⟩ : ∃ w40, wr = w40 := ⟨_, rfl⟩
          rw [hw_] at hbl Sa
          rw [hw_]
          clear hw_
          have hst := hbl
          replace Xv := Bx.step Xv hst
          replace Xl := Bx.step Xl hst
          replace Xm := Bx.step Xm hst
          replace Xn := Bx.step Xn hst
          replace Sv := Lib.hid (Sv.out.step hst)
          replace Sp := Lib.hid (Sp.out.step hst)
          replace Sq := Lib.hid (Sq.out.step hst)
          replace Si := Lib.hid (Si.out.step hst)
          replace Sio := Lib.hid (Sio.out.step hst)
          replace Sm := Lib.hid (Sm.out.step hst)
          replace Sn := Lib.hid (Sn.out.step hst)
          replace b := bst b hst
          clear hst hbl
          go_wp2
          go_loopw [16, 18] (fun v i wr => ∃ (j : Nat) (V : Option Addr) (vc : Nat), i = .int .i64 j ∧ v = .slice V j vc ∧ j ≤ qn ∧ Hid (wr.ownsRow w40.heap.size 2 1 (.slice V j vc) j ((modL pn (qs.take j)).map (Value.int .i64))) ∧ Below w40.heap.size w40 wr) (fun _ i _ => qn - (intOf i).toNat)
          case atStart => exact ⟨0, none, 0, rfl, rfl, Nat.zero_le _, Lib.hid (by simpa [modL] using World.ownsRow_nil _ _ _ _), Below.refl _ _⟩
          case round =>
            obtain ⟨j, V, vc, rfl, rfl, hj, HO, hbl⟩ := hrel
            by_cases hlt : j < qn
            · have k0 : (0 : Int) ≤ (j : Int) := by omega
              have k1 : (j : Int) < (qn : Int) := by omega
              obtain ⟨mb, mo, hmA, hml, hmc0⟩ := Sq.out.at_ hlt
              have hgt := Sq.out.get hlt
              have hmc := (hbl.cell (p := ⟨mb, mo + j, none⟩) hml).trans hmc0
              have htk : qs.take j ++ [qs.getD j 0] = qs.take (j + 1) := getD_set_last (by rw [LQ.out]; exact hlt)
              have hms := modL_snoc pn (qs.take j) (qs.getD j 0)
              rw [htk] at hms
              generalize qs.getD j 0 = x at hmc0 hmc hms hgt
              obtain ⟨X, rfl⟩ : ∃ X : Nat, x = (X : Int) := ⟨x.toNat, by omega⟩
              rw [Int.toNat_natCast] at hms
              have hmd : Int.tmod (X : Int) (pn : Int) = ((X % pn : Nat) : Int) := rfl
              have hm0 : ((pn : Int) == 0) = false := by have := H1.out; simp; omega
              have hm00 : ¬ pn = 0 := by have := H1.out; omega
              have hX : (X : Int) ≤ 65535 := by omega
              obtain ⟨z, hz⟩ : ∃ z : Nat, X % pn = z := ⟨_, rfl⟩
              rw [hz] at hmd hms
              have HMS := Lib.hid hms
              subst hmA
              have hj100 : j ≤ 100 := by have := HQQ.out; omega
              clear htk hmc0 hms hgt hz
              have HO1 := Lib.hid (HO.out.alloc (.cells #[.int .i64 (z : Int)] 2))
              have HS1 := Lib.hid (slOne wr (z : Int))
              have HZ := Lib.hid (show w40.heap.size ≤ (wr.alloc (.cells #[.int .i64 (z : Int)] 2)).heap.size by simp; have := hbl.size; omega)
              have HBL := Lib.hid (hbl.alloc hbl.size (.cells #[.int .i64 (z : Int)] 2))
              go_wp2_with (at_builtin; refine wpList_append_sl rfl _ _ rfl rfl w40.heap.size _ j (modL pn (qs.take j)) rfl HO1.out (some ⟨wr.heap.size, 0, none⟩) 1 1 [(z : Int)] rfl HS1.out (by omega) HZ.out ?_)
              intro A2_ c2_ w2_ hg
              have hbl2 : Below w40.heap.size w40 w2_ := hg.below HBL.out (fun k hk => by have := (HO1.out.lt k hk).1; omega)
              have HG := Lib.hid (show w2_.ownsRow w40.heap.size 2 1 (.slice A2_ (j + 1) c2_) (j + 1) ((modL pn (qs.take j) ++ [(z : Int)]).map (Value.int .i64)) from hg.1)
              clear hg hbl
              clear hmc hmd hm0 hm00
              go_wp2
              exact ⟨⟨j + 1, A2_, c2_, rfl, rfl, by omega, Lib.hid (by rw [HMS.out]; exact HG.out), hbl2⟩, by simp only [intOf]; omega⟩
            · obtain rfl : qn = j := by omega
              have hO := HO.out
              rw [List.take_of_length_le (by rw [LQ.out]; exact Nat.le_refl _)] at hO
              obtain ⟨Ao_, co_, hv_, hS_, hN_⟩ := Sl.of_own hO
              obtain ⟨rfl, rfl⟩ : V = Ao_ ∧ vc = co_ := by simpa using hv_
              rw [HBLL.out] at hS_
              have Sb := Lib.hid hS_
              clear hO hv_ hS_ hN_ HO hlt
              obtain ⟨VSb, hV_⟩ : ∃ z, V = z := ⟨_, rfl⟩
              obtain ⟨cSb, hC_⟩ : ∃ z, vc = z := ⟨_, rfl⟩
              rw [hV_, hC_] at Sb
              rw [hV_, hC_]
              clear hV_ hC_
              obtain ⟨w50, hw_⟩ : ∃ w50, wr = w50 := ⟨_, rfl⟩
              rw [hw_] at hbl Sb
              rw [hw_]
              clear hw_
              have hst := hbl
              replace Xv := Bx.step Xv hst
              replace Xl := Bx.step Xl hst
              replace Xm := Bx.step Xm hst
              replace Xn := Bx.step Xn hst
              replace Sv := Lib.hid (Sv.out.step hst)
              replace Sp := Lib.hid (Sp.out.step hst)
              replace Sq := Lib.hid (Sq.out.step hst)
              replace Si := Lib.hid (Si.out.step hst)
              replace Sio := Lib.hid (Sio.out.step hst)
              replace Sm := Lib.hid (Sm.out.step hst)
              replace Sn := Lib.hid (Sn.out.step hst)
              replace Sa := Lib.hid (Sa.out.step hst)
              replace b := bst b hst
              clear hst hbl
              go_upto_region 25 with fail
              go_cut [19, 20] from 134 to 140 (fun p e wx => ∃ (B : Nat) (A : Option Addr) (n c : Nat), p = .pointer (some ⟨B, 0, none⟩) ∧ e = .int .i64 0 ∧ Below w50.heap.size w50 wx ∧ Hid (Bx wx B #[.int .i64 kv, .int .i64 1, .int .i64 (pn : Int), .int .i64 0, .slice A n c] 25) ∧ Hid (Sl wx A n c F1) ∧ w50.heap.size ≤ B ∧ Hid (New w50 A) ∧ Hid (0 < n → ∀ b o, A = some ⟨b, o, none⟩ → b ≠ B))
              case first =>
                have hS : ∀ u, Below w50.heap.size w50 u → (∀ i, u.cell? ⟨w.heap.size, i, none⟩ = #[.int .i64 kv, .int .i64 1, .int .i64 (n : Int), .int .i64 0, .slice Av n cv][i]?) := fun u h => Bx.cell (Bx.step Xv h)
                have P0 : Below w50.heap.size w50 w50.drew := bdr (Below.refl _ _)
                have P1 : Below w50.heap.size w50 (w50.alloc (.cells #[.int .i64 0, .int .i64 0, .int .i64 0, .int .i64 0, .slice none 0 0] 25)).drew := bdr (bal (Below.refl _ _) _)
                have N1 : Bx (w50.alloc (.cells #[.int .i64 0, .int .i64 0, .int .i64 0, .int .i64 0, .slice none 0 0] 25)).drew (w50.heap.size) #[.int .i64 0, .int .i64 0, .int .i64 0, .int .i64 0, .slice none 0 0] 25 := Bx.new w50 _ _
                go_region_held3 (fun w' => (∀ i, w'.cell? ⟨w.heap.size, i, none⟩ = #[.int .i64 kv, .int .i64 1, .int .i64 (n : Int), .int .i64 0, .slice Av n cv][i]?))
                  (with_reducible first | exact hS _ P0 | exact hS _ P1 | exact hS _ R1 | exact hS _ (bal R1 _) | exact hS _ R2 | exact hS _ (bal R2 _) | exact hS _ (below_set5' R2 (Nat.le_refl _) _ _ _ _ _) | exact hS _ (below_set5' R2 R1.size _ _ _ _ _))
                  (first
                    | (go_at_call 29; (with_reducible first | refine (ints_any VSa pn cSa AL (w50.drew) (Sa.out.step P0) (by have := HPP.out; omega)).mono ?_ | refine (ints_any VSa pn cSa AL ((w50.alloc (.cells #[.int .i64 0, .int .i64 0, .int .i64 0, .int .i64 0, .slice none 0 0] 25)).drew) (Sa.out.step P1) (by have := HPP.out; omega)).mono ?_); rintro e y1 ⟨⟨Ay1, ny1, cy1, rfl, hSy, hNy⟩, hb_⟩; have R1 : Below w50.heap.size w50 y1 := (by with_reducible first | exact bst P0 hb_ | exact bst P1 hb_); have ss1 := R1.size; have O1 : Below y1.heap.size y1 (y1.alloc (.cells #[.int .i64 0, .int .i64 0, .int .i64 0, .int .i64 0, .slice none 0 0] 25)) := below1 _ _; have NO1 : Bx (y1.alloc (.cells #[.int .i64 0, .int .i64 0, .int .i64 0, .int .i64 0, .slice none 0 0] 25)) (y1.heap.size) #[.int .i64 0, .int .i64 0, .int .i64 0, .int .i64 0, .slice none 0 0] 25 := Bx.new y1 _ _; have QSv := Lib.hid (Sv.out.step R1); have QSa := Lib.hid (Sa.out.step R1); have T1 := Lib.hid hSy; clear hSy; (try (have M1 : Bx y1 (w50.heap.size) #[.int .i64 0, .int .i64 0, .int .i64 0, .int .i64 0, .slice none 0 0] 25 := (by with_reducible exact Bx.step N1 hb_))); (try (have LM1 := Bx.lt M1)))
                    | (go_at_call 18; (with_reducible first | refine (fat_any _ _ _ _ _ _ _ xs _ _ _ _ _ _ _ AL (⟨kv, 1, (pn : Int), 0, F1⟩, 0) y1 QSv.out T1.out HF.out).mono ?_ | refine (fat_any _ _ _ _ _ _ _ xs _ _ _ _ _ _ _ AL (⟨kv, 1, (pn : Int), 0, F1⟩, 0) _ (QSv.out.step O1) (T1.out.step O1) HF.out).mono ?_); intro e y2 hR_; obtain ⟨Ay2, ny2, cy2, rfl, hSy, hNy, hb_⟩ := RetA.flat hR_; have R2 : Below w50.heap.size w50 y2 := (by with_reducible first | exact bst R1 hb_ | exact bst (bal R1 _) hb_); have ss2 := R2.size; have O2 : Below y2.heap.size y2 (y2.alloc (.cells #[.int .i64 0, .int .i64 0, .int .i64 0, .int .i64 0, .slice none 0 0] 25)) := below1 _ _; have NO2 : Bx (y2.alloc (.cells #[.int .i64 0, .int .i64 0, .int .i64 0, .int .i64 0, .slice none 0 0] 25)) (y2.heap.size) #[.int .i64 0, .int .i64 0, .int .i64 0, .int .i64 0, .slice none 0 0] 25 := Bx.new y2 _ _; have step_ : Below y1.heap.size y1 y2 := (by with_reducible first | exact hb_ | exact bst O1 hb_); have QSv := Lib.hid (Sv.out.step R2); have QSa := Lib.hid (Sa.out.step R2); have T1 := Lib.hid (T1.out.step step_); (try (have M1 : Bx y2 (w50.heap.size) #[.int .i64 0, .int .i64 0, .int .i64 0, .int .i64 0, .slice none 0 0] 25 := (by with_reducible exact Bx.step M1 hb_))); (try (have K1 : Bx y2 (y1.heap.size) #[.int .i64 0, .int .i64 0, .int .i64 0, .int .i64 0, .slice none 0 0] 25 := (by with_reducible exact Bx.step NO1 hb_))); (first | (have gB : ∀ i, y2.cell? ⟨(w50.heap.size), i, none⟩ = _ := Bx.cell M1; have kB : ∀ i, y2.frozen? ⟨(w50.heap.size), i, none⟩ = false := Bx.frozen M1) | (have gB : ∀ i, y2.cell? ⟨(y1.heap.size), i, none⟩ = _ := Bx.cell K1; have kB : ∀ i, y2.frozen? ⟨(y1.heap.size), i, none⟩ = false := Bx.frozen K1) | skip)))
                all_goals go_wp2_with fail
                all_goals go_meet
                · exact ⟨y2.heap.size, Ay2, ny2, cy2, rfl, rfl, bal R2 _, Lib.hid (Bx.new y2 _ _), Lib.hid (hSy.step (below1 _ _)), R2.size, Lib.hid (hNy.mono ss1), Lib.hid (hSy.ne_lo (Nat.le_refl _))⟩
                · exact ⟨(y1.heap.size), Ay2, ny2, cy2, rfl, rfl, below_set5' R2 R1.size _ _ _ _ _, Lib.hid (Bx.set5 K1 _ _ _ _ _), Lib.hid (hSy.past5 _ _ _ _ _ fun b o e => by have h_ := hNy b o none e; rw [World.size_alloc] at h_; omega), R1.size, Lib.hid (hNy.mono (by rw [World.size_alloc]; omega)), Lib.hid (fun _ b o e => by have h_ := hNy b o none e; rw [World.size_alloc] at h_; omega)⟩
                · exact ⟨(w50.heap.size), Ay2, ny2, cy2, rfl, rfl, below_set5' R2 (Nat.le_refl _) _ _ _ _ _, Lib.hid (Bx.set5 M1 _ _ _ _ _), Lib.hid (hSy.past5 _ _ _ _ _ fun b o e => by have h_ := hNy b o none e; have l_ := LM1; omega), (Nat.le_refl _), Lib.hid (hNy.mono ss1), Lib.hid (fun _ b o e => by have h_ := hNy b o none e; have l_ := LM1; omega)⟩
              case rest =>
              obtain ⟨B51, A51, n51, c51, rfl, rfl, hst, HX_, HS_, hB51, NSf, ne_Sf_Xf⟩ := hcut
              obtain ⟨w51, hw51⟩ : ∃ w51, wc = w51 := ⟨_, rfl⟩
              rw [hw51] at hst HX_ HS_
              rw [hw51]
              clear hw51
              replace Xv := Bx.step Xv hst
              replace Xl := Bx.step Xl hst
              replace Xm := Bx.step Xm hst
              replace Xn := Bx.step Xn hst
              replace Sv := Lib.hid (Sv.out.step hst)
              replace Sp := Lib.hid (Sp.out.step hst)
              replace Sq := Lib.hid (Sq.out.step hst)
              replace Si := Lib.hid (Si.out.step hst)
              replace Sio := Lib.hid (Sio.out.step hst)
              replace Sm := Lib.hid (Sm.out.step hst)
              replace Sn := Lib.hid (Sn.out.step hst)
              replace Sa := Lib.hid (Sa.out.step hst)
              replace Sb := Lib.hid (Sb.out.step hst)
              replace b := bst b hst
              have Xf := HX_.out
              have Sf := HS_
              clear hst HX_ HS_
              obtain rfl : pn = n51 := LF.out.symm.trans Sf.out.len
              go_upto_region 26 with fail
              go_cut [21, 22] from 141 to 147 (fun p e wx => ∃ (B : Nat) (A : Option Addr) (n c : Nat), p = .pointer (some ⟨B, 0, none⟩) ∧ e = .int .i64 0 ∧ Below w51.heap.size w51 wx ∧ Hid (Bx wx B #[.int .i64 kv, .int .i64 1, .int .i64 (qn : Int), .int .i64 0, .slice A n c] 25) ∧ Hid (Sl wx A n c S2) ∧ w51.heap.size ≤ B ∧ Hid (New w51 A) ∧ Hid (0 < n → ∀ b o, A = some ⟨b, o, none⟩ → b ≠ B))
              case first =>
                have hS : ∀ u, Below w51.heap.size w51 u → (∀ i, u.cell? ⟨B51, i, none⟩ = #[.int .i64 kv, .int .i64 1, .int .i64 (pn : Int), .int .i64 0, .slice A51 pn c51][i]?) := fun u h => Bx.cell (Bx.step Xf h)
                have P0 : Below w51.heap.size w51 w51.drew := bdr (Below.refl _ _)
                have P1 : Below w51.heap.size w51 (w51.alloc (.cells #[.int .i64 0, .int .i64 0, .int .i64 0, .int .i64 0, .slice none 0 0] 25)).drew := bdr (bal (Below.refl _ _) _)
                have N1 : Bx (w51.alloc (.cells #[.int .i64 0, .int .i64 0, .int .i64 0, .int .i64 0, .slice none 0 0] 25)).drew (w51.heap.size) #[.int .i64 0, .int .i64 0, .int .i64 0, .int .i64 0, .slice none 0 0] 25 := Bx.new w51 _ _
                go_region_held3 (fun w' => (∀ i, w'.cell? ⟨B51, i, none⟩ = #[.int .i64 kv, .int .i64 1, .int .i64 (pn : Int), .int .i64 0, .slice A51 pn c51][i]?))
                  (with_reducible first | exact hS _ P0 | exact hS _ P1 | exact hS _ R1 | exact hS _ (bal R1 _) | exact hS _ R2 | exact hS _ (bal R2 _) | exact hS _ (below_set5' R2 (Nat.le_refl _) _ _ _ _ _) | exact hS _ (below_set5' R2 R1.size _ _ _ _ _))
                  (first
                    | (go_at_call 29; (with_reducible first | refine (ints_any VSb qn cSb BLL (w51.drew) (Sb.out.step P0) (by have := HQQ.out; omega)).mono ?_ | refine (ints_any VSb qn cSb BLL ((w51.alloc (.cells #[.int .i64 0, .int .i64 0, .int .i64 0, .int .i64 0, .slice none 0 0] 25)).drew) (Sb.out.step P1) (by have := HQQ.out; omega)).mono ?_); rintro e y1 ⟨⟨Ay1, ny1, cy1, rfl, hSy, hNy⟩, hb_⟩; have R1 : Below w51.heap.size w51 y1 := (by with_reducible first | exact bst P0 hb_ | exact bst P1 hb_); have ss1 := R1.size; have O1 : Below y1.heap.size y1 (y1.alloc (.cells #[.int .i64 0, .int .i64 0, .int .i64 0, .int .i64 0, .slice none 0 0] 25)) := below1 _ _; have NO1 : Bx (y1.alloc (.cells #[.int .i64 0, .int .i64 0, .int .i64 0, .int .i64 0, .slice none 0 0] 25)) (y1.heap.size) #[.int .i64 0, .int .i64 0, .int .i64 0, .int .i64 0, .slice none 0 0] 25 := Bx.new y1 _ _; have QSf := Lib.hid (Sf.out.step R1); have QSb := Lib.hid (Sb.out.step R1); have T1 := Lib.hid hSy; clear hSy; (try (have M1 : Bx y1 (w51.heap.size) #[.int .i64 0, .int .i64 0, .int .i64 0, .int .i64 0, .slice none 0 0] 25 := (by with_reducible exact Bx.step N1 hb_))); (try (have LM1 := Bx.lt M1)))
                    | (go_at_call 18; (with_reducible first | refine (fat_any _ _ _ _ _ _ _ F1 _ _ _ _ _ _ _ BLL (⟨kv, 1, (qn : Int), 0, S2⟩, 0) y1 QSf.out T1.out HG2.out).mono ?_ | refine (fat_any _ _ _ _ _ _ _ F1 _ _ _ _ _ _ _ BLL (⟨kv, 1, (qn : Int), 0, S2⟩, 0) _ (QSf.out.step O1) (T1.out.step O1) HG2.out).mono ?_); intro e y2 hR_; obtain ⟨Ay2, ny2, cy2, rfl, hSy, hNy, hb_⟩ := RetA.flat hR_; have R2 : Below w51.heap.size w51 y2 := (by with_reducible first | exact bst R1 hb_ | exact bst (bal R1 _) hb_); have ss2 := R2.size; have O2 : Below y2.heap.size y2 (y2.alloc (.cells #[.int .i64 0, .int .i64 0, .int .i64 0, .int .i64 0, .slice none 0 0] 25)) := below1 _ _; have NO2 : Bx (y2.alloc (.cells #[.int .i64 0, .int .i64 0, .int .i64 0, .int .i64 0, .slice none 0 0] 25)) (y2.heap.size) #[.int .i64 0, .int .i64 0, .int .i64 0, .int .i64 0, .slice none 0 0] 25 := Bx.new y2 _ _; have step_ : Below y1.heap.size y1 y2 := (by with_reducible first | exact hb_ | exact bst O1 hb_); have QSf := Lib.hid (Sf.out.step R2); have QSb := Lib.hid (Sb.out.step R2); have T1 := Lib.hid (T1.out.step step_); (try (have M1 : Bx y2 (w51.heap.size) #[.int .i64 0, .int .i64 0, .int .i64 0, .int .i64 0, .slice none 0 0] 25 := (by with_reducible exact Bx.step M1 hb_))); (try (have K1 : Bx y2 (y1.heap.size) #[.int .i64 0, .int .i64 0, .int .i64 0, .int .i64 0, .slice none 0 0] 25 := (by with_reducible exact Bx.step NO1 hb_))); (first | (have gB : ∀ i, y2.cell? ⟨(w51.heap.size), i, none⟩ = _ := Bx.cell M1; have kB : ∀ i, y2.frozen? ⟨(w51.heap.size), i, none⟩ = false := Bx.frozen M1) | (have gB : ∀ i, y2.cell? ⟨(y1.heap.size), i, none⟩ = _ := Bx.cell K1; have kB : ∀ i, y2.frozen? ⟨(y1.heap.size), i, none⟩ = false := Bx.frozen K1) | skip)))
                all_goals go_wp2_with fail
                all_goals go_meet
                · exact ⟨y2.heap.size, Ay2, ny2, cy2, rfl, rfl, bal R2 _, Lib.hid (Bx.new y2 _ _), Lib.hid (hSy.step (below1 _ _)), R2.size, Lib.hid (hNy.mono ss1), Lib.hid (hSy.ne_lo (Nat.le_refl _))⟩
                · exact ⟨(y1.heap.size), Ay2, ny2, cy2, rfl, rfl, below_set5' R2 R1.size _ _ _ _ _, Lib.hid (Bx.set5 K1 _ _ _ _ _), Lib.hid (hSy.past5 _ _ _ _ _ fun b o e => by have h_ := hNy b o none e; rw [World.size_alloc] at h_; omega), R1.size, Lib.hid (hNy.mono (by rw [World.size_alloc]; omega)), Lib.hid (fun _ b o e => by have h_ := hNy b o none e; rw [World.size_alloc] at h_; omega)⟩
                · exact ⟨(w51.heap.size), Ay2, ny2, cy2, rfl, rfl, below_set5' R2 (Nat.le_refl _) _ _ _ _ _, Lib.hid (Bx.set5 M1 _ _ _ _ _), Lib.hid (hSy.past5 _ _ _ _ _ fun b o e => by have h_ := hNy b o none e; have l_ := LM1; omega), (Nat.le_refl _), Lib.hid (hNy.mono ss1), Lib.hid (fun _ b o e => by have h_ := hNy b o none e; have l_ := LM1; omega)⟩
              case rest =>
              obtain ⟨B52, A52, n52, c52, rfl, rfl, hst, HX_, HS_, hB52, NSs, ne_Ss_Xs⟩ := hcut
              obtain ⟨w52, hw52⟩ : ∃ w52, wc = w52 := ⟨_, rfl⟩
              rw [hw52] at hst HX_ HS_
              rw [hw52]
              clear hw52
              replace Xv := Bx.step Xv hst
              replace Xl := Bx.step Xl hst
              replace Xm := Bx.step Xm hst
              replace Xn := Bx.step Xn hst
              replace Xf := Bx.step Xf hst
              replace Sv := Lib.hid (Sv.out.step hst)
              replace Sp := Lib.hid (Sp.out.step hst)
              replace Sq := Lib.hid (Sq.out.step hst)
              replace Si := Lib.hid (Si.out.step hst)
              replace Sio := Lib.hid (Sio.out.step hst)
              replace Sm := Lib.hid (Sm.out.step hst)
              replace Sn := Lib.hid (Sn.out.step hst)
              replace Sa := Lib.hid (Sa.out.step hst)
              replace Sb := Lib.hid (Sb.out.step hst)
              replace Sf := Lib.hid (Sf.out.step hst)
              replace b := bst b hst
              have Xs := HX_.out
              have Ss := HS_
              clear hst HX_ HS_
              obtain rfl : qn = n52 := LS.out.symm.trans Ss.out.len
              have dXv : ∀ i, w52.cell? ⟨w.heap.size, i, none⟩ = _ := Bx.cell Xv
              have eXv : ∀ i, w52.frozen? ⟨w.heap.size, i, none⟩ = false := Bx.frozen Xv
              have qXv := Bx.lt Xv
              have dXl : ∀ i, w52.cell? ⟨w3.heap.size, i, none⟩ = _ := Bx.cell Xl
              have eXl : ∀ i, w52.frozen? ⟨w3.heap.size, i, none⟩ = false := Bx.frozen Xl
              have qXl := Bx.lt Xl
              have dXm : ∀ i, w52.cell? ⟨w4.heap.size, i, none⟩ = _ := Bx.cell Xm
              have eXm : ∀ i, w52.frozen? ⟨w4.heap.size, i, none⟩ = false := Bx.frozen Xm
              have qXm := Bx.lt Xm
              have dXn : ∀ i, w52.cell? ⟨w5.heap.size, i, none⟩ = _ := Bx.cell Xn
              have eXn : ∀ i, w52.frozen? ⟨w5.heap.size, i, none⟩ = false := Bx.frozen Xn
              have qXn := Bx.lt Xn
              have dXf : ∀ i, w52.cell? ⟨B51, i, none⟩ = _ := Bx.cell Xf
              have eXf : ∀ i, w52.frozen? ⟨B51, i, none⟩ = false := Bx.frozen Xf
              have qXf := Bx.lt Xf
              have dXs : ∀ i, w52.cell? ⟨B52, i, none⟩ = _ := Bx.cell Xs
              have eXs : ∀ i, w52.frozen? ⟨B52, i, none⟩ = false := Bx.frozen Xs
              have qXs := Bx.lt Xs
              go_wp2_with fail
              refine (ints_any VSa pn cSa AL _ Sa.out (by have := HPP.out; omega)).mono ?_
              rintro e w53 ⟨⟨A53, n53, c53, rfl, hS53, hN53⟩, hst⟩
              clear dXv eXv qXv dXl eXl qXl dXm eXm qXm dXn eXn qXn dXf eXf qXf dXs eXs qXs
              replace Xv := Bx.step Xv hst
              replace Xl := Bx.step Xl hst
              replace Xm := Bx.step Xm hst
              replace Xn := Bx.step Xn hst
              replace Xf := Bx.step Xf hst
              replace Xs := Bx.step Xs hst
              replace Sv := Lib.hid (Sv.out.step hst)
              replace Sp := Lib.hid (Sp.out.step hst)
              replace Sq := Lib.hid (Sq.out.step hst)
              replace Si := Lib.hid (Si.out.step hst)
              replace Sio := Lib.hid (Sio.out.step hst)
              replace Sm := Lib.hid (Sm.out.step hst)
              replace Sn := Lib.hid (Sn.out.step hst)
              replace Sa := Lib.hid (Sa.out.step hst)
              replace Sb := Lib.hid (Sb.out.step hst)
              replace Sf := Lib.hid (Sf.out.step hst)
              replace Ss := Lib.hid (Ss.out.step hst)
              replace b : Below w.heap.size w w53 := bst b hst
              clear hst
              have Sia := Lib.hid hS53
              have NSia := Lib.hid hN53
              clear hS53 hN53
              have dXv : ∀ i, w53.cell? ⟨w.heap.size, i, none⟩ = _ := Bx.cell Xv
              have eXv : ∀ i, w53.frozen? ⟨w.heap.size, i, none⟩ = false := Bx.frozen Xv
              have qXv := Bx.lt Xv
              have dXl : ∀ i, w53.cell? ⟨w3.heap.size, i, none⟩ = _ := Bx.cell Xl
              have eXl : ∀ i, w53.frozen? ⟨w3.heap.size, i, none⟩ = false := Bx.frozen Xl
              have qXl := Bx.lt Xl
              have dXm : ∀ i, w53.cell? ⟨w4.heap.size, i, none⟩ = _ := Bx.cell Xm
              have eXm : ∀ i, w53.frozen? ⟨w4.heap.size, i, none⟩ = false := Bx.frozen Xm
              have qXm := Bx.lt Xm
              have dXn : ∀ i, w53.cell? ⟨w5.heap.size, i, none⟩ = _ := Bx.cell Xn
              have eXn : ∀ i, w53.frozen? ⟨w5.heap.size, i, none⟩ = false := Bx.frozen Xn
              have qXn := Bx.lt Xn
              have dXf : ∀ i, w53.cell? ⟨B51, i, none⟩ = _ := Bx.cell Xf
              have eXf : ∀ i, w53.frozen? ⟨B51, i, none⟩ = false := Bx.frozen Xf
              have qXf := Bx.lt Xf
              have dXs : ∀ i, w53.cell? ⟨B52, i, none⟩ = _ := Bx.cell Xs
              have eXs : ∀ i, w53.frozen? ⟨B52, i, none⟩ = false := Bx.frozen Xs
              have qXs := Bx.lt Xs
              go_wp2_with fail
              refine (ints_any VSb qn cSb BLL _ Sb.out (by have := HQQ.out; omega)).mono ?_
              rintro e w54 ⟨⟨A54, n54, c54, rfl, hS54, hN54⟩, hst⟩
              clear dXv eXv qXv dXl eXl qXl dXm eXm qXm dXn eXn qXn dXf eXf qXf dXs eXs qXs
              replace Xv := Bx.step Xv hst
              replace Xl := Bx.step Xl hst
              replace Xm := Bx.step Xm hst
              replace Xn := Bx.step Xn hst
              replace Xf := Bx.step Xf hst
              replace Xs := Bx.step Xs hst
              replace Sv := Lib.hid (Sv.out.step hst)
              replace Sp := Lib.hid (Sp.out.step hst)
              replace Sq := Lib.hid (Sq.out.step hst)
              replace Si := Lib.hid (Si.out.step hst)
              replace Sio := Lib.hid (Sio.out.step hst)
              replace Sm := Lib.hid (Sm.out.step hst)
              replace Sn := Lib.hid (Sn.out.step hst)
              replace Sa := Lib.hid (Sa.out.step hst)
              replace Sb := Lib.hid (Sb.out.step hst)
              replace Sf := Lib.hid (Sf.out.step hst)
              replace Ss := Lib.hid (Ss.out.step hst)
              replace Sia := Lib.hid (Sia.out.step hst)
              replace b : Below w.heap.size w w54 := bst b hst
              clear hst
              have Sib := Lib.hid hS54
              have NSib := Lib.hid hN54
              clear hS54 hN54
              have dXv : ∀ i, w54.cell? ⟨w.heap.size, i, none⟩ = _ := Bx.cell Xv
              have eXv : ∀ i, w54.frozen? ⟨w.heap.size, i, none⟩ = false := Bx.frozen Xv
              have qXv := Bx.lt Xv
              have dXl : ∀ i, w54.cell? ⟨w3.heap.size, i, none⟩ = _ := Bx.cell Xl
              have eXl : ∀ i, w54.frozen? ⟨w3.heap.size, i, none⟩ = false := Bx.frozen Xl
              have qXl := Bx.lt Xl
              have dXm : ∀ i, w54.cell? ⟨w4.heap.size, i, none⟩ = _ := Bx.cell Xm
              have eXm : ∀ i, w54.frozen? ⟨w4.heap.size, i, none⟩ = false := Bx.frozen Xm
              have qXm := Bx.lt Xm
              have dXn : ∀ i, w54.cell? ⟨w5.heap.size, i, none⟩ = _ := Bx.cell Xn
              have eXn : ∀ i, w54.frozen? ⟨w5.heap.size, i, none⟩ = false := Bx.frozen Xn
              have qXn := Bx.lt Xn
              have dXf : ∀ i, w54.cell? ⟨B51, i, none⟩ = _ := Bx.cell Xf
              have eXf : ∀ i, w54.frozen? ⟨B51, i, none⟩ = false := Bx.frozen Xf
              have qXf := Bx.lt Xf
              have dXs : ∀ i, w54.cell? ⟨B52, i, none⟩ = _ := Bx.cell Xs
              have eXs : ∀ i, w54.frozen? ⟨B52, i, none⟩ = false := Bx.frozen Xs
              have qXs := Bx.lt Xs
              go_wp2_with fail
              refine (fat_any 1 1 (pn : Int) 0 A53 n53 c53 AL 1 1 (qn : Int) 0 A54 n54 c54 BLL _ _ Sia.out Sib.out HP2.out).mono ?_
              intro e w55 hR
              obtain ⟨A55, n55, c55, rfl, hS55, hN55, hst⟩ := RetA.flat hR
              clear hR
              clear dXv eXv qXv dXl eXl qXl dXm eXm qXm dXn eXn qXn dXf eXf qXf dXs eXs qXs
              replace Xv := Bx.step Xv hst
              replace Xl := Bx.step Xl hst
              replace Xm := Bx.step Xm hst
              replace Xn := Bx.step Xn hst
              replace Xf := Bx.step Xf hst
              replace Xs := Bx.step Xs hst
              replace Sv := Lib.hid (Sv.out.step hst)
              replace Sp := Lib.hid (Sp.out.step hst)
              replace Sq := Lib.hid (Sq.out.step hst)
              replace Si := Lib.hid (Si.out.step hst)
              replace Sio := Lib.hid (Sio.out.step hst)
              replace Sm := Lib.hid (Sm.out.step hst)
              replace Sn := Lib.hid (Sn.out.step hst)
              replace Sa := Lib.hid (Sa.out.step hst)
              replace Sb := Lib.hid (Sb.out.step hst)
              replace Sf := Lib.hid (Sf.out.step hst)
              replace Ss := Lib.hid (Ss.out.step hst)
              replace Sia := Lib.hid (Sia.out.step hst)
              replace Sib := Lib.hid (Sib.out.step hst)
              replace b : Below w.heap.size w w55 := bst b hst
              clear hst
              have Spl := Lib.hid hS55
              have NSpl := Lib.hid hN55
              clear hS55 hN55
              obtain rfl : qn = n55 := LL.out.symm.trans Spl.out.len
              have dXv : ∀ i, w55.cell? ⟨w.heap.size, i, none⟩ = _ := Bx.cell Xv
              have eXv : ∀ i, w55.frozen? ⟨w.heap.size, i, none⟩ = false := Bx.frozen Xv
              have qXv := Bx.lt Xv
              have dXl : ∀ i, w55.cell? ⟨w3.heap.size, i, none⟩ = _ := Bx.cell Xl
              have eXl : ∀ i, w55.frozen? ⟨w3.heap.size, i, none⟩ = false := Bx.frozen Xl
              have qXl := Bx.lt Xl
              have dXm : ∀ i, w55.cell? ⟨w4.heap.size, i, none⟩ = _ := Bx.cell Xm
              have eXm : ∀ i, w55.frozen? ⟨w4.heap.size, i, none⟩ = false := Bx.frozen Xm
              have qXm := Bx.lt Xm
              have dXn : ∀ i, w55.cell? ⟨w5.heap.size, i, none⟩ = _ := Bx.cell Xn
              have eXn : ∀ i, w55.frozen? ⟨w5.heap.size, i, none⟩ = false := Bx.frozen Xn
              have qXn := Bx.lt Xn
              have dXf : ∀ i, w55.cell? ⟨B51, i, none⟩ = _ := Bx.cell Xf
              have eXf : ∀ i, w55.frozen? ⟨B51, i, none⟩ = false := Bx.frozen Xf
              have qXf := Bx.lt Xf
              have dXs : ∀ i, w55.cell? ⟨B52, i, none⟩ = _ := Bx.cell Xs
              have eXs : ∀ i, w55.frozen? ⟨B52, i, none⟩ = false := Bx.frozen Xs
              have qXs := Bx.lt Xs
              go_wp2_with fail
              refine (fat_any kv 1 (n : Int) 0 Av n cv xs 1 1 (qn : Int) 0 A55 qn c55 PP _ _ (Sv.out.step (below1 _ _ )) (Spl.out.step (below1 _ _ )) HO2.out).mono ?_
              intro e w56 hR
              obtain ⟨A56, n56, c56, rfl, hS56, hN56, hst⟩ := RetA.flat hR
              clear hR
              clear dXv eXv qXv dXl eXl qXl dXm eXm qXm dXn eXn qXn dXf eXf qXf dXs eXs qXs
              obtain ⟨Xp, hst⟩ := after1 hst
              replace Xv := Bx.step Xv hst
              replace Xl := Bx.step Xl hst
              replace Xm := Bx.step Xm hst
              replace Xn := Bx.step Xn hst
              replace Xf := Bx.step Xf hst
              replace Xs := Bx.step Xs hst
              replace Sv := Lib.hid (Sv.out.step hst)
              replace Sp := Lib.hid (Sp.out.step hst)
              replace Sq := Lib.hid (Sq.out.step hst)
              replace Si := Lib.hid (Si.out.step hst)
              replace Sio := Lib.hid (Sio.out.step hst)
              replace Sm := Lib.hid (Sm.out.step hst)
              replace Sn := Lib.hid (Sn.out.step hst)
              replace Sa := Lib.hid (Sa.out.step hst)
              replace Sb := Lib.hid (Sb.out.step hst)
              replace Sf := Lib.hid (Sf.out.step hst)
              replace Ss := Lib.hid (Ss.out.step hst)
              replace Sia := Lib.hid (Sia.out.step hst)
              replace Sib := Lib.hid (Sib.out.step hst)
              replace Spl := Lib.hid (Spl.out.step hst)
              replace b : Below w.heap.size w w56 := bst b hst
              clear hst
              have Son := Lib.hid hS56
              have NSon := Lib.hid hN56
              clear hS56 hN56
              obtain rfl : qn = n56 := LS.out.symm.trans Son.out.len
              have dXv : ∀ i, w56.cell? ⟨w.heap.size, i, none⟩ = _ := Bx.cell Xv
              have eXv : ∀ i, w56.frozen? ⟨w.heap.size, i, none⟩ = false := Bx.frozen Xv
              have qXv := Bx.lt Xv
              have dXl : ∀ i, w56.cell? ⟨w3.heap.size, i, none⟩ = _ := Bx.cell Xl
              have eXl : ∀ i, w56.frozen? ⟨w3.heap.size, i, none⟩ = false := Bx.frozen Xl
              have qXl := Bx.lt Xl
              have dXm : ∀ i, w56.cell? ⟨w4.heap.size, i, none⟩ = _ := Bx.cell Xm
              have eXm : ∀ i, w56.frozen? ⟨w4.heap.size, i, none⟩ = false := Bx.frozen Xm
              have qXm := Bx.lt Xm
              have dXn : ∀ i, w56.cell? ⟨w5.heap.size, i, none⟩ = _ := Bx.cell Xn
              have eXn : ∀ i, w56.frozen? ⟨w5.heap.size, i, none⟩ = false := Bx.frozen Xn
              have qXn := Bx.lt Xn
              have dXf : ∀ i, w56.cell? ⟨B51, i, none⟩ = _ := Bx.cell Xf
              have eXf : ∀ i, w56.frozen? ⟨B51, i, none⟩ = false := Bx.frozen Xf
              have qXf := Bx.lt Xf
              have dXs : ∀ i, w56.cell? ⟨B52, i, none⟩ = _ := Bx.cell Xs
              have eXs : ∀ i, w56.frozen? ⟨B52, i, none⟩ = false := Bx.frozen Xs
              have qXs := Bx.lt Xs
              have dXp : ∀ i, w56.cell? ⟨w55.heap.size, i, none⟩ = _ := Bx.cell Xp
              have eXp : ∀ i, w56.frozen? ⟨w55.heap.size, i, none⟩ = false := Bx.frozen Xp
              have qXp := Bx.lt Xp
              go_wp2_with fail
              refine (is_true kv 1 (qn : Int) 0 A52 qn c52 S2 A56 qn c56 _ (Ss.out.step (below1 _ _ )) (Son.out.step (below1 _ _ ))).mono ?_
              rintro e w57 ⟨rfl, hst⟩
              clear dXv eXv qXv dXl eXl qXl dXm eXm qXm dXn eXn qXn dXf eXf qXf dXs eXs qXs dXp eXp qXp
              obtain ⟨Xo, hst⟩ := after1 hst
              replace Xv := Bx.step Xv hst
              replace Xl := Bx.step Xl hst
              replace Xm := Bx.step Xm hst
              replace Xn := Bx.step Xn hst
              replace Xf := Bx.step Xf hst
              replace Xs := Bx.step Xs hst
              replace Xp := Bx.step Xp hst
              replace Sv := Lib.hid (Sv.out.step hst)
              replace Sp := Lib.hid (Sp.out.step hst)
              replace Sq := Lib.hid (Sq.out.step hst)
              replace Si := Lib.hid (Si.out.step hst)
              replace Sio := Lib.hid (Sio.out.step hst)
              replace Sm := Lib.hid (Sm.out.step hst)
              replace Sn := Lib.hid (Sn.out.step hst)
              replace Sa := Lib.hid (Sa.out.step hst)
              replace Sb := Lib.hid (Sb.out.step hst)
              replace Sf := Lib.hid (Sf.out.step hst)
              replace Ss := Lib.hid (Ss.out.step hst)
              replace Sia := Lib.hid (Sia.out.step hst)
              replace Sib := Lib.hid (Sib.out.step hst)
              replace Spl := Lib.hid (Spl.out.step hst)
              replace Son := Lib.hid (Son.out.step hst)
              replace b : Below w.heap.size w w57 := bst b hst
              clear hst
              have dXv : ∀ i, w57.cell? ⟨w.heap.size, i, none⟩ = _ := Bx.cell Xv
              have eXv : ∀ i, w57.frozen? ⟨w.heap.size, i, none⟩ = false := Bx.frozen Xv
              have qXv := Bx.lt Xv
              have dXl : ∀ i, w57.cell? ⟨w3.heap.size, i, none⟩ = _ := Bx.cell Xl
              have eXl : ∀ i, w57.frozen? ⟨w3.heap.size, i, none⟩ = false := Bx.frozen Xl
              have qXl := Bx.lt Xl
              have dXm : ∀ i, w57.cell? ⟨w4.heap.size, i, none⟩ = _ := Bx.cell Xm
              have eXm : ∀ i, w57.frozen? ⟨w4.heap.size, i, none⟩ = false := Bx.frozen Xm
              have qXm := Bx.lt Xm
              have dXn : ∀ i, w57.cell? ⟨w5.heap.size, i, none⟩ = _ := Bx.cell Xn
              have eXn : ∀ i, w57.frozen? ⟨w5.heap.size, i, none⟩ = false := Bx.frozen Xn
              have qXn := Bx.lt Xn
              have dXf : ∀ i, w57.cell? ⟨B51, i, none⟩ = _ := Bx.cell Xf
              have eXf : ∀ i, w57.frozen? ⟨B51, i, none⟩ = false := Bx.frozen Xf
              have qXf := Bx.lt Xf
              have dXs : ∀ i, w57.cell? ⟨B52, i, none⟩ = _ := Bx.cell Xs
              have eXs : ∀ i, w57.frozen? ⟨B52, i, none⟩ = false := Bx.frozen Xs
              have qXs := Bx.lt Xs
              have dXp : ∀ i, w57.cell? ⟨w55.heap.size, i, none⟩ = _ := Bx.cell Xp
              have eXp : ∀ i, w57.frozen? ⟨w55.heap.size, i, none⟩ = false := Bx.frozen Xp
              have qXp := Bx.lt Xp
              have dXo : ∀ i, w57.cell? ⟨w56.heap.size, i, none⟩ = _ := Bx.cell Xo
              have eXo : ∀ i, w57.frozen? ⟨w56.heap.size, i, none⟩ = false := Bx.frozen Xo
              have qXo := Bx.lt Xo
              go_wp2_with fail
              refine (awake_any _).mono ?_
              rintro e wz ⟨rfl, hbz⟩
              go_wp2
              go_ret
              exact ⟨rfl, bst b hbz⟩
set_option maxRecDepth 100000 in
set_option maxHeartbeats 1000000 in
theorem looks_f1 (kv rv v0 v1 : Int) (Av : Option Addr) (nv cv : Nat) (xs : List Int) (Ap : Option Addr) (pn cp : Nat) (Aq : Option Addr) (qn cq : Nat) (w : World) (hsv : Sl w Av nv cv xs) (hv : isV kv rv v0 v1 xs = false) :
    Calls Try.prog 7 #[.agg #[.int .i64 kv, .int .i64 rv, .int .i64 v0, .int .i64 v1, .slice Av nv cv], .slice Ap pn cp, .slice Aq qn cq] w fun e w' => e = .returned (.bool true) ∧ Below w.heap.size w w' := by
  have Sv := Lib.hid hsv
  have HV := Lib.hid hv
  clear hsv hv
  go_enter Try.func7, Try.ntmps7
  go_wp2_with fail
  refine (vec8_any _ _ _ _ _ _ _ xs false _ (Sv.out.step (below1 _ _ )) HV.out).mono ?_
  rintro e w1 ⟨rfl, hst⟩
  obtain ⟨Xv, hst⟩ := after1 hst
  replace Sv := Lib.hid (Sv.out.step hst)
  have b : Below w.heap.size w w1 := hst
  clear hst
  have dXv : ∀ i, w1.cell? ⟨w.heap.size, i, none⟩ = _ := Bx.cell Xv
  have eXv : ∀ i, w1.frozen? ⟨w.heap.size, i, none⟩ = false := Bx.frozen Xv
  have qXv := Bx.lt Xv
  go_wp2_with fail
  refine (awake_any _).mono ?_
  rintro e wz ⟨rfl, hbz⟩
  go_wp2
  go_ret
  exact ⟨rfl, bst b hbz⟩
set_option maxRecDepth 100000 in
set_option maxHeartbeats 1000000 in
theorem looks_f2 (kv rv v0 v1 : Int) (Av : Option Addr) (nv cv : Nat) (xs : List Int) (Ap : Option Addr) (pn cp : Nat) (Aq : Option Addr) (qn cq : Nat) (w : World) (hsv : Sl w Av nv cv xs) (hv : isV kv rv v0 v1 xs = true) (hp : (100 : Int) < (pn : Int)) :
    Calls Try.prog 7 #[.agg #[.int .i64 kv, .int .i64 rv, .int .i64 v0, .int .i64 v1, .slice Av nv cv], .slice Ap pn cp, .slice Aq qn cq] w fun e w' => e = .returned (.bool true) ∧ Below w.heap.size w w' := by
  have Sv := Lib.hid hsv
  have HV := Lib.hid hv
  clear hsv hv
  go_enter Try.func7, Try.ntmps7
  go_wp2_with fail
  refine (vec8_any _ _ _ _ _ _ _ xs true _ (Sv.out.step (below1 _ _ )) HV.out).mono ?_
  rintro e w1 ⟨rfl, hst⟩
  obtain ⟨Xv, hst⟩ := after1 hst
  replace Sv := Lib.hid (Sv.out.step hst)
  have b : Below w.heap.size w w1 := hst
  clear hst
  have dXv : ∀ i, w1.cell? ⟨w.heap.size, i, none⟩ = _ := Bx.cell Xv
  have eXv : ∀ i, w1.frozen? ⟨w.heap.size, i, none⟩ = false := Bx.frozen Xv
  have qXv := Bx.lt Xv
  go_wp2_with fail
  refine (awake_any _).mono ?_
  rintro e wz ⟨rfl, hbz⟩
  go_wp2
  go_ret
  exact ⟨rfl, bst b hbz⟩
set_option maxRecDepth 100000 in
set_option maxHeartbeats 1000000 in
theorem looks_f3 (kv rv v0 v1 : Int) (Av : Option Addr) (nv cv : Nat) (xs : List Int) (Ap : Option Addr) (pn cp : Nat) (Aq : Option Addr) (qn cq : Nat) (w : World) (hsv : Sl w Av nv cv xs) (hv : isV kv rv v0 v1 xs = true) (hp : decide ((100 : Int) < (pn : Int)) = false) (hq : (100 : Int) < (qn : Int)) :
    Calls Try.prog 7 #[.agg #[.int .i64 kv, .int .i64 rv, .int .i64 v0, .int .i64 v1, .slice Av nv cv], .slice Ap pn cp, .slice Aq qn cq] w fun e w' => e = .returned (.bool true) ∧ Below w.heap.size w w' := by
  have Sv := Lib.hid hsv
  have HV := Lib.hid hv
  clear hsv hv
  go_enter Try.func7, Try.ntmps7
  go_wp2_with fail
  refine (vec8_any _ _ _ _ _ _ _ xs true _ (Sv.out.step (below1 _ _ )) HV.out).mono ?_
  rintro e w1 ⟨rfl, hst⟩
  obtain ⟨Xv, hst⟩ := after1 hst
  replace Sv := Lib.hid (Sv.out.step hst)
  have b : Below w.heap.size w w1 := hst
  clear hst
  have dXv : ∀ i, w1.cell? ⟨w.heap.size, i, none⟩ = _ := Bx.cell Xv
  have eXv : ∀ i, w1.frozen? ⟨w.heap.size, i, none⟩ = false := Bx.frozen Xv
  have qXv := Bx.lt Xv
  go_wp2_with fail
  refine (awake_any _).mono ?_
  rintro e wz ⟨rfl, hbz⟩
  go_wp2
  go_ret
  exact ⟨rfl, bst b hbz⟩
theorem lawLooks8 (kv rv v0 v1 : Int) (Av : Option Addr) (nv cv : Nat) (xs : List Int) (Ap : Option Addr) (pn cp : Nat) (ps : List Int) (Aq : Option Addr) (qn cq : Nat) (qs : List Int) (w : World) (hsv : Sl w Av nv cv xs) (hsp : SlU w Ap pn cp ps) (hsq : SlU w Aq qn cq qs) (hwv : ∀ x ∈ xs, -9223372036854775808 ≤ x ∧ x ≤ 9223372036854775807) :
    Calls Try.prog 7 #[.agg #[.int .i64 kv, .int .i64 rv, .int .i64 v0, .int .i64 v1, .slice Av nv cv], .slice Ap pn cp, .slice Aq qn cq] w fun e w' => e = .returned (.bool true) ∧ Below w.heap.size w w' := by
  by_cases h : achk kv rv v0 v1 xs = 0 ∧ rv = 1
  · by_cases hp : (100 : Int) < (pn : Int)
    · exact looks_f2 kv rv v0 v1 Av nv cv xs Ap pn cp Aq qn cq w hsv (decide_eq_true h) hp
    · by_cases hq : (100 : Int) < (qn : Int)
      · exact looks_f3 kv rv v0 v1 Av nv cv xs Ap pn cp Aq qn cq w hsv (decide_eq_true h) (decide_eq_false hp) hq
      · obtain ⟨a1, rfl⟩ := h
        obtain ⟨_, rfl, rfl, _⟩ := vec_ok a1
        have l1 := hsv.len
        rw [l1] at a1 ⊢
        rcases Nat.eq_zero_or_pos nv with e | e
        · exact looks_n0 kv Av nv cv xs Ap pn cp ps Aq qn cq qs w hsv hsp hsq a1 hwv (decide_eq_false hp) (decide_eq_false hq) e
        · rcases Nat.eq_zero_or_pos pn with e2 | e2
          · exact looks_p0 kv Av nv cv xs Ap pn cp ps Aq qn cq qs w hsv hsp hsq a1 hwv (decide_eq_false hp) (decide_eq_false hq) e e2
          · exact looks_main kv Av nv cv xs Ap pn cp ps Aq qn cq qs w hsv hsp hsq a1 hwv (decide_eq_false hp) (decide_eq_false hq) e e2
  · exact looks_f1 kv rv v0 v1 Av nv cv xs Ap pn cp Aq qn cq w hsv (decide_eq_false h)
end Go.Proofs.Ytfbloddffhafdaa

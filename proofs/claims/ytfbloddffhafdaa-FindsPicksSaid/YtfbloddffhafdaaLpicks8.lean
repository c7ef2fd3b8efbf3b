/-
  The law FindsPicks: its walk.
-/
import Derived.Deep.CutRange
import Derived.Test.YtfbloddffhafdaaVec8
import Derived.Test.YtfbloddffhafdaaFok
import Derived.Test.YtfbloddffhafdaaFpp
namespace Go.Proofs.Ytfbloddffhafdaa
open Go.RowKit

set_option maxRecDepth 100000 in
set_option maxHeartbeats 2000000 in
theorem picks_len (Am : Option Addr) (nm cm : Nat) (ms : List Int) (kv : Int) (Av : Option Addr) (nv cv : Nat) (xs : List Int) (w : World) (hsm : Sl w Am nm cm ms) (hsv : Sl w Av nv cv xs) (hm : achk 1 1 (nm : Int) 0 ms = 0) (hv : achk kv 1 (nv : Int) 0 xs = 0) (hne : nm ≠ nv) :
    Calls Try.prog 9 #[.agg #[.int .i64 1, .int .i64 1, .int .i64 (nm : Int), .int .i64 0, .slice Am nm cm], .agg #[.int .i64 kv, .int .i64 1, .int .i64 (nv : Int), .int .i64 0, .slice Av nv cv]] w fun e w' => e = .returned (.bool true) ∧ Below w.heap.size w w' := by
  have Sm := Lib.hid hsm
  have Sv := Lib.hid hsv
  have HVm := Lib.hid (show isV 1 1 (nm : Int) 0 ms = true from decide_eq_true ⟨hm, rfl⟩)
  have HVv := Lib.hid (show isV kv 1 (nv : Int) 0 xs = true from decide_eq_true ⟨hv, rfl⟩)
  have HP := Lib.hid (show sPick ⟨1, 1, (nm : Int), 0, ms⟩ ⟨kv, 1, (nv : Int), 0, xs⟩ = (⟨0, 0, 0, 0, []⟩, 11) from by unfold sPick pickE chkA; simp only [hm, hv]; rw [if_neg (by simp [fE, orE]), if_pos (by rw [hsm.len, hsv.len]; exact hne)]; rfl)
  have hnn : ((nm : Int) != (nv : Int)) = true := by simp; omega
  clear hne
  clear hsm hsv hm hv
  go_enter Try.func9, Try.ntmps9
  go_wp2_with fail
  refine (vec8_any 1 1 (nm : Int) 0 Am nm cm ms true _ (Sm.out.step (below2 _ _ _ )) HVm.out).mono ?_
  rintro e w1 ⟨rfl, hst⟩
  obtain ⟨Xm, Xv, hst⟩ := after2 hst
  replace Sm := Lib.hid (Sm.out.step hst)
  replace Sv := Lib.hid (Sv.out.step hst)
  have b : Below w.heap.size w w1 := hst
  clear hst
  have dXm : ∀ i, w1.cell? ⟨w.heap.size, i, none⟩ = _ := Bx.cell Xm
  have eXm : ∀ i, w1.frozen? ⟨w.heap.size, i, none⟩ = false := Bx.frozen Xm
  have qXm := Bx.lt Xm
  have dXv : ∀ i, w1.cell? ⟨w.heap.size + 1, i, none⟩ = _ := Bx.cell Xv
  have eXv : ∀ i, w1.frozen? ⟨w.heap.size + 1, i, none⟩ = false := Bx.frozen Xv
  have qXv := Bx.lt Xv
  go_wp2_with fail
  refine (vec8_any kv 1 (nv : Int) 0 Av nv cv xs true _ Sv.out HVv.out).mono ?_
  rintro e w2 ⟨rfl, hst⟩
  clear dXm eXm qXm dXv eXv qXv
  replace Xm := Bx.step Xm hst
  replace Xv := Bx.step Xv hst
  replace Sm := Lib.hid (Sm.out.step hst)
  replace Sv := Lib.hid (Sv.out.step hst)
  replace b : Below w.heap.size w w2 := bst b hst
  clear hst
  have dXm : ∀ i, w2.cell? ⟨w.heap.size, i, none⟩ = _ := Bx.cell Xm
  have eXm : ∀ i, w2.frozen? ⟨w.heap.size, i, none⟩ = false := Bx.frozen Xm
  have qXm := Bx.lt Xm
  have dXv : ∀ i, w2.cell? ⟨w.heap.size + 1, i, none⟩ = _ := Bx.cell Xv
  have eXv : ∀ i, w2.frozen? ⟨w.heap.size + 1, i, none⟩ = false := Bx.frozen Xv
  have qXv := Bx.lt Xv
  go_wp2_with fail
  refine (fpick_any 1 1 (nm : Int) 0 Am nm cm ms kv 1 (nv : Int) 0 Av nv cv xs _ _ Sm.out Sv.out HP.out).mono ?_
  intro e w3 hR
  obtain ⟨A3, n3, c3, rfl, hS3, hN3, hst⟩ := RetA.flat hR
  clear hR
  clear dXm eXm qXm dXv eXv qXv
  replace Xm := Bx.step Xm hst
  replace Xv := Bx.step Xv hst
  replace Sm := Lib.hid (Sm.out.step hst)
  replace Sv := Lib.hid (Sv.out.step hst)
  replace b : Below w.heap.size w w3 := bst b hst
  clear hst
  have Sp := Lib.hid hS3
  have NSp := Lib.hid hN3
  clear hS3 hN3
  obtain rfl : n3 = 0 := Sp.out.len.symm
  have dXm : ∀ i, w3.cell? ⟨w.heap.size, i, none⟩ = _ := Bx.cell Xm
  have eXm : ∀ i, w3.frozen? ⟨w.heap.size, i, none⟩ = false := Bx.frozen Xm
  have qXm := Bx.lt Xm
  have dXv : ∀ i, w3.cell? ⟨w.heap.size + 1, i, none⟩ = _ := Bx.cell Xv
  have eXv : ∀ i, w3.frozen? ⟨w.heap.size + 1, i, none⟩ = false := Bx.frozen Xv
  have qXv := Bx.lt Xv
  go_wp2_with fail
  refine (awake_any _).mono ?_
  rintro e wz ⟨rfl, hbz⟩
  go_wp2
  go_ret
  exact ⟨rfl, bst (bal b _) hbz⟩
set_option maxRecDepth 100000 in
set_option maxHeartbeats 4000000 in
theorem picks_main (Am : Option Addr) (nm cm : Nat) (ms : List Int) (kv : Int) (Av : Option Addr) (cv : Nat) (xs : List Int) (w : World) (hsm : Sl w Am nm cm ms) (hsv : Sl w Av nm cv xs) (hm : achk 1 1 (nm : Int) 0 ms = 0) (hv : achk kv 1 (nm : Int) 0 xs = 0) :
    Calls Try.prog 9 #[.agg #[.int .i64 1, .int .i64 1, .int .i64 (nm : Int), .int .i64 0, .slice Am nm cm], .agg #[.int .i64 kv, .int .i64 1, .int .i64 (nm : Int), .int .i64 0, .slice Av nm cv]] w fun e w' => e = .returned (.bool true) ∧ Below w.heap.size w w' := by
  have Sm := Lib.hid hsm
  have Sv := Lib.hid hsv
  have HVm := Lib.hid (show isV 1 1 (nm : Int) 0 ms = true from decide_eq_true ⟨hm, rfl⟩)
  have HVv := Lib.hid (show isV kv 1 (nm : Int) 0 xs = true from decide_eq_true ⟨hv, rfl⟩)
  have hl := hsm.len
  have hl2 := hsv.len
  have hn : nm ≤ 400 := by rw [← hl]; exact achk_len hm
  have hk := (vec_ok hv).1
  obtain ⟨P, hP⟩ : ∃ P, pickL ms xs = P := ⟨_, rfl⟩
  obtain ⟨PL, hPL⟩ : ∃ PL, pickL ms (iotaL nm) = PL := ⟨_, rfl⟩
  obtain ⟨q, hq⟩ : ∃ q, cnt0 ms = q := ⟨_, rfl⟩
  have lP : P.length = q := by rw [← hP, pickL_len _ _ (by omega), hq]
  have lPL : PL.length = q := by rw [← hPL, pickL_len _ _ (by rw [iotaL_len]; omega), hq]
  have hqn : q ≤ nm := by have := cnt0_le ms; omega
  have hio : achk 1 1 (nm : Int) 0 (iotaL nm) = 0 := ivec_mk' (iotaL_len nm) hn
  have hpl : achk 1 1 (q : Int) 0 PL = 0 := ivec_mk' lPL (by omega)
  have hot : achk 1 1 (nm : Int) 0 (othL ms) = 0 := ivec_mk' (by rw [othL_len, hl]) hn
  have HP := Lib.hid (show sPick ⟨1, 1, (nm : Int), 0, ms⟩ ⟨kv, 1, (nm : Int), 0, xs⟩ = (⟨kv, 1, (q : Int), 0, P⟩, 0) from by rw [sPick_vec hm hv (by omega), hP, lP])
  have HI := Lib.hid (show sIota ⟨1, 0, 0, 0, [(nm : Int)]⟩ = (⟨1, 1, (nm : Int), 0, iotaL nm⟩, 0) from sIota_int hn)
  have HQ := Lib.hid (show sPick ⟨1, 1, (nm : Int), 0, ms⟩ ⟨1, 1, (nm : Int), 0, iotaL nm⟩ = (⟨1, 1, (q : Int), 0, PL⟩, 0) from by rw [sPick_vec hm hio (by rw [iotaL_len]; exact hl), hPL, lPL])
  have HA := Lib.hid (show sFAt ⟨kv, 1, (nm : Int), 0, xs⟩ ⟨1, 1, (q : Int), 0, PL⟩ = (⟨kv, 1, (q : Int), 0, P⟩, 0) from by rw [sFAt_vec hv hpl (fun p hp => by rw [hl2]; exact mem_iotaL.1 (pickL_mem ms _ p (by rw [hPL]; exact hp)))]; rw [← hPL, ← hP, ← pick_iota ms xs, hl2])
  obtain ⟨RL, hRL⟩ : ∃ RL, pickL (othL ms) xs = RL := ⟨_, rfl⟩
  have lRL : RL.length = nm - q := by rw [← hRL, pickL_len _ _ (by rw [othL_len]; omega)]; have := cnt0_oth ms; omega
  have HR := Lib.hid (show sPick ⟨1, 1, (nm : Int), 0, othL ms⟩ ⟨kv, 1, (nm : Int), 0, xs⟩ = (⟨kv, 1, ((nm - q : Nat) : Int), 0, RL⟩, 0) from by rw [sPick_vec hot hv (by rw [othL_len]; omega), hRL, lRL])
  obtain ⟨u, hu⟩ : ∃ u, nm - q = u := ⟨_, rfl⟩
  rw [hu] at HR lRL
  have eu : (nm : Int) - (q : Int) = (u : Int) := by omega
  have HLm := Lib.hid hl
  have LP := Lib.hid lP
  have LPL := Lib.hid lPL
  have LI := Lib.hid (iotaL_len nm)
  have LR := Lib.hid lRL
  have HCQ := Lib.hid hq
  have HQN := Lib.hid hqn
  have LO := Lib.hid (show (othL ms).length = nm by rw [othL_len, hl])
  have hnn : ((nm : Int) != (nm : Int)) = false := by simp
  clear hl hl2 hk hP hPL hq lP lPL hio hpl hot hRL lRL hu hqn
  clear hsm hsv hm hv
  go_enter Try.func9, Try.ntmps9
  go_wp2_with fail
  refine (vec8_any 1 1 (nm : Int) 0 Am nm cm ms true _ (Sm.out.step (below2 _ _ _ )) HVm.out).mono ?_
  rintro e w1 ⟨rfl, hst⟩
  obtain ⟨Xm, Xv, hst⟩ := after2 hst
  replace Sm := Lib.hid (Sm.out.step hst)
  replace Sv := Lib.hid (Sv.out.step hst)
  have b : Below w.heap.size w w1 := hst
  clear hst
  have dXm : ∀ i, w1.cell? ⟨w.heap.size, i, none⟩ = _ := Bx.cell Xm
  have eXm : ∀ i, w1.frozen? ⟨w.heap.size, i, none⟩ = false := Bx.frozen Xm
  have qXm := Bx.lt Xm
  have dXv : ∀ i, w1.cell? ⟨w.heap.size + 1, i, none⟩ = _ := Bx.cell Xv
  have eXv : ∀ i, w1.frozen? ⟨w.heap.size + 1, i, none⟩ = false := Bx.frozen Xv
  have qXv := Bx.lt Xv
  go_wp2_with fail
  refine (vec8_any kv 1 (nm : Int) 0 Av nm cv xs true _ Sv.out HVv.out).mono ?_
  rintro e w2 ⟨rfl, hst⟩
  clear dXm eXm qXm dXv eXv qXv
  replace Xm := Bx.step Xm hst
  replace Xv := Bx.step Xv hst
  replace Sm := Lib.hid (Sm.out.step hst)
  replace Sv := Lib.hid (Sv.out.step hst)
  replace b : Below w.heap.size w w2 := bst b hst
  clear hst
  have dXm : ∀ i, w2.cell? ⟨w.heap.size, i, none⟩ = _ := Bx.cell Xm
  have eXm : ∀ i, w2.frozen? ⟨w.heap.size, i, none⟩ = false := Bx.frozen Xm
  have qXm := Bx.lt Xm
  have dXv : ∀ i, w2.cell? ⟨w.heap.size + 1, i, none⟩ = _ := Bx.cell Xv
  have eXv : ∀ i, w2.frozen? ⟨w.heap.size + 1, i, none⟩ = false := Bx.frozen Xv
  have qXv := Bx.lt Xv
  go_wp2_with fail
  refine (fpick_any 1 1 (nm : Int) 0 Am nm cm ms kv 1 (nm : Int) 0 Av nm cv xs _ _ Sm.out Sv.out HP.out).mono ?_
  intro e w3 hR
  obtain ⟨A3, n3, c3, rfl, hS3, hN3, hst⟩ := RetA.flat hR
  clear hR
  clear dXm eXm qXm dXv eXv qXv
  replace Xm := Bx.step Xm hst
  replace Xv := Bx.step Xv hst
  replace Sm := Lib.hid (Sm.out.step hst)
  replace Sv := Lib.hid (Sv.out.step hst)
  replace b : Below w.heap.size w w3 := bst b hst
  clear hst
  have Sp := Lib.hid hS3
  have NSp := Lib.hid hN3
  clear hS3 hN3
  obtain rfl : q = n3 := LP.out.symm.trans Sp.out.len
  have dXm : ∀ i, w3.cell? ⟨w.heap.size, i, none⟩ = _ := Bx.cell Xm
  have eXm : ∀ i, w3.frozen? ⟨w.heap.size, i, none⟩ = false := Bx.frozen Xm
  have qXm := Bx.lt Xm
  have dXv : ∀ i, w3.cell? ⟨w.heap.size + 1, i, none⟩ = _ := Bx.cell Xv
  have eXv : ∀ i, w3.frozen? ⟨w.heap.size + 1, i, none⟩ = false := Bx.frozen Xv
  have qXv := Bx.lt Xv
  go_wp2_with fail
  refine (int_any (nm : Int) _).mono ?_
  rintro e w4 ⟨⟨A4, n4, c4, rfl, hS4, hN4⟩, hst⟩
  clear dXm eXm qXm dXv eXv qXv
  obtain ⟨Xp, hst⟩ := after1 hst
  replace Xm := Bx.step Xm hst
  replace Xv := Bx.step Xv hst
  replace Sm := Lib.hid (Sm.out.step hst)
  replace Sv := Lib.hid (Sv.out.step hst)
  replace Sp := Lib.hid (Sp.out.step hst)
  replace b : Below w.heap.size w w4 := bst b hst
  clear hst
  have Si := Lib.hid hS4
  have NSi := Lib.hid hN4
  clear hS4 hN4
  clear hnn
  have dXm : ∀ i, w4.cell? ⟨w.heap.size, i, none⟩ = _ := Bx.cell Xm
  have eXm : ∀ i, w4.frozen? ⟨w.heap.size, i, none⟩ = false := Bx.frozen Xm
  have qXm := Bx.lt Xm
  have dXv : ∀ i, w4.cell? ⟨w.heap.size + 1, i, none⟩ = _ := Bx.cell Xv
  have eXv : ∀ i, w4.frozen? ⟨w.heap.size + 1, i, none⟩ = false := Bx.frozen Xv
  have qXv := Bx.lt Xv
  have dXp : ∀ i, w4.cell? ⟨w3.heap.size, i, none⟩ = _ := Bx.cell Xp
  have eXp : ∀ i, w4.frozen? ⟨w3.heap.size, i, none⟩ = false := Bx.frozen Xp
  have qXp := Bx.lt Xp
  go_wp2_with fail
  refine (fiota_any 1 0 0 0 A4 n4 c4 [(nm : Int)] _ _ Si.out HI.out).mono ?_
  intro e w5 hR
  obtain ⟨A5, n5, c5, rfl, hS5, hN5, hst⟩ := RetA.flat hR
  clear hR
  clear dXm eXm qXm dXv eXv qXv dXp eXp qXp
  replace Xm := Bx.step Xm hst
  replace Xv := Bx.step Xv hst
  replace Xp := Bx.step Xp hst
  replace Sm := Lib.hid (Sm.out.step hst)
  replace Sv := Lib.hid (Sv.out.step hst)
  replace Sp := Lib.hid (Sp.out.step hst)
  replace Si := Lib.hid (Si.out.step hst)
  replace b : Below w.heap.size w w5 := bst b hst
  clear hst
  have Sio := Lib.hid hS5
  have NSio := Lib.hid hN5
  clear hS5 hN5
  obtain rfl : nm = n5 := LI.out.symm.trans Sio.out.len
  have dXm : ∀ i, w5.cell? ⟨w.heap.size, i, none⟩ = _ := Bx.cell Xm
  have eXm : ∀ i, w5.frozen? ⟨w.heap.size, i, none⟩ = false := Bx.frozen Xm
  have qXm := Bx.lt Xm
  have dXv : ∀ i, w5.cell? ⟨w.heap.size + 1, i, none⟩ = _ := Bx.cell Xv
  have eXv : ∀ i, w5.frozen? ⟨w.heap.size + 1, i, none⟩ = false := Bx.frozen Xv
  have qXv := Bx.lt Xv
  have dXp : ∀ i, w5.cell? ⟨w3.heap.size, i, none⟩ = _ := Bx.cell Xp
  have eXp : ∀ i, w5.frozen? ⟨w3.heap.size, i, none⟩ = false := Bx.frozen Xp
  have qXp := Bx.lt Xp
  go_wp2_with fail
  refine (fpick_any 1 1 (nm : Int) 0 Am nm cm ms 1 1 (nm : Int) 0 A5 nm c5 (iotaL nm) _ _ (Sm.out.step (below1 _ _ )) (Sio.out.step (below1 _ _ )) HQ.out).mono ?_
  intro e w6 hR
  obtain ⟨A6, n6, c6, rfl, hS6, hN6, hst⟩ := RetA.flat hR
  clear hR
  clear dXm eXm qXm dXv eXv qXv dXp eXp qXp
  obtain ⟨Xl, hst⟩ := after1 hst
  replace Xm := Bx.step Xm hst
  replace Xv := Bx.step Xv hst
  replace Xp := Bx.step Xp hst
  replace Sm := Lib.hid (Sm.out.step hst)
  replace Sv := Lib.hid (Sv.out.step hst)
  replace Sp := Lib.hid (Sp.out.step hst)
  replace Si := Lib.hid (Si.out.step hst)
  replace Sio := Lib.hid (Sio.out.step hst)
  replace b : Below w.heap.size w w6 := bst b hst
  clear hst
  have Sq := Lib.hid hS6
  have NSq := Lib.hid hN6
  clear hS6 hN6
  obtain rfl : q = n6 := LPL.out.symm.trans Sq.out.len
  have dXm : ∀ i, w6.cell? ⟨w.heap.size, i, none⟩ = _ := Bx.cell Xm
  have eXm : ∀ i, w6.frozen? ⟨w.heap.size, i, none⟩ = false := Bx.frozen Xm
  have qXm := Bx.lt Xm
  have dXv : ∀ i, w6.cell? ⟨w.heap.size + 1, i, none⟩ = _ := Bx.cell Xv
  have eXv : ∀ i, w6.frozen? ⟨w.heap.size + 1, i, none⟩ = false := Bx.frozen Xv
  have qXv := Bx.lt Xv
  have dXp : ∀ i, w6.cell? ⟨w3.heap.size, i, none⟩ = _ := Bx.cell Xp
  have eXp : ∀ i, w6.frozen? ⟨w3.heap.size, i, none⟩ = false := Bx.frozen Xp
  have qXp := Bx.lt Xp
  have dXl : ∀ i, w6.cell? ⟨w5.heap.size, i, none⟩ = _ := Bx.cell Xl
  have eXl : ∀ i, w6.frozen? ⟨w5.heap.size, i, none⟩ = false := Bx.frozen Xl
  have qXl := Bx.lt Xl
  go_wp2_with fail
  refine (fat_any kv 1 (nm : Int) 0 Av nm cv xs 1 1 (q : Int) 0 A6 q c6 PL _ _ (Sv.out.step (below1 _ _ )) (Sq.out.step (below1 _ _ )) HA.out).mono ?_
  intro e w7 hR
  obtain ⟨A7, n7, c7, rfl, hS7, hN7, hst⟩ := RetA.flat hR
  clear hR
  clear dXm eXm qXm dXv eXv qXv dXp eXp qXp dXl eXl qXl
  obtain ⟨Xq, hst⟩ := after1 hst
  replace Xm := Bx.step Xm hst
  replace Xv := Bx.step Xv hst
  replace Xp := Bx.step Xp hst
  replace Xl := Bx.step Xl hst
  replace Sm := Lib.hid (Sm.out.step hst)
  replace Sv := Lib.hid (Sv.out.step hst)
  replace Sp := Lib.hid (Sp.out.step hst)
  replace Si := Lib.hid (Si.out.step hst)
  replace Sio := Lib.hid (Sio.out.step hst)
  replace Sq := Lib.hid (Sq.out.step hst)
  replace b : Below w.heap.size w w7 := bst b hst
  clear hst
  have St := Lib.hid hS7
  have NSt := Lib.hid hN7
  clear hS7 hN7
  obtain rfl : q = n7 := LP.out.symm.trans St.out.len
  have dXm : ∀ i, w7.cell? ⟨w.heap.size, i, none⟩ = _ := Bx.cell Xm
  have eXm : ∀ i, w7.frozen? ⟨w.heap.size, i, none⟩ = false := Bx.frozen Xm
  have qXm := Bx.lt Xm
  have dXv : ∀ i, w7.cell? ⟨w.heap.size + 1, i, none⟩ = _ := Bx.cell Xv
  have eXv : ∀ i, w7.frozen? ⟨w.heap.size + 1, i, none⟩ = false := Bx.frozen Xv
  have qXv := Bx.lt Xv
  have dXp : ∀ i, w7.cell? ⟨w3.heap.size, i, none⟩ = _ := Bx.cell Xp
  have eXp : ∀ i, w7.frozen? ⟨w3.heap.size, i, none⟩ = false := Bx.frozen Xp
  have qXp := Bx.lt Xp
  have dXl : ∀ i, w7.cell? ⟨w5.heap.size, i, none⟩ = _ := Bx.cell Xl
  have eXl : ∀ i, w7.frozen? ⟨w5.heap.size, i, none⟩ = false := Bx.frozen Xl
  have qXl := Bx.lt Xl
  have dXq : ∀ i, w7.cell? ⟨w6.heap.size, i, none⟩ = _ := Bx.cell Xq
  have eXq : ∀ i, w7.frozen? ⟨w6.heap.size, i, none⟩ = false := Bx.frozen Xq
  have qXq := Bx.lt Xq
  go_wp2_with fail
  refine (is_true kv 1 (q : Int) 0 A7 q c7 P A3 q c3 _ (St.out.step (below1 _ _ )) (Sp.out.step (below1 _ _ ))).mono ?_
  rintro e w8 ⟨rfl, hst⟩
  clear dXm eXm qXm dXv eXv qXv dXp eXp qXp dXl eXl qXl dXq eXq qXq
  obtain ⟨Xt, hst⟩ := after1 hst
  replace Xm := Bx.step Xm hst
  replace Xv := Bx.step Xv hst
  replace Xp := Bx.step Xp hst
  replace Xl := Bx.step Xl hst
  replace Xq := Bx.step Xq hst
  replace Sm := Lib.hid (Sm.out.step hst)
  replace Sv := Lib.hid (Sv.out.step hst)
  replace Sp := Lib.hid (Sp.out.step hst)
  replace Si := Lib.hid (Si.out.step hst)
  replace Sio := Lib.hid (Sio.out.step hst)
  replace Sq := Lib.hid (Sq.out.step hst)
  replace St := Lib.hid (St.out.step hst)
  replace b : Below w.heap.size w w8 := bst b hst
  clear hst
  have HEU := Lib.hid eu
  clear eu
  have dXm : ∀ i, w8.cell? ⟨w.heap.size, i, none⟩ = _ := Bx.cell Xm
  have eXm : ∀ i, w8.frozen? ⟨w.heap.size, i, none⟩ = false := Bx.frozen Xm
  have qXm := Bx.lt Xm
  have dXv : ∀ i, w8.cell? ⟨w.heap.size + 1, i, none⟩ = _ := Bx.cell Xv
  have eXv : ∀ i, w8.frozen? ⟨w.heap.size + 1, i, none⟩ = false := Bx.frozen Xv
  have qXv := Bx.lt Xv
  have dXp : ∀ i, w8.cell? ⟨w3.heap.size, i, none⟩ = _ := Bx.cell Xp
  have eXp : ∀ i, w8.frozen? ⟨w3.heap.size, i, none⟩ = false := Bx.frozen Xp
  have qXp := Bx.lt Xp
  have dXl : ∀ i, w8.cell? ⟨w5.heap.size, i, none⟩ = _ := Bx.cell Xl
  have eXl : ∀ i, w8.frozen? ⟨w5.heap.size, i, none⟩ = false := Bx.frozen Xl
  have qXl := Bx.lt Xl
  have dXq : ∀ i, w8.cell? ⟨w6.heap.size, i, none⟩ = _ := Bx.cell Xq
  have eXq : ∀ i, w8.frozen? ⟨w6.heap.size, i, none⟩ = false := Bx.frozen Xq
  have qXq := Bx.lt Xq
  have dXt : ∀ i, w8.cell? ⟨w7.heap.size, i, none⟩ = _ := Bx.cell Xt
  have eXt : ∀ i, w8.frozen? ⟨w7.heap.size, i, none⟩ = false := Bx.frozen Xt
  have qXt := Bx.lt Xt
  go_wp2_with fail
  clear dXm eXm qXm dXv eXv qXv dXp eXp qXp dXl eXl qXl dXq eXq qXq dXt eXt qXt
  go_loopw [14, 15, 16] (fun v t i wr => ∃ (j T : Nat) (V : Option Addr) (vc : Nat), i = .int .i64 j ∧ t = .int .i64 T ∧ v = .slice V j vc ∧ j ≤ nm ∧ T ≤ j ∧ Hid (cnt0 (ms.take j) = T) ∧ Hid (wr.ownsRow w8.heap.size 2 1 (.slice V j vc) j ((othL (ms.take j)).map (Value.int .i64))) ∧ Below w8.heap.size w8 wr) (fun _ _ i _ => nm - (intOf i).toNat)
  case atStart => exact ⟨0, 0, none, 0, rfl, rfl, rfl, Nat.zero_le _, Nat.le_refl _, Lib.hid (by simp [cnt0]), Lib.hid (by simpa [othL] using World.ownsRow_nil _ _ _ _), Below.refl _ _⟩
  case round =>
    obtain ⟨j, T, V, vc, rfl, rfl, rfl, hj, hTj, HT, HO, hbl⟩ := hrel
    by_cases hlt : j < nm
    · have k0 : (0 : Int) ≤ (j : Int) := by omega
      have k1 : (j : Int) < (nm : Int) := by omega
      obtain ⟨mb, mo, hmA, hml, hmc0⟩ := Sm.out.at_ hlt
      have hmc := (hbl.cell (p := ⟨mb, mo + j, none⟩) hml).trans hmc0
      have dXm : ∀ i, wr.cell? ⟨w.heap.size, i, none⟩ = _ := Bx.cell (Bx.step Xm hbl)
      rw [hmA] at dXm
      have htk : ms.take j ++ [ms.getD j 0] = ms.take (j + 1) := getD_set_last (by rw [HLm.out]; exact hlt)
      have hc1 := cnt0_snoc (ms.take j) (ms.getD j 0)
      have ho1 := othL_snoc (ms.take j) (ms.getD j 0)
      rw [htk] at hc1 ho1
      generalize ms.getD j 0 = x at hmc0 hmc hc1 ho1
      have hT9 : (T : Int) + 1 ≤ 9223372036854775807 := by omega
      clear htk hmA hmc0
      by_cases hx : x = 0
      · have hxb : (x != 0) = false := by simpa using hx
        rw [if_pos hx] at hc1 ho1
        have HC1 := Lib.hid hc1
        have HO2 := Lib.hid ho1
        clear hx hc1 ho1
        have HO1 := Lib.hid (HO.out.alloc (.cells #[.int .i64 1] 2))
        have HS1 := Lib.hid (slOne wr 1)
        have HZ := Lib.hid (show w8.heap.size ≤ (wr.alloc (.cells #[.int .i64 1] 2)).heap.size by simp; have := hbl.size; omega)
        have HBL := Lib.hid (hbl.alloc hbl.size (.cells #[.int .i64 1] 2))
        go_wp2_with (at_builtin; refine wpList_append_sl rfl _ _ rfl rfl w8.heap.size _ j (othL (ms.take j)) rfl HO1.out (some ⟨wr.heap.size, 0, none⟩) 1 1 [1] rfl HS1.out (by omega) HZ.out ?_)
        intro A2_ c2_ w2_ hg
        have hbl2 : Below w8.heap.size w8 w2_ := hg.below HBL.out (fun k hk => by have := (HO1.out.lt k hk).1; omega)
        have HG := Lib.hid (show w2_.ownsRow w8.heap.size 2 1 (.slice A2_ (j + 1) c2_) (j + 1) ((othL (ms.take j) ++ [1]).map (Value.int .i64)) from hg.1)
        clear hg hbl
        clear dXm hmc
        go_wp2
        refine ⟨⟨j + 1, T, A2_, c2_, rfl, rfl, rfl, by omega, by omega, Lib.hid (by have := HC1.out; have := HT.out; omega), Lib.hid (by rw [HO2.out]; exact HG.out), hbl2⟩, by simp only [intOf]; omega⟩
      · have hxb : (x != 0) = true := by simpa using hx
        rw [if_neg hx] at hc1 ho1
        have HC1 := Lib.hid hc1
        have HO2 := Lib.hid ho1
        clear hx hc1 ho1
        have HO1 := Lib.hid (HO.out.alloc (.cells #[.int .i64 0] 2))
        have HS1 := Lib.hid (slOne wr 0)
        have HZ := Lib.hid (show w8.heap.size ≤ (wr.alloc (.cells #[.int .i64 0] 2)).heap.size by simp; have := hbl.size; omega)
        have HBL := Lib.hid (hbl.alloc hbl.size (.cells #[.int .i64 0] 2))
        go_wp2_with (at_builtin; refine wpList_append_sl rfl _ _ rfl rfl w8.heap.size _ j (othL (ms.take j)) rfl HO1.out (some ⟨wr.heap.size, 0, none⟩) 1 1 [0] rfl HS1.out (by omega) HZ.out ?_)
        intro A2_ c2_ w2_ hg
        have hbl2 : Below w8.heap.size w8 w2_ := hg.below HBL.out (fun k hk => by have := (HO1.out.lt k hk).1; omega)
        have HG := Lib.hid (show w2_.ownsRow w8.heap.size 2 1 (.slice A2_ (j + 1) c2_) (j + 1) ((othL (ms.take j) ++ [0]).map (Value.int .i64)) from hg.1)
        clear hg hbl
        clear dXm hmc
        go_wp2
        refine ⟨⟨j + 1, T + 1, A2_, c2_, rfl, rfl, rfl, by omega, by omega, Lib.hid (by have := HC1.out; have := HT.out; omega), Lib.hid (by rw [HO2.out]; exact HG.out), hbl2⟩, by simp only [intOf]; omega⟩
    · obtain rfl : nm = j := by omega
      have htt : ms.take nm = ms := List.take_of_length_le (by rw [HLm.out]; exact Nat.le_refl _)
      have hO := HO.out
      have hTT := HT.out
      rw [htt] at hO hTT
      obtain rfl : q = T := HCQ.out.symm.trans hTT
      obtain ⟨Ao, co, hv_, hS_, hN_⟩ := Sl.of_own hO
      obtain ⟨rfl, rfl⟩ : V = Ao ∧ vc = co := by simpa using hv_
      have So := Lib.hid hS_
      have HBS := Lib.hid hbl
      clear hO hTT htt hv_ hS_ hN_ HO HT hlt
      obtain ⟨w40, hw40⟩ : ∃ w40, wr = w40 := ⟨_, rfl⟩
      rw [hw40] at hbl So
      rw [hw40]
      clear HBS hw40
      have hst := hbl
      replace Xm := Bx.step Xm hst
      replace Xv := Bx.step Xv hst
      replace Xp := Bx.step Xp hst
      replace Xl := Bx.step Xl hst
      replace Xq := Bx.step Xq hst
      replace Xt := Bx.step Xt hst
      replace Sm := Lib.hid (Sm.out.step hst)
      replace Sv := Lib.hid (Sv.out.step hst)
      replace Sp := Lib.hid (Sp.out.step hst)
      replace Si := Lib.hid (Si.out.step hst)
      replace Sio := Lib.hid (Sio.out.step hst)
      replace Sq := Lib.hid (Sq.out.step hst)
      replace St := Lib.hid (St.out.step hst)
      replace b := bst b hst
      clear hst hbl
      have eu := HEU.out
      go_upto_region 21 with fail
      go_cut [17, 18] from 114 to 120 (fun p e wx => ∃ (B : Nat) (A : Option Addr) (n c : Nat), p = .pointer (some ⟨B, 0, none⟩) ∧ e = .int .i64 0 ∧ Below w40.heap.size w40 wx ∧ Hid (Bx wx B #[.int .i64 kv, .int .i64 1, .int .i64 (u : Int), .int .i64 0, .slice A n c] 25) ∧ Hid (Sl wx A n c RL) ∧ w40.heap.size ≤ B ∧ Hid (New w40 A) ∧ Hid (0 < n → ∀ b o, A = some ⟨b, o, none⟩ → b ≠ B))
      case first =>
        have hS : ∀ u, Below w40.heap.size w40 u → (∀ i, u.cell? ⟨w.heap.size + 1, i, none⟩ = #[.int .i64 kv, .int .i64 1, .int .i64 (nm : Int), .int .i64 0, .slice Av nm cv][i]?) := fun u h => Bx.cell (Bx.step Xv h)
        have P0 : Below w40.heap.size w40 w40.drew := bdr (Below.refl _ _)
        have P1 : Below w40.heap.size w40 (w40.alloc (.cells #[.int .i64 0, .int .i64 0, .int .i64 0, .int .i64 0, .slice none 0 0] 25)).drew := bdr (bal (Below.refl _ _) _)
        have N1 : Bx (w40.alloc (.cells #[.int .i64 0, .int .i64 0, .int .i64 0, .int .i64 0, .slice none 0 0] 25)).drew (w40.heap.size) #[.int .i64 0, .int .i64 0, .int .i64 0, .int .i64 0, .slice none 0 0] 25 := Bx.new w40 _ _
        go_region_held3 (fun w' => (∀ i, w'.cell? ⟨w.heap.size + 1, i, none⟩ = #[.int .i64 kv, .int .i64 1, .int .i64 (nm : Int), .int .i64 0, .slice Av nm cv][i]?))
          (with_reducible first | exact hS _ P0 | exact hS _ P1 | exact hS _ R1 | exact hS _ (bal R1 _) | exact hS _ R2 | exact hS _ (bal R2 _) | exact hS _ (below_set5' R2 (Nat.le_refl _) _ _ _ _ _) | exact hS _ (below_set5' R2 R1.size _ _ _ _ _))
          (first
            | (go_at_call 29; (with_reducible first | refine (ints_any V nm vc (othL ms) (w40.drew) (So.out.step P0) (by omega)).mono ?_ | refine (ints_any V nm vc (othL ms) ((w40.alloc (.cells #[.int .i64 0, .int .i64 0, .int .i64 0, .int .i64 0, .slice none 0 0] 25)).drew) (So.out.step P1) (by omega)).mono ?_); rintro e y1 ⟨⟨Ay1, ny1, cy1, rfl, hSy, hNy⟩, hb_⟩; have R1 : Below w40.heap.size w40 y1 := (by with_reducible first | exact bst P0 hb_ | exact bst P1 hb_); have ss1 := R1.size; have O1 : Below y1.heap.size y1 (y1.alloc (.cells #[.int .i64 0, .int .i64 0, .int .i64 0, .int .i64 0, .slice none 0 0] 25)) := below1 _ _; have NO1 : Bx (y1.alloc (.cells #[.int .i64 0, .int .i64 0, .int .i64 0, .int .i64 0, .slice none 0 0] 25)) (y1.heap.size) #[.int .i64 0, .int .i64 0, .int .i64 0, .int .i64 0, .slice none 0 0] 25 := Bx.new y1 _ _; have QSo := Lib.hid (So.out.step R1); have QSv := Lib.hid (Sv.out.step R1); have T1 := Lib.hid hSy; clear hSy; (try (have M1 : Bx y1 (w40.heap.size) #[.int .i64 0, .int .i64 0, .int .i64 0, .int .i64 0, .slice none 0 0] 25 := (by with_reducible exact Bx.step N1 hb_))); (try (have LM1 := Bx.lt M1)))
            | (go_at_call 22; (with_reducible first | refine (fpick_any _ _ _ _ _ _ _ (othL ms) _ _ _ _ _ _ _ xs (⟨kv, 1, (u : Int), 0, RL⟩, 0) y1 T1.out QSv.out HR.out).mono ?_ | refine (fpick_any _ _ _ _ _ _ _ (othL ms) _ _ _ _ _ _ _ xs (⟨kv, 1, (u : Int), 0, RL⟩, 0) _ (T1.out.step O1) (QSv.out.step O1) HR.out).mono ?_); intro e y2 hR_; obtain ⟨Ay2, ny2, cy2, rfl, hSy, hNy, hb_⟩ := RetA.flat hR_; have R2 : Below w40.heap.size w40 y2 := (by with_reducible first | exact bst R1 hb_ | exact bst (bal R1 _) hb_); have ss2 := R2.size; have O2 : Below y2.heap.size y2 (y2.alloc (.cells #[.int .i64 0, .int .i64 0, .int .i64 0, .int .i64 0, .slice none 0 0] 25)) := below1 _ _; have NO2 : Bx (y2.alloc (.cells #[.int .i64 0, .int .i64 0, .int .i64 0, .int .i64 0, .slice none 0 0] 25)) (y2.heap.size) #[.int .i64 0, .int .i64 0, .int .i64 0, .int .i64 0, .slice none 0 0] 25 := Bx.new y2 _ _; have step_ : Below y1.heap.size y1 y2 := (by with_reducible first | exact hb_ | exact bst O1 hb_); have QSo := Lib.hid (So.out.step R2); have QSv := Lib.hid (Sv.out.step R2); have T1 := Lib.hid (T1.out.step step_); (try (have M1 : Bx y2 (w40.heap.size) #[.int .i64 0, .int .i64 0, .int .i64 0, .int .i64 0, .slice none 0 0] 25 := (by with_reducible exact Bx.step M1 hb_))); (try (have K1 : Bx y2 (y1.heap.size) #[.int .i64 0, .int .i64 0, .int .i64 0, .int .i64 0, .slice none 0 0] 25 := (by with_reducible exact Bx.step NO1 hb_))); (first | (have gB : ∀ i, y2.cell? ⟨(w40.heap.size), i, none⟩ = _ := Bx.cell M1; have kB : ∀ i, y2.frozen? ⟨(w40.heap.size), i, none⟩ = false := Bx.frozen M1) | (have gB : ∀ i, y2.cell? ⟨(y1.heap.size), i, none⟩ = _ := Bx.cell K1; have kB : ∀ i, y2.frozen? ⟨(y1.heap.size), i, none⟩ = false := Bx.frozen K1) | skip)))
        all_goals go_wp2_with fail
        all_goals go_meet
        · exact ⟨y2.heap.size, Ay2, ny2, cy2, rfl, rfl, bal R2 _, Lib.hid (Bx.new y2 _ _), Lib.hid (hSy.step (below1 _ _)), R2.size, Lib.hid (hNy.mono ss1), Lib.hid (hSy.ne_lo (Nat.le_refl _))⟩
        · exact ⟨(y1.heap.size), Ay2, ny2, cy2, rfl, rfl, below_set5' R2 R1.size _ _ _ _ _, Lib.hid (Bx.set5 K1 _ _ _ _ _), Lib.hid (hSy.past5 _ _ _ _ _ fun b o e => by have h_ := hNy b o none e; rw [World.size_alloc] at h_; omega), R1.size, Lib.hid (hNy.mono (by rw [World.size_alloc]; omega)), Lib.hid (fun _ b o e => by have h_ := hNy b o none e; rw [World.size_alloc] at h_; omega)⟩
        · exact ⟨(w40.heap.size), Ay2, ny2, cy2, rfl, rfl, below_set5' R2 (Nat.le_refl _) _ _ _ _ _, Lib.hid (Bx.set5 M1 _ _ _ _ _), Lib.hid (hSy.past5 _ _ _ _ _ fun b o e => by have h_ := hNy b o none e; have l_ := LM1; omega), (Nat.le_refl _), Lib.hid (hNy.mono ss1), Lib.hid (fun _ b o e => by have h_ := hNy b o none e; have l_ := LM1; omega)⟩
      case rest =>
      obtain ⟨B41, A41, n41, c41, rfl, rfl, hst, HX_, HS_, hB41, NSr, ne_Sr_Xr⟩ := hcut
      obtain ⟨w41, hw41⟩ : ∃ w41, wc = w41 := ⟨_, rfl⟩
      rw [hw41] at hst HX_ HS_
      rw [hw41]
      clear hw41
      replace Xm := Bx.step Xm hst
      replace Xv := Bx.step Xv hst
      replace Xp := Bx.step Xp hst
      replace Xl := Bx.step Xl hst
      replace Xq := Bx.step Xq hst
      replace Xt := Bx.step Xt hst
      replace Sm := Lib.hid (Sm.out.step hst)
      replace Sv := Lib.hid (Sv.out.step hst)
      replace Sp := Lib.hid (Sp.out.step hst)
      replace Si := Lib.hid (Si.out.step hst)
      replace Sio := Lib.hid (Sio.out.step hst)
      replace Sq := Lib.hid (Sq.out.step hst)
      replace St := Lib.hid (St.out.step hst)
      replace So := Lib.hid (So.out.step hst)
      replace b := bst b hst
      have Xr := HX_.out
      have Sr := HS_
      clear hst HX_ HS_
      obtain rfl : u = n41 := LR.out.symm.trans Sr.out.len
      have dXm : ∀ i, w41.cell? ⟨w.heap.size, i, none⟩ = _ := Bx.cell Xm
      have eXm : ∀ i, w41.frozen? ⟨w.heap.size, i, none⟩ = false := Bx.frozen Xm
      have qXm := Bx.lt Xm
      have dXv : ∀ i, w41.cell? ⟨w.heap.size + 1, i, none⟩ = _ := Bx.cell Xv
      have eXv : ∀ i, w41.frozen? ⟨w.heap.size + 1, i, none⟩ = false := Bx.frozen Xv
      have qXv := Bx.lt Xv
      have dXp : ∀ i, w41.cell? ⟨w3.heap.size, i, none⟩ = _ := Bx.cell Xp
      have eXp : ∀ i, w41.frozen? ⟨w3.heap.size, i, none⟩ = false := Bx.frozen Xp
      have qXp := Bx.lt Xp
      have dXl : ∀ i, w41.cell? ⟨w5.heap.size, i, none⟩ = _ := Bx.cell Xl
      have eXl : ∀ i, w41.frozen? ⟨w5.heap.size, i, none⟩ = false := Bx.frozen Xl
      have qXl := Bx.lt Xl
      have dXq : ∀ i, w41.cell? ⟨w6.heap.size, i, none⟩ = _ := Bx.cell Xq
      have eXq : ∀ i, w41.frozen? ⟨w6.heap.size, i, none⟩ = false := Bx.frozen Xq
      have qXq := Bx.lt Xq
      have dXt : ∀ i, w41.cell? ⟨w7.heap.size, i, none⟩ = _ := Bx.cell Xt
      have eXt : ∀ i, w41.frozen? ⟨w7.heap.size, i, none⟩ = false := Bx.frozen Xt
      have qXt := Bx.lt Xt
      have dXr : ∀ i, w41.cell? ⟨B41, i, none⟩ = _ := Bx.cell Xr
      have eXr : ∀ i, w41.frozen? ⟨B41, i, none⟩ = false := Bx.frozen Xr
      have qXr := Bx.lt Xr
      go_wp2_with fail
      refine (awake_any _).mono ?_
      rintro e wz ⟨rfl, hbz⟩
      go_wp2
      go_ret
      exact ⟨rfl, bst b hbz⟩
set_option maxRecDepth 100000 in
set_option maxHeartbeats 1000000 in
theorem picks_f1 (km rm m0 m1 : Int) (Am : Option Addr) (nm cm : Nat) (ms : List Int) (kv rv v0 v1 : Int) (Av : Option Addr) (nv cv : Nat) (xs : List Int) (w : World) (hsm : Sl w Am nm cm ms) (hsv : Sl w Av nv cv xs) (hm : isV km rm m0 m1 ms = false) :
    Calls Try.prog 9 #[.agg #[.int .i64 km, .int .i64 rm, .int .i64 m0, .int .i64 m1, .slice Am nm cm], .agg #[.int .i64 kv, .int .i64 rv, .int .i64 v0, .int .i64 v1, .slice Av nv cv]] w fun e w' => e = .returned (.bool true) ∧ Below w.heap.size w w' := by
  have Sm := Lib.hid hsm
  have Sv := Lib.hid hsv
  have HVm := Lib.hid hm
  clear hsm hsv hm
  go_enter Try.func9, Try.ntmps9
  go_wp2_with fail
  refine (vec8_any _ _ _ _ _ _ _ ms false _ (Sm.out.step (below2 _ _ _ )) HVm.out).mono ?_
  rintro e w1 ⟨rfl, hst⟩
  obtain ⟨Xm, Xv, hst⟩ := after2 hst
  replace Sm := Lib.hid (Sm.out.step hst)
  replace Sv := Lib.hid (Sv.out.step hst)
  have b : Below w.heap.size w w1 := hst
  clear hst
  have dXm : ∀ i, w1.cell? ⟨w.heap.size, i, none⟩ = _ := Bx.cell Xm
  have eXm : ∀ i, w1.frozen? ⟨w.heap.size, i, none⟩ = false := Bx.frozen Xm
  have qXm := Bx.lt Xm
  have dXv : ∀ i, w1.cell? ⟨w.heap.size + 1, i, none⟩ = _ := Bx.cell Xv
  have eXv : ∀ i, w1.frozen? ⟨w.heap.size + 1, i, none⟩ = false := Bx.frozen Xv
  have qXv := Bx.lt Xv
  go_wp2_with fail
  refine (awake_any _).mono ?_
  rintro e wz ⟨rfl, hbz⟩
  go_wp2
  go_ret
  exact ⟨rfl, bst b hbz⟩
set_option maxRecDepth 100000 in
set_option maxHeartbeats 1000000 in
theorem picks_f2 (km rm m0 m1 : Int) (Am : Option Addr) (nm cm : Nat) (ms : List Int) (kv rv v0 v1 : Int) (Av : Option Addr) (nv cv : Nat) (xs : List Int) (w : World) (hsm : Sl w Am nm cm ms) (hsv : Sl w Av nv cv xs) (hm : isV km rm m0 m1 ms = true) (hv : isV kv rv v0 v1 xs = false) :
    Calls Try.prog 9 #[.agg #[.int .i64 km, .int .i64 rm, .int .i64 m0, .int .i64 m1, .slice Am nm cm], .agg #[.int .i64 kv, .int .i64 rv, .int .i64 v0, .int .i64 v1, .slice Av nv cv]] w fun e w' => e = .returned (.bool true) ∧ Below w.heap.size w w' := by
  have Sm := Lib.hid hsm
  have Sv := Lib.hid hsv
  have HVm := Lib.hid hm
  have HVv := Lib.hid hv
  clear hsm hsv hm hv
  go_enter Try.func9, Try.ntmps9
  go_wp2_with fail
  refine (vec8_any _ _ _ _ _ _ _ ms true _ (Sm.out.step (below2 _ _ _ )) HVm.out).mono ?_
  rintro e w1 ⟨rfl, hst⟩
  obtain ⟨Xm, Xv, hst⟩ := after2 hst
  replace Sm := Lib.hid (Sm.out.step hst)
  replace Sv := Lib.hid (Sv.out.step hst)
  have b : Below w.heap.size w w1 := hst
  clear hst
  have dXm : ∀ i, w1.cell? ⟨w.heap.size, i, none⟩ = _ := Bx.cell Xm
  have eXm : ∀ i, w1.frozen? ⟨w.heap.size, i, none⟩ = false := Bx.frozen Xm
  have qXm := Bx.lt Xm
  have dXv : ∀ i, w1.cell? ⟨w.heap.size + 1, i, none⟩ = _ := Bx.cell Xv
  have eXv : ∀ i, w1.frozen? ⟨w.heap.size + 1, i, none⟩ = false := Bx.frozen Xv
  have qXv := Bx.lt Xv
  go_wp2_with fail
  refine (vec8_any _ _ _ _ _ _ _ xs false _ Sv.out HVv.out).mono ?_
  rintro e w2 ⟨rfl, hst⟩
  clear dXm eXm qXm dXv eXv qXv
  replace Xm := Bx.step Xm hst
  replace Xv := Bx.step Xv hst
  replace Sm := Lib.hid (Sm.out.step hst)
  replace Sv := Lib.hid (Sv.out.step hst)
  replace b : Below w.heap.size w w2 := bst b hst
  clear hst
  have dXm : ∀ i, w2.cell? ⟨w.heap.size, i, none⟩ = _ := Bx.cell Xm
  have eXm : ∀ i, w2.frozen? ⟨w.heap.size, i, none⟩ = false := Bx.frozen Xm
  have qXm := Bx.lt Xm
  have dXv : ∀ i, w2.cell? ⟨w.heap.size + 1, i, none⟩ = _ := Bx.cell Xv
  have eXv : ∀ i, w2.frozen? ⟨w.heap.size + 1, i, none⟩ = false := Bx.frozen Xv
  have qXv := Bx.lt Xv
  go_wp2_with fail
  refine (awake_any _).mono ?_
  rintro e wz ⟨rfl, hbz⟩
  go_wp2
  go_ret
  exact ⟨rfl, bst b hbz⟩
set_option maxRecDepth 100000 in
set_option maxHeartbeats 1000000 in
theorem picks_f3 (km rm m0 m1 : Int) (Am : Option Addr) (nm cm : Nat) (ms : List Int) (kv rv v0 v1 : Int) (Av : Option Addr) (nv cv : Nat) (xs : List Int) (w : World) (hsm : Sl w Am nm cm ms) (hsv : Sl w Av nv cv xs) (hm : isV km rm m0 m1 ms = true) (hv : isV kv rv v0 v1 xs = true) (hk : (km != 1) = true) :
    Calls Try.prog 9 #[.agg #[.int .i64 km, .int .i64 rm, .int .i64 m0, .int .i64 m1, .slice Am nm cm], .agg #[.int .i64 kv, .int .i64 rv, .int .i64 v0, .int .i64 v1, .slice Av nv cv]] w fun e w' => e = .returned (.bool true) ∧ Below w.heap.size w w' := by
  have Sm := Lib.hid hsm
  have Sv := Lib.hid hsv
  have HVm := Lib.hid hm
  have HVv := Lib.hid hv
  clear hsm hsv hm hv
  go_enter Try.func9, Try.ntmps9
  go_wp2_with fail
  refine (vec8_any _ _ _ _ _ _ _ ms true _ (Sm.out.step (below2 _ _ _ )) HVm.out).mono ?_
  rintro e w1 ⟨rfl, hst⟩
  obtain ⟨Xm, Xv, hst⟩ := after2 hst
  replace Sm := Lib.hid (Sm.out.step hst)
  replace Sv := Lib.hid (Sv.out.step hst)
  have b : Below w.heap.size w w1 := hst
  clear hst
  have dXm : ∀ i, w1.cell? ⟨w.heap.size, i, none⟩ = _ := Bx.cell Xm
  have eXm : ∀ i, w1.frozen? ⟨w.heap.size, i, none⟩ = false := Bx.frozen Xm
  have qXm := Bx.lt Xm
  have dXv : ∀ i, w1.cell? ⟨w.heap.size + 1, i, none⟩ = _ := Bx.cell Xv
  have eXv : ∀ i, w1.frozen? ⟨w.heap.size + 1, i, none⟩ = false := Bx.frozen Xv
  have qXv := Bx.lt Xv
  go_wp2_with fail
  refine (vec8_any _ _ _ _ _ _ _ xs true _ Sv.out HVv.out).mono ?_
  rintro e w2 ⟨rfl, hst⟩
  clear dXm eXm qXm dXv eXv qXv
  replace Xm := Bx.step Xm hst
  replace Xv := Bx.step Xv hst
  replace Sm := Lib.hid (Sm.out.step hst)
  replace Sv := Lib.hid (Sv.out.step hst)
  replace b : Below w.heap.size w w2 := bst b hst
  clear hst
  have dXm : ∀ i, w2.cell? ⟨w.heap.size, i, none⟩ = _ := Bx.cell Xm
  have eXm : ∀ i, w2.frozen? ⟨w.heap.size, i, none⟩ = false := Bx.frozen Xm
  have qXm := Bx.lt Xm
  have dXv : ∀ i, w2.cell? ⟨w.heap.size + 1, i, none⟩ = _ := Bx.cell Xv
  have eXv : ∀ i, w2.frozen? ⟨w.heap.size + 1, i, none⟩ = false := Bx.frozen Xv
  have qXv := Bx.lt Xv
  go_wp2_with fail
  refine (awake_any _).mono ?_
  rintro e wz ⟨rfl, hbz⟩
  go_wp2
  go_ret
  exact ⟨rfl, bst b hbz⟩
theorem lawPicks8 (km rm m0 m1 : Int) (Am : Option Addr) (nm cm : Nat) (ms : List Int) (kv rv v0 v1 : Int) (Av : Option Addr) (nv cv : Nat) (xs : List Int) (w : World) (hsm : Sl w Am nm cm ms) (hsv : Sl w Av nv cv xs) :
    Calls Try.prog 9 #[.agg #[.int .i64 km, .int .i64 rm, .int .i64 m0, .int .i64 m1, .slice Am nm cm], .agg #[.int .i64 kv, .int .i64 rv, .int .i64 v0, .int .i64 v1, .slice Av nv cv]] w fun e w' => e = .returned (.bool true) ∧ Below w.heap.size w w' := by
  by_cases h : achk km rm m0 m1 ms = 0 ∧ rm = 1
  · by_cases h2 : achk kv rv v0 v1 xs = 0 ∧ rv = 1
    · by_cases hk : km = 1
      · subst hk
        obtain ⟨a1, rfl⟩ := h
        obtain ⟨a2, rfl⟩ := h2
        obtain ⟨_, rfl, rfl, _⟩ := vec_ok a1
        obtain ⟨_, rfl, rfl, _⟩ := vec_ok a2
        have l1 := hsm.len
        have l2 := hsv.len
        rw [l1] at a1 ⊢
        rw [l2] at a2 ⊢
        by_cases hne : nm = nv
        · subst hne
          exact picks_main Am nm cm ms kv Av cv xs w hsm hsv a1 a2
        · exact picks_len Am nm cm ms kv Av nv cv xs w hsm hsv a1 a2 hne
      · exact picks_f3 km rm m0 m1 Am nm cm ms kv rv v0 v1 Av nv cv xs w hsm hsv (decide_eq_true h) (decide_eq_true h2) (by simpa using hk)
    · exact picks_f2 km rm m0 m1 Am nm cm ms kv rv v0 v1 Av nv cv xs w hsm hsv (decide_eq_true h) (decide_eq_false h2)
  · exact picks_f1 km rm m0 m1 Am nm cm ms kv rv v0 v1 Av nv cv xs w hsm hsv (decide_eq_false h)
end Go.Proofs.Ytfbloddffhafdaa

/-
  The reference's Matrix, lengths of a shape, Ravel, Grid of a matrix' own lengths and cells.
-/
import Derived.Test.YtfbloddffhafdaaRtw8
import Derived.Test.YtfbloddffhafdaaFpp
import Derived.Deep.RegionLaw
import Derived.Deep.CutRange
namespace Go.Proofs.Ytfbloddffhafdaa
open Go.RowKit

set_option maxHeartbeats 1000000 in
theorem rMatrix_any (k m p : Int) (A : Option Addr) (n c : Nat) (xs : List Int) (w : World) (hs : Sl w A n c xs) (hn : n ≤ 1000000) :
    Calls Try.prog 46 #[.int .i64 k, .int .i64 m, .int .i64 p, .slice A n c] w (RetV w k 2 m p xs) := by
  have HS := Lib.hid hs
  clear hs
  go_enter Try.func46, Try.ntmps46
  go_wp2_with (at_builtin; refine wpList_append_sl rfl _ _ rfl rfl (w.heap.size + 1) _ 0 [] rfl (ownEmpty (w.alloc (.cells #[.int .i64 0, .int .i64 0, .int .i64 0, .int .i64 0, .slice none 0 0] 25)) (w.heap.size + 1) (w.heap.size + 1) (by simp) (by simp)) A n c xs rfl (HS.out.step (below2 _ _ _)) (by omega) (by simp) ?_)
  intro A' c' w1 hg
  have X0 := (Bx.alloc (Bx.new w #[.int .i64 0, .int .i64 0, .int .i64 0, .int .i64 0, .slice none 0 0] 25) (.cells #[] 2)).grown hg.2.2 (by simp [Value.ownBlock])
  have b1 := hg.below (below2 w (.cells #[.int .i64 0, .int .i64 0, .int .i64 0, .int .i64 0, .slice none 0 0] 25) (.cells #[] 2)) (by simp [Value.ownBlock])
  have HF := hg.from
  have HN : New w A' := fun b o s e => by have := HF b o s e; omega
  have HS1 := Lib.hid hg.2.1
  clear hg
  have g0 := X0.cell
  have f0 := X0.frozen
  go_wp2
  refine retA (B := w.heap.size) rfl rfl rfl (X0.set5 _ _ _ _ _) ?_
  have hS := HS1.out
  refine ⟨⟨_, _, _, rfl, hS.past5 _ _ _ _ _ (fun b o e => by have := HF b o none e; omega), HN⟩, below_set5 b1 (Nat.le_refl _) _ _ _ _ _⟩
set_option maxHeartbeats 1000000 in
theorem lens2_any (m q N : Nat) (A : Option Addr) (c : Nat) (w : World) (hs : Sl w A 2 c [(m : Int), (q : Int)]) (hm : m ≤ 400) (hq : q ≤ 400) (hN : m * q = N) (hN4 : N ≤ 400) :
    Calls Try.prog 49 #[.slice A 2 c] w fun e w' => e = .returned (.int .i64 0) ∧ Below w.heap.size w w' := by
  obtain ⟨b, o, rfl, _, h0⟩ := hs.at_ (k := 0) (by omega)
  have h1 := hs.at_ (k := 1) (by omega)
  obtain ⟨b', o', hb, _, h1⟩ := h1
  obtain ⟨rfl, rfl⟩ : b = b' ∧ o = o' := by simpa using hb
  simp only [List.getD_cons_zero, List.getD_cons_succ, Nat.add_zero] at h0 h1
  have e1 : ¬ (m : Int) < 0 := by omega
  have e2 : ¬ (q : Int) < 0 := by omega
  have e3 : ¬ (400 : Int) < (m : Int) := by omega
  have e4 : ¬ (400 : Int) < (q : Int) := by omega
  have e5 : (m : Int) * (q : Int) = (N : Int) := by rw [← hN]; simp
  have e6 : IntKind.i64.wrap (N : Int) = (N : Int) := by rw [IntKind.wrap_i64]; omega
  have e7 : ¬ (400 : Int) < (N : Int) := by omega
  clear hs hb hN
  go_enter Try.func49, Try.ntmps49
  go_wp2_with fail
  go_quiet (fail)
  go_wp2
  go_ret
  exact ⟨rfl, bdn (Below.refl _ _) _⟩
set_option maxHeartbeats 1000000 in
theorem rravel_any (k r l0 l1 : Int) (A : Option Addr) (n c : Nat) (xs : List Int) (w : World) (hs : Sl w A n c xs) (h : achk k r l0 l1 xs = 0) :
    Calls Try.prog 32 #[.agg #[.int .i64 k, .int .i64 r, .int .i64 l0, .int .i64 l1, .slice A n c]] w (RetA w (⟨k, 1, (n : Int), 0, xs⟩, 0)) := by
  have HE := Lib.hid h
  have HS := Lib.hid hs
  have hn4 : n ≤ 400 := by rw [← hs.len]; exact achk_len h
  clear hs h
  go_enter Try.func32, Try.ntmps32
  go_wp2_with fail
  refine (racheck_any _ _ _ _ _ _ _ xs _ _ (HS.out.step (below2 _ _ _)) HE.out).mono ?_
  rintro e w1 ⟨rfl, hb1⟩
  obtain ⟨X0, X1, b1⟩ := after2 hb1
  have c0 : ∀ i, w1.cell? ⟨w.heap.size, i, none⟩ = _ := Bx.cell X0
  clear hb1
  go_wp2_with fail
  refine (rVector_any k A n c xs _ (HS.out.step b1) (by omega)).mono ?_
  rintro e w3 ⟨⟨A4, n4, c4, rfl, hS4, hN4⟩, hb3⟩
  have b3 := bst b1 hb3
  have Y1 := Bx.step X1 hb3
  have HS4 := Lib.hid hS4
  have hne := Lib.hid (fun (b : Nat) (o : Nat) (e : A4 = some ⟨b, o, none⟩) => (show b ≠ w.heap.size + 1 by have := hN4 b o none e; have := Bx.lt X1; omega))
  have HN4 := Lib.hid (hN4.mono b1.size)
  have g1 : ∀ i, w3.cell? ⟨w.heap.size + 1, i, none⟩ = _ := Bx.cell Y1
  have f1 : ∀ i, w3.frozen? ⟨w.heap.size + 1, i, none⟩ = false := Bx.frozen Y1
  have q1 := Bx.lt Y1
  clear hS4 hN4 c0
  go_wp2
  refine retAE (B := w.heap.size + 1) rfl rfl rfl rfl (Bx.set5 Y1 _ _ _ _ _) ?_
  exact RetA.mk rfl (HS4.out.past5 _ _ _ _ _ fun b o e => hne.out b o e) HN4.out (below_set5 b3 (by omega) _ _ _ _ _)
theorem modSelf {j n : Nat} (h : j < n) : j % n = j := Nat.mod_eq_of_lt h
set_option maxHeartbeats 2000000 in
/-- Grid of a matrix' lengths and cells is the matrix. -/
theorem rgridv_any (k : Int) (m q N : Nat) (A : Option Addr) (c : Nat) (A' : Option Addr) (c' : Nat) (ys : List Int) (w : World) (hs : Sl w A 2 c [(m : Int), (q : Int)]) (hs' : Sl w A' N c' ys)
    (hm : m ≤ 400) (hq : q ≤ 400) (hN : m * q = N) (h1 : achk 1 1 2 0 [(m : Int), (q : Int)] = 0) (h2 : achk k 1 (N : Int) 0 ys = 0) :
    Calls Try.prog 33 #[.agg #[.int .i64 1, .int .i64 1, .int .i64 2, .int .i64 0, .slice A 2 c], .agg #[.int .i64 k, .int .i64 1, .int .i64 (N : Int), .int .i64 0, .slice A' N c']] w (RetA w (⟨k, 2, m, q, ys⟩, 0)) := by
  have HS := Lib.hid hs
  have HS' := Lib.hid hs'
  have HTW := Lib.hid (show twoE ⟨1, 1, 2, 0, [(m : Int), (q : Int)]⟩ ⟨k, 1, (N : Int), 0, ys⟩ 1 1 = 0 by rw [twoE_fE]; unfold chkA; simp only [h1, h2]; rfl)
  have hN4 : N ≤ 400 := by rw [← hs'.len]; exact achk_len h2
  have HL := Lib.hid hs'.len
  obtain ⟨b, o, rfl, hbl, hx0⟩ := hs.at_ (k := 0) (by omega)
  obtain ⟨b', o', hb, _, hx1⟩ := hs.at_ (k := 1) (by omega)
  obtain ⟨rfl, rfl⟩ : b = b' ∧ o = o' := by simpa using hb
  simp only [List.getD_cons_zero, List.getD_cons_succ, Nat.add_zero] at hx0 hx1
  have e5 : (m : Int) * (q : Int) = (N : Int) := by rw [← hN]; simp
  have e6 : IntKind.i64.wrap (N : Int) = (N : Int) := by rw [IntKind.wrap_i64]; omega
  have HNN := Lib.hid hN
  have HM := Lib.hid hm
  have HQ := Lib.hid hq
  clear hs hs' hb h1 h2 hN hm hq
  go_enter Try.func33, Try.ntmps33
  go_wp2_with fail
  refine (rtwo_any _ _ _ _ _ _ _ [(m : Int), (q : Int)] _ _ _ _ _ _ _ ys 1 1 _ _ (HS.out.step (below3 _ _ _ _)) (HS'.out.step (below3 _ _ _ _)) HTW.out).mono ?_
  rintro e w1 ⟨rfl, hb1⟩
  obtain ⟨X0, X1, X2, b1⟩ := after3 hb1
  have c0 : ∀ i, w1.cell? ⟨w.heap.size, i, none⟩ = _ := Bx.cell X0
  clear hb1
  go_wp2_with fail
  refine (lens2_any m q N _ c _ (HS.out.step b1) HM.out HQ.out HNN.out hN4).mono ?_
  rintro e w2 ⟨rfl, hb2⟩
  have b2 := bst b1 hb2
  replace X0 := Bx.step X0 hb2
  replace X1 := Bx.step X1 hb2
  replace X2 := Bx.step X2 hb2
  clear c0 hb2 b1
  have c0 : ∀ i, w2.cell? ⟨w.heap.size, i, none⟩ = _ := Bx.cell X0
  have c1 : ∀ i, w2.cell? ⟨w.heap.size + 1, i, none⟩ = _ := Bx.cell X1
  have hy0 := (b2.cell (p := ⟨b, o, none⟩) hbl).trans hx0
  have hy1 := (b2.cell (p := ⟨b, o + 1, none⟩) hbl).trans hx1
  go_upto_region 4 with fail
  go_cut [38] from 19 to 38 (fun t wx => t = .bool false ∧ Below w2.heap.size w2 wx)
  case first =>
    by_cases hz : N = 0
    · have z1 : ((N : Int) == 0) = true := by simp; omega
      have z2 : N = 0 := hz
      have z3 : ¬ (0 : Int) < (N : Int) := by omega
      have z4 : ¬ 0 < N := by omega
      clear z2 hz
      go_quiet (fail)
      go_wp2_with fail
      go_meet
      exact ⟨by simp, bdn (Below.refl _ _) _⟩
    · have z1 : ((N : Int) == 0) = false := by simp; omega
      clear hz
      go_quiet (fail)
      go_wp2_with fail
      go_meet
      exact ⟨rfl, bdn (Below.refl _ _) _⟩
  case rest =>
    obtain ⟨rfl, hst⟩ := hcut
    obtain ⟨w3, hw3⟩ : ∃ w3, wc = w3 := ⟨_, rfl⟩
    rw [hw3] at hst
    rw [hw3]
    replace X0 := Bx.step X0 hst
    replace X1 := Bx.step X1 hst
    replace X2 := Bx.step X2 hst
    have b3 := bst b2 hst
    clear hw3 hst c0 c1 hy0 hy1 b2
    have c0 : ∀ i, w3.cell? ⟨w.heap.size, i, none⟩ = _ := Bx.cell X0
    have hy0 := (b3.cell (p := ⟨b, o, none⟩) hbl).trans hx0
    have hy1 := (b3.cell (p := ⟨b, o + 1, none⟩) hbl).trans hx1
    go_upto_region 9 with fail
    go_quiet (fail)
    obtain ⟨w4, hw4⟩ : ∃ w4, w3.drewN nq = w4 := ⟨_, rfl⟩
    have hst : Below w3.heap.size w3 w4 := by rw [← hw4]; exact bdn (Below.refl _ _) nq
    rw [hw4]
    replace X0 := Bx.step X0 hst
    replace X1 := Bx.step X1 hst
    replace X2 := Bx.step X2 hst
    have b4 := bst b3 hst
    clear hw4 hst c0 hy0 hy1 b3
    have q4 := Bx.lt X2
    go_wp2
    go_loopw [7, 10] (fun v i wr => ∃ (j : Nat) (V : Option Addr) (vc : Nat), i = .int .i64 j ∧ v = .slice V j vc ∧ j ≤ N ∧ Hid (wr.ownsRow w4.heap.size 2 1 (.slice V j vc) j ((ys.take j).map (Value.int .i64))) ∧ Below w4.heap.size w4 wr) (fun _ i _ => N - (intOf i).toNat)
    case atStart => exact ⟨0, none, 0, rfl, rfl, Nat.zero_le _, Lib.hid (by simpa using World.ownsRow_nil _ _ _ _), Below.refl _ _⟩
    case round =>
      obtain ⟨j, V, vc, rfl, rfl, hj, HO, hb⟩ := hrel
      have E1 := Bx.step X1 hb
      have b0 := bst b4 hb
      by_cases hlt : j < N
      · have k0 : (0 : Int) ≤ (j : Int) := by omega
        have k1 : (j : Int) < (N : Int) := by omega
        obtain ⟨yb, yo, rfl, hyl, hcy⟩ := HS'.out.at_ hlt
        have hrem : Int.tmod (j : Int) (N : Int) = (j : Int) := by
          have : Int.tmod (j : Int) (N : Int) = ((j % N : Nat) : Int) := rfl
          rw [this, modSelf hlt]
        have dy : wr.cell? ⟨yb, yo + j, none⟩ = some (.int .i64 (ys.getD j 0)) := (b0.cell (p := ⟨yb, yo + j, none⟩) hyl).trans hcy
        have hst : ys.take j ++ [ys.getD j 0] = ys.take (j + 1) := getD_set_last (by rw [HL.out]; exact hlt)
        generalize ys.getD j 0 = y at hcy dy hst
        have HST := Lib.hid hst
        have HO1 := Lib.hid (HO.out.drew.alloc (.cells #[.int .i64 y] 2))
        have HS1 := Lib.hid (slOne wr.drew y)
        have hbz : w4.heap.size ≤ (wr.drew.alloc (.cells #[.int .i64 y] 2)).heap.size := (bal (bdr hb) _).size
        have HBZ := Lib.hid hbz
        have hN0 : ((N : Int) == 0) = false := by simp; omega
        have hN00 : ¬ N = 0 := by omega
        have c1 : ∀ i, wr.cell? ⟨w.heap.size + 1, i, none⟩ = _ := Bx.cell E1
        have p1 := Bx.lt E1
        clear hbz hst hcy
        go_wp2_with fail
        go_region_law (refine step_append_sl rfl _ _ rfl rfl w4.heap.size _ j (ys.take j) rfl HO1.out (some ⟨wr.heap.size, 0, none⟩) 1 1 [y] rfl HS1.out (by omega) HBZ.out ?_; intro A2 c2' w5 hg)
        all_goals
          go_wp2
          refine ⟨⟨j + 1, A2, c2', rfl, rfl, by omega, ?_, hg.below (bal (bdr hb) _) (fun k hk => (HO.out.lt k hk).1)⟩, ?_⟩
          · rw [← HST.out]; exact Lib.hid hg.1
          · simp only [intOf]; omega
      · obtain rfl : N = j := by omega
        have hO := HO.out
        rw [List.take_of_length_le (by rw [HL.out]; exact Nat.le_refl _)] at hO
        obtain ⟨Ao, co, hv, hS, _⟩ := Sl.of_own hO
        obtain ⟨rfl, rfl⟩ : V = Ao ∧ vc = co := by simpa using hv
        have HSS := Lib.hid hS
        have c1 : ∀ i, wr.cell? ⟨w.heap.size + 1, i, none⟩ = _ := Bx.cell E1
        clear hO hv hS
        go_wp2_with fail
        refine (rMatrix_any k m q V N vc ys _ HSS.out (by omega)).mono ?_
        rintro e w5 ⟨⟨A3, n3, c3, rfl, hS3, hN3⟩, hb3⟩
        have B3 : Below w4.heap.size w4 w5 := bst hb hb3
        have g2 : ∀ i, w5.cell? ⟨w.heap.size + 1 + 1, i, none⟩ = _ := (Bx.step X2 B3).cell
        have k2 : ∀ i, w5.frozen? ⟨w.heap.size + 1 + 1, i, none⟩ = false := (Bx.step X2 B3).frozen
        have q2 := X2.lt
        have HS3 := Lib.hid hS3
        have M3 := Lib.hid (fun (b : Nat) (o : Nat) (e : A3 = some ⟨b, o, none⟩) => (show b ≠ w.heap.size + 1 + 1 by have := hN3 b o none e; have := hb.size; omega))
        have hm3 := Lib.hid (hN3.mono (Nat.le_trans b4.size hb.size))
        clear hS3 hb3 hN3 c1
        go_wp2
        refine retAE (B := w.heap.size + 1 + 1) rfl rfl rfl rfl ((Bx.step X2 B3).set5 _ _ _ _ _) ?_
        exact RetA.mk rfl (HS3.out.past5 _ _ _ _ _ fun b o e => M3.out b o e) hm3.out (below_set5 (bst b4 B3) (by omega) _ _ _ _ _)
end Go.Proofs.Ytfbloddffhafdaa

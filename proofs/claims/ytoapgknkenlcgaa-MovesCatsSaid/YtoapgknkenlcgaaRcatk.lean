/-
  The reference's Cat, where it does not fail; whole.
-/
import Derived.Test.YtoapgknkenlcgaaRcat
import Derived.Deep.RegionHeld3
namespace Go.Proofs.Ytoapgknkenlcgaa
open Go.RowKit

/-- A cut of a slice: s[p:p+q]. -/
theorem Sl.cut {w : World} {A : Option Addr} {n c p q : Nat} {xs : List Int} (h : Sl w A n c xs) (hq : p + q ≤ n) : Sl w (if c = p then A else A.map (·.add p)) q (c - p) ((xs.drop p).take q) :=
  (h.from (by omega)).to (by omega)
set_option maxHeartbeats 8000000 in
theorem rCat_ok (k r l0 l1 : Int) (A : Option Addr) (n c : Nat) (xs : List Int) (l0' l1' : Int) (A' : Option Addr) (n' c' : Nat) (ys : List Int) (m q q' : Nat) (R : Arr × Int) (w : World)
    (hs : Sl w A n c xs) (hs' : Sl w A' n' c' ys) (h1 : achk k r l0 l1 xs = 0) (h2 : achk k r l0' l1' ys = 0)
    (ha : ∀ W, Calls Try.prog 51 #[.agg #[.int .i64 k, .int .i64 r, .int .i64 l0, .int .i64 l1, .slice A n c]] W fun e w' => e = .returned (.tuple #[.int .i64 m, .int .i64 q]) ∧ Below W.heap.size W w')
    (hb : ∀ W, Calls Try.prog 51 #[.agg #[.int .i64 k, .int .i64 r, .int .i64 l0', .int .i64 l1', .slice A' n' c']] W fun e w' => e = .returned (.tuple #[.int .i64 m, .int .i64 q']) ∧ Below W.heap.size W w')
    (hn : n = m * q) (hn' : n' = m * q') (hm : m ≤ 400) (hq : q ≤ 400) (hq' : q' ≤ 400) (hsm : n + n' ≤ 400) (hqq : q + q' ≤ 400)
    (hr : (r == 0) = false) (hrl : (r == 2) = false ∨ ((r == 2) = true ∧ l0 = l0')) (hl : 0 ≤ l1 ∧ 0 ≤ l1' ∧ l1 + l1' ≤ 400)
    (hR : ((r == 1) = true ∧ R = (⟨k, 1, ((m * (q + q') : Nat) : Int), 0, catL xs ys q q' (List.range m)⟩, 0)) ∨ ((r == 1) = false ∧ R = (⟨k, 2, m, (q : Int) + (q' : Int), catL xs ys q q' (List.range m)⟩, 0))) :
    Calls Try.prog 23 #[.agg #[.int .i64 k, .int .i64 r, .int .i64 l0, .int .i64 l1, .slice A n c], .agg #[.int .i64 k, .int .i64 r, .int .i64 l0', .int .i64 l1', .slice A' n' c']] w (RetA w R) := by
  have HS := Lib.hid hs
  have HS' := Lib.hid hs'
  have H1 := Lib.hid h1
  have H2 := Lib.hid h2
  have HN := Lib.hid hn
  have HN' := Lib.hid hn'
  have HRR := Lib.hid hR
  have hcap := hs.cap
  have hmost := hs.most
  have hcap' := hs'.cap
  have hmost' := hs'.most
  have e1 : IntKind.i64.wrap ((n : Int) + (n' : Int)) = (n : Int) + (n' : Int) := IntWalk.i64_in _ (by omega)
  have e2 : IntKind.i64.wrap (l1 + l1') = l1 + l1' := IntWalk.i64_in _ (by omega)
  have hd : decide ((400 : Int) < (n : Int) + (n' : Int)) = false := decide_eq_false (by omega)
  have hd2 : decide ((400 : Int) < l1 + l1') = false := decide_eq_false (by omega)
  clear hs hs' h1 h2 hn hn' hR
  rcases hrl with hrl | ⟨hrl, rfl⟩
  · go_enter Try.func23, Try.ntmps23
    go_wp2_with fail
    refine (racheck_any _ _ _ _ _ _ _ xs _ _ (HS.out.step (below3 _ _ _ _)) H1.out).mono ?_
    rintro e w1 ⟨rfl, hb1⟩
    obtain ⟨X0, X1, X2, b1⟩ := after3 hb1
    clear hb1
    have q2 := Bx.lt X2
    have c0 : ∀ i, w1.cell? ⟨w.heap.size, i, none⟩ = _ := Bx.cell X0
    have c1 : ∀ i, w1.cell? ⟨w.heap.size + 1, i, none⟩ = _ := Bx.cell X1
    have c2 : ∀ i, w1.cell? ⟨w.heap.size + 1 + 1, i, none⟩ = _ := Bx.cell X2
    have f2 : ∀ i, w1.frozen? ⟨w.heap.size + 1 + 1, i, none⟩ = false := Bx.frozen X2
    go_wp2_with fail
    refine (racheck_any _ _ _ _ _ _ _ ys _ _ (HS'.out.step b1) H2.out).mono ?_
    rintro e w2 ⟨rfl, hb2⟩
    have Y0 := Bx.step X0 hb2
    have Y1 := Bx.step X1 hb2
    have Y2 := Bx.step X2 hb2
    have b2 := bst b1 hb2
    have hs2 := hb2.size
    clear c0 c1 c2 f2 X0 X1 X2 b1 hb2
    have c0 : ∀ i, w2.cell? ⟨w.heap.size, i, none⟩ = _ := Bx.cell Y0
    have c1 : ∀ i, w2.cell? ⟨w.heap.size + 1, i, none⟩ = _ := Bx.cell Y1
    have c2 : ∀ i, w2.cell? ⟨w.heap.size + 1 + 1, i, none⟩ = _ := Bx.cell Y2
    have f2 : ∀ i, w2.frozen? ⟨w.heap.size + 1 + 1, i, none⟩ = false := Bx.frozen Y2
    clear c2 f2
    go_wp2_with fail
    refine (ha _).mono ?_
    rintro e w3 ⟨rfl, hb3⟩
    have Z0 := Bx.step Y0 hb3
    have Z1 := Bx.step Y1 hb3
    have Z2 := Bx.step Y2 hb3
    have b3 := bst b2 hb3
    clear c0 c1 Y0 Y1 Y2 b2 hb3
    have c1 : ∀ i, w3.cell? ⟨w.heap.size + 1, i, none⟩ = _ := Bx.cell Z1
    go_wp2_with fail
    refine (hb _).mono ?_
    rintro e w4 ⟨rfl, hb4⟩
    have U0 := Bx.step Z0 hb4
    have U1 := Bx.step Z1 hb4
    have U2 := Bx.step Z2 hb4
    have b4 := bst b3 hb4
    clear c1 Z0 Z1 Z2 b3 hb4
    have q4 := Bx.lt U2
    go_wp2
    go_loopw [7, 12] (fun v e wr => ∃ (j : Nat) (V : Option Addr) (N vc : Nat), j ≤ m ∧ v = .slice V N vc ∧ e = .int .i64 j ∧ Below w4.heap.size w4 wr ∧ Hid (N = j * (q + q')) ∧ Hid (wr.ownsRow w4.heap.size 2 1 (.slice V N vc) N ((catL xs ys q q' (List.range j)).map (Value.int .i64)))) (fun _ e _ => m - (intOf e).toNat)
    case atStart => exact ⟨0, none, 0, 0, Nat.zero_le _, rfl, rfl, Below.refl _ _, Lib.hid (by simp), Lib.hid (World.ownsRow_nil _ _ _ _)⟩
    case round =>
      obtain ⟨j, V, N, vc, hj, rfl, rfl, hbr, HNN, HO⟩ := hrel
      have E0 := Bx.step U0 hbr
      have E1 := Bx.step U1 hbr
      have b0 : Below w.heap.size w wr := bst b4 hbr
      have hNb : N ≤ 160000 := by rw [HNN.out]; exact Nat.mul_le_mul (show j ≤ 400 by omega) (show q + q' ≤ 400 by omega)
      by_cases hlt : j < m
      · have j1 : (j : Int) < (m : Int) := by omega
        obtain ⟨p, hp⟩ : ∃ p, j * q = p := ⟨_, rfl⟩
        obtain ⟨p', hp'⟩ : ∃ p', j * q' = p' := ⟨_, rfl⟩
        have hpm : p + q ≤ n := by
          have h1 := Nat.mul_le_mul_right q (show j + 1 ≤ m from hlt)
          rw [Nat.succ_mul] at h1
          have := HN.out
          omega
        have hpm' : p' + q' ≤ n' := by
          have h1 := Nat.mul_le_mul_right q' (show j + 1 ≤ m from hlt)
          rw [Nat.succ_mul] at h1
          have := HN'.out
          omega
        have S1 := Lib.hid (HS.out.cut (p := p) hpm)
        have S2 := Lib.hid (HS'.out.cut (p := p') hpm')
        have hst : catL xs ys q q' (List.range j) ++ (xs.drop p).take q ++ (ys.drop p').take q' = catL xs ys q q' (List.range (j + 1)) := by
          rw [List.range_succ, catL_snoc, hp, hp']
        have HST := Lib.hid hst
        have hpi : (j : Int) * (q : Int) = (p : Int) := by rw [← hp]; simp
        have hpi' : (j : Int) * (q' : Int) = (p' : Int) := by rw [← hp']; simp
        have ew : IntKind.i64.wrap ((j : Int) * (q : Int)) = (p : Int) := by rw [hpi]; exact IntWalk.i64_in _ (by omega)
        have ew' : IntKind.i64.wrap ((j : Int) * (q' : Int)) = (p' : Int) := by rw [hpi']; exact IntWalk.i64_in _ (by omega)
        obtain ⟨s, hs⟩ : ∃ s, p + q = s := ⟨_, rfl⟩
        obtain ⟨s', hs'⟩ : ∃ s', p' + q' = s' := ⟨_, rfl⟩
        have e3 : IntKind.i64.wrap ((p : Int) + (q : Int)) = (s : Int) := by
          have : (p : Int) + (q : Int) = (s : Int) := by omega
          rw [this]
          exact IntWalk.i64_in _ (by omega)
        have e3' : IntKind.i64.wrap ((p' : Int) + (q' : Int)) = (s' : Int) := by
          have : (p' : Int) + (q' : Int) = (s' : Int) := by omega
          rw [this]
          exact IntWalk.i64_in _ (by omega)
        have u0 : (0 : Int) ≤ (s : Int) := by omega
        have u1 : (s : Int) ≤ (c : Int) := by omega
        have u2 : p ≤ s := by omega
        have u3 : s - p = q := by omega
        have u0' : (0 : Int) ≤ (s' : Int) := by omega
        have u1' : (s' : Int) ≤ (c' : Int) := by omega
        have u2' : p' ≤ s' := by omega
        have u3' : s' - p' = q' := by omega
        have k0 : wr.drew.cell? ⟨w.heap.size, 4, none⟩ = some (.slice A n c) := E0.cell 4
        have k1 : wr.drew.cell? ⟨w.heap.size + 1, 4, none⟩ = some (.slice A' n' c') := E1.cell 4
        have hbase := hbr.size
        clear hp hp' hpi hpi' hs hs' hst
        go_wp2_with fail
        go_region_held3 (fun w' => w'.cell? ⟨w.heap.size, 4, none⟩ = some (.slice A n c) ∧ w'.cell? ⟨w.heap.size + 1, 4, none⟩ = some (.slice A' n' c'))
          (with_reducible first | exact ⟨k0, k1⟩ | exact ⟨k2, k3⟩ | exact ⟨k4, k5⟩)
          (first
            | (refine step_append_sl rfl _ _ rfl rfl w4.heap.size (.slice V N vc) N (catL xs ys q q' (List.range j)) rfl HO.out.drew _ q (c - p) ((xs.drop p).take q) rfl (S1.out.step (bdr b0)) (by omega) hbase ?_; intro A1 c1' W1 hG1; have HG1 := Lib.hid hG1; have B1 : Below w4.heap.size w4 W1 := hG1.below (bdr hbr) (fun k hk => (HO.out.drew.lt k hk).1); have k2 : W1.cell? ⟨w.heap.size, 4, none⟩ = some (.slice A n c) := (Bx.step U0 B1).cell 4; have k3 : W1.cell? ⟨w.heap.size + 1, 4, none⟩ = some (.slice A' n' c') := (Bx.step U1 B1).cell 4; have B1s := B1.size; clear hG1)
            | (refine step_append_sl rfl _ _ rfl rfl w4.heap.size (.slice A1 (N + q) c1') (N + q) _ rfl HG1.out.1 _ q' (c' - p') ((ys.drop p').take q') rfl (S2.out.step (bst b4 B1)) (by omega) B1s ?_; intro A2 c2' W2 hG2; have HG2 := Lib.hid hG2; have B2 : Below w4.heap.size w4 W2 := hG2.below B1 (fun k hk => (HG1.out.1.lt k hk).1); have k4 : W2.cell? ⟨w.heap.size, 4, none⟩ = some (.slice A n c) := (Bx.step U0 B2).cell 4; have k5 : W2.cell? ⟨w.heap.size + 1, 4, none⟩ = some (.slice A' n' c') := (Bx.step U1 B2).cell 4; clear hG2))
        all_goals
          go_wp2
          refine ⟨⟨j + 1, A2, N + q + q', c2', by omega, rfl, rfl, B2, Lib.hid (by have := HNN.out; rw [Nat.succ_mul]; omega), ?_⟩, ?_⟩
          · rw [← HST.out]; exact Lib.hid HG2.out.1
          · simp only [intOf]; omega
      · obtain rfl : j = m := by omega
        obtain ⟨_, _, hv, hSV, _⟩ := Sl.of_own HO.out
        cases hv
        have d0 : ∀ i, wr.cell? ⟨w.heap.size, i, none⟩ = _ := Bx.cell E0
        have SV := Lib.hid hSV
        have hbz := hbr.size
        clear hSV
        rcases HRR.out with ⟨hr1, hR⟩ | ⟨hr1, hR⟩
        · have HR := Lib.hid hR
          clear hR
          go_wp2_with fail
          refine (rVector_any k V N vc _ _ SV.out (by omega)).mono ?_
          rintro e w5 ⟨⟨A3, n3, c3, rfl, hS3, hN3⟩, hb5⟩
          have B3 : Below w4.heap.size w4 w5 := bst hbr hb5
          have g1 : ∀ i, w5.cell? ⟨w.heap.size + 1 + 1, i, none⟩ = _ := (Bx.step U2 B3).cell
          have k1 : ∀ i, w5.frozen? ⟨w.heap.size + 1 + 1, i, none⟩ = false := (Bx.step U2 B3).frozen
          have HS3 := Lib.hid hS3
          have hm3 := hN3.mono (Nat.le_trans b4.size hbz)
          have M3 : ∀ b o, A3 = some ⟨b, o, none⟩ → b ≠ w.heap.size + 1 + 1 := fun b o e => by have := hN3 b o none e; omega
          clear hS3 hb5 hN3
          go_wp2
          refine retAE (B := w.heap.size + 1 + 1) rfl rfl rfl rfl ((Bx.step U2 B3).set5 _ _ _ _ _) ?_
          exact RetA.mk (by rw [HR.out, ← HNN.out]) (HS3.out.past5 _ _ _ _ _ M3) hm3 (below_set5 (bst b4 B3) (by omega) _ _ _ _ _)
        · have HR := Lib.hid hR
          clear hR
          go_wp2_with fail
          refine (rMatrix_any k j ((q : Int) + (q' : Int)) V N vc _ _ SV.out (by omega)).mono ?_
          rintro e w5 ⟨⟨A3, n3, c3, rfl, hS3, hN3⟩, hb5⟩
          have B3 : Below w4.heap.size w4 w5 := bst hbr hb5
          have g1 : ∀ i, w5.cell? ⟨w.heap.size + 1 + 1, i, none⟩ = _ := (Bx.step U2 B3).cell
          have k1 : ∀ i, w5.frozen? ⟨w.heap.size + 1 + 1, i, none⟩ = false := (Bx.step U2 B3).frozen
          have HS3 := Lib.hid hS3
          have hm3 := hN3.mono (Nat.le_trans b4.size hbz)
          have M3 : ∀ b o, A3 = some ⟨b, o, none⟩ → b ≠ w.heap.size + 1 + 1 := fun b o e => by have := hN3 b o none e; omega
          clear hS3 hb5 hN3
          go_wp2
          refine retAE (B := w.heap.size + 1 + 1) rfl rfl rfl rfl ((Bx.step U2 B3).set5 _ _ _ _ _) ?_
          exact RetA.mk (by rw [HR.out]) (HS3.out.past5 _ _ _ _ _ M3) hm3 (below_set5 (bst b4 B3) (by omega) _ _ _ _ _)
  · go_enter Try.func23, Try.ntmps23
    go_wp2_with fail
    refine (racheck_any _ _ _ _ _ _ _ xs _ _ (HS.out.step (below3 _ _ _ _)) H1.out).mono ?_
    rintro e w1 ⟨rfl, hb1⟩
    obtain ⟨X0, X1, X2, b1⟩ := after3 hb1
    clear hb1
    have q2 := Bx.lt X2
    have c0 : ∀ i, w1.cell? ⟨w.heap.size, i, none⟩ = _ := Bx.cell X0
    have c1 : ∀ i, w1.cell? ⟨w.heap.size + 1, i, none⟩ = _ := Bx.cell X1
    have c2 : ∀ i, w1.cell? ⟨w.heap.size + 1 + 1, i, none⟩ = _ := Bx.cell X2
    have f2 : ∀ i, w1.frozen? ⟨w.heap.size + 1 + 1, i, none⟩ = false := Bx.frozen X2
    go_wp2_with fail
    refine (racheck_any _ _ _ _ _ _ _ ys _ _ (HS'.out.step b1) H2.out).mono ?_
    rintro e w2 ⟨rfl, hb2⟩
    have Y0 := Bx.step X0 hb2
    have Y1 := Bx.step X1 hb2
    have Y2 := Bx.step X2 hb2
    have b2 := bst b1 hb2
    have hs2 := hb2.size
    clear c0 c1 c2 f2 X0 X1 X2 b1 hb2
    have c0 : ∀ i, w2.cell? ⟨w.heap.size, i, none⟩ = _ := Bx.cell Y0
    have c1 : ∀ i, w2.cell? ⟨w.heap.size + 1, i, none⟩ = _ := Bx.cell Y1
    have c2 : ∀ i, w2.cell? ⟨w.heap.size + 1 + 1, i, none⟩ = _ := Bx.cell Y2
    have f2 : ∀ i, w2.frozen? ⟨w.heap.size + 1 + 1, i, none⟩ = false := Bx.frozen Y2
    clear c2 f2
    go_wp2_with fail
    refine (ha _).mono ?_
    rintro e w3 ⟨rfl, hb3⟩
    have Z0 := Bx.step Y0 hb3
    have Z1 := Bx.step Y1 hb3
    have Z2 := Bx.step Y2 hb3
    have b3 := bst b2 hb3
    clear c0 c1 Y0 Y1 Y2 b2 hb3
    have c1 : ∀ i, w3.cell? ⟨w.heap.size + 1, i, none⟩ = _ := Bx.cell Z1
    go_wp2_with fail
    refine (hb _).mono ?_
    rintro e w4 ⟨rfl, hb4⟩
    have U0 := Bx.step Z0 hb4
    have U1 := Bx.step Z1 hb4
    have U2 := Bx.step Z2 hb4
    have b4 := bst b3 hb4
    clear c1 Z0 Z1 Z2 b3 hb4
    have q4 := Bx.lt U2
    go_wp2
    go_loopw [7, 12] (fun v e wr => ∃ (j : Nat) (V : Option Addr) (N vc : Nat), j ≤ m ∧ v = .slice V N vc ∧ e = .int .i64 j ∧ Below w4.heap.size w4 wr ∧ Hid (N = j * (q + q')) ∧ Hid (wr.ownsRow w4.heap.size 2 1 (.slice V N vc) N ((catL xs ys q q' (List.range j)).map (Value.int .i64)))) (fun _ e _ => m - (intOf e).toNat)
    case atStart => exact ⟨0, none, 0, 0, Nat.zero_le _, rfl, rfl, Below.refl _ _, Lib.hid (by simp), Lib.hid (World.ownsRow_nil _ _ _ _)⟩
    case round =>
      obtain ⟨j, V, N, vc, hj, rfl, rfl, hbr, HNN, HO⟩ := hrel
      have E0 := Bx.step U0 hbr
      have E1 := Bx.step U1 hbr
      have b0 : Below w.heap.size w wr := bst b4 hbr
      have hNb : N ≤ 160000 := by rw [HNN.out]; exact Nat.mul_le_mul (show j ≤ 400 by omega) (show q + q' ≤ 400 by omega)
      by_cases hlt : j < m
      · have j1 : (j : Int) < (m : Int) := by omega
        obtain ⟨p, hp⟩ : ∃ p, j * q = p := ⟨_, rfl⟩
        obtain ⟨p', hp'⟩ : ∃ p', j * q' = p' := ⟨_, rfl⟩
        have hpm : p + q ≤ n := by
          have h1 := Nat.mul_le_mul_right q (show j + 1 ≤ m from hlt)
          rw [Nat.succ_mul] at h1
          have := HN.out
          omega
        have hpm' : p' + q' ≤ n' := by
          have h1 := Nat.mul_le_mul_right q' (show j + 1 ≤ m from hlt)
          rw [Nat.succ_mul] at h1
          have := HN'.out
          omega
        have S1 := Lib.hid (HS.out.cut (p := p) hpm)
        have S2 := Lib.hid (HS'.out.cut (p := p') hpm')
        have hst : catL xs ys q q' (List.range j) ++ (xs.drop p).take q ++ (ys.drop p').take q' = catL xs ys q q' (List.range (j + 1)) := by
          rw [List.range_succ, catL_snoc, hp, hp']
        have HST := Lib.hid hst
        have hpi : (j : Int) * (q : Int) = (p : Int) := by rw [← hp]; simp
        have hpi' : (j : Int) * (q' : Int) = (p' : Int) := by rw [← hp']; simp
        have ew : IntKind.i64.wrap ((j : Int) * (q : Int)) = (p : Int) := by rw [hpi]; exact IntWalk.i64_in _ (by omega)
        have ew' : IntKind.i64.wrap ((j : Int) * (q' : Int)) = (p' : Int) := by rw [hpi']; exact IntWalk.i64_in _ (by omega)
        obtain ⟨s, hs⟩ : ∃ s, p + q = s := ⟨_, rfl⟩
        obtain ⟨s', hs'⟩ : ∃ s', p' + q' = s' := ⟨_, rfl⟩
        have e3 : IntKind.i64.wrap ((p : Int) + (q : Int)) = (s : Int) := by
          have : (p : Int) + (q : Int) = (s : Int) := by omega
          rw [this]
          exact IntWalk.i64_in _ (by omega)
        have e3' : IntKind.i64.wrap ((p' : Int) + (q' : Int)) = (s' : Int) := by
          have : (p' : Int) + (q' : Int) = (s' : Int) := by omega
          rw [this]
          exact IntWalk.i64_in _ (by omega)
        have u0 : (0 : Int) ≤ (s : Int) := by omega
        have u1 : (s : Int) ≤ (c : Int) := by omega
        have u2 : p ≤ s := by omega
        have u3 : s - p = q := by omega
        have u0' : (0 : Int) ≤ (s' : Int) := by omega
        have u1' : (s' : Int) ≤ (c' : Int) := by omega
        have u2' : p' ≤ s' := by omega
        have u3' : s' - p' = q' := by omega
        have k0 : wr.drew.cell? ⟨w.heap.size, 4, none⟩ = some (.slice A n c) := E0.cell 4
        have k1 : wr.drew.cell? ⟨w.heap.size + 1, 4, none⟩ = some (.slice A' n' c') := E1.cell 4
        have hbase := hbr.size
        clear hp hp' hpi hpi' hs hs' hst
        go_wp2_with fail
        go_region_held3 (fun w' => w'.cell? ⟨w.heap.size, 4, none⟩ = some (.slice A n c) ∧ w'.cell? ⟨w.heap.size + 1, 4, none⟩ = some (.slice A' n' c'))
          (with_reducible first | exact ⟨k0, k1⟩ | exact ⟨k2, k3⟩ | exact ⟨k4, k5⟩)
          (first
            | (refine step_append_sl rfl _ _ rfl rfl w4.heap.size (.slice V N vc) N (catL xs ys q q' (List.range j)) rfl HO.out.drew _ q (c - p) ((xs.drop p).take q) rfl (S1.out.step (bdr b0)) (by omega) hbase ?_; intro A1 c1' W1 hG1; have HG1 := Lib.hid hG1; have B1 : Below w4.heap.size w4 W1 := hG1.below (bdr hbr) (fun k hk => (HO.out.drew.lt k hk).1); have k2 : W1.cell? ⟨w.heap.size, 4, none⟩ = some (.slice A n c) := (Bx.step U0 B1).cell 4; have k3 : W1.cell? ⟨w.heap.size + 1, 4, none⟩ = some (.slice A' n' c') := (Bx.step U1 B1).cell 4; have B1s := B1.size; clear hG1)
            | (refine step_append_sl rfl _ _ rfl rfl w4.heap.size (.slice A1 (N + q) c1') (N + q) _ rfl HG1.out.1 _ q' (c' - p') ((ys.drop p').take q') rfl (S2.out.step (bst b4 B1)) (by omega) B1s ?_; intro A2 c2' W2 hG2; have HG2 := Lib.hid hG2; have B2 : Below w4.heap.size w4 W2 := hG2.below B1 (fun k hk => (HG1.out.1.lt k hk).1); have k4 : W2.cell? ⟨w.heap.size, 4, none⟩ = some (.slice A n c) := (Bx.step U0 B2).cell 4; have k5 : W2.cell? ⟨w.heap.size + 1, 4, none⟩ = some (.slice A' n' c') := (Bx.step U1 B2).cell 4; clear hG2))
        all_goals
          go_wp2
          refine ⟨⟨j + 1, A2, N + q + q', c2', by omega, rfl, rfl, B2, Lib.hid (by have := HNN.out; rw [Nat.succ_mul]; omega), ?_⟩, ?_⟩
          · rw [← HST.out]; exact Lib.hid HG2.out.1
          · simp only [intOf]; omega
      · obtain rfl : j = m := by omega
        obtain ⟨_, _, hv, hSV, _⟩ := Sl.of_own HO.out
        cases hv
        have d0 : ∀ i, wr.cell? ⟨w.heap.size, i, none⟩ = _ := Bx.cell E0
        have SV := Lib.hid hSV
        have hbz := hbr.size
        clear hSV
        rcases HRR.out with ⟨hr1, hR⟩ | ⟨hr1, hR⟩
        · have HR := Lib.hid hR
          clear hR
          go_wp2_with fail
          refine (rVector_any k V N vc _ _ SV.out (by omega)).mono ?_
          rintro e w5 ⟨⟨A3, n3, c3, rfl, hS3, hN3⟩, hb5⟩
          have B3 : Below w4.heap.size w4 w5 := bst hbr hb5
          have g1 : ∀ i, w5.cell? ⟨w.heap.size + 1 + 1, i, none⟩ = _ := (Bx.step U2 B3).cell
          have k1 : ∀ i, w5.frozen? ⟨w.heap.size + 1 + 1, i, none⟩ = false := (Bx.step U2 B3).frozen
          have HS3 := Lib.hid hS3
          have hm3 := hN3.mono (Nat.le_trans b4.size hbz)
          have M3 : ∀ b o, A3 = some ⟨b, o, none⟩ → b ≠ w.heap.size + 1 + 1 := fun b o e => by have := hN3 b o none e; omega
          clear hS3 hb5 hN3
          go_wp2
          refine retAE (B := w.heap.size + 1 + 1) rfl rfl rfl rfl ((Bx.step U2 B3).set5 _ _ _ _ _) ?_
          exact RetA.mk (by rw [HR.out, ← HNN.out]) (HS3.out.past5 _ _ _ _ _ M3) hm3 (below_set5 (bst b4 B3) (by omega) _ _ _ _ _)
        · have HR := Lib.hid hR
          clear hR
          go_wp2_with fail
          refine (rMatrix_any k j ((q : Int) + (q' : Int)) V N vc _ _ SV.out (by omega)).mono ?_
          rintro e w5 ⟨⟨A3, n3, c3, rfl, hS3, hN3⟩, hb5⟩
          have B3 : Below w4.heap.size w4 w5 := bst hbr hb5
          have g1 : ∀ i, w5.cell? ⟨w.heap.size + 1 + 1, i, none⟩ = _ := (Bx.step U2 B3).cell
          have k1 : ∀ i, w5.frozen? ⟨w.heap.size + 1 + 1, i, none⟩ = false := (Bx.step U2 B3).frozen
          have HS3 := Lib.hid hS3
          have hm3 := hN3.mono (Nat.le_trans b4.size hbz)
          have M3 : ∀ b o, A3 = some ⟨b, o, none⟩ → b ≠ w.heap.size + 1 + 1 := fun b o e => by have := hN3 b o none e; omega
          clear hS3 hb5 hN3
          go_wp2
          refine retAE (B := w.heap.size + 1 + 1) rfl rfl rfl rfl ((Bx.step U2 B3).set5 _ _ _ _ _) ?_
          exact RetA.mk (by rw [HR.out]) (HS3.out.past5 _ _ _ _ _ M3) hm3 (below_set5 (bst b4 B3) (by omega) _ _ _ _ _)
end Go.Proofs.Ytoapgknkenlcgaa

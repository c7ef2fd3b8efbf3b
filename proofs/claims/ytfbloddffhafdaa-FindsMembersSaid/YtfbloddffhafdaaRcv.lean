/-
  The reference's Cat of two vectors.
-/
import Derived.Test.YtfbloddffhafdaaRsi
import Derived.Test.YtfbloddffhafdaaFok
import Derived.Deep.RegionHeld3
namespace Go.Proofs.Ytfbloddffhafdaa
open Go.RowKit

/-- A cut of a slice: s[p:p+q]. -/
theorem Sl.cut {w : World} {A : Option Addr} {n c p q : Nat} {xs : List Int} (h : Sl w A n c xs) (hq : p + q ≤ n) : Sl w (if c = p then A else A.map (·.add p)) q (c - p) ((xs.drop p).take q) :=
  (h.from (by omega)).to (by omega)
set_option maxHeartbeats 400000 in
theorem rrowsv (k l0 l1 : Int) (A : Option Addr) (n c : Nat) (w : World) : Calls Try.prog 45 #[.agg #[.int .i64 k, .int .i64 1, .int .i64 l0, .int .i64 l1, .slice A n c]] w fun e w' => e = .returned (.tuple #[.int .i64 1, .int .i64 n]) ∧ Below w.heap.size w w' := by
  go_enter Try.func45, Try.ntmps45
  go_wp2
  go_quiet (fail)
  go_wp2
  go_ret2
  exact ⟨rfl, bdn (bal (Below.refl _ _) _) _⟩
def catV (xs ys : List Int) (j : Nat) : List Int := if j = 0 then [] else xs ++ ys
set_option maxHeartbeats 1000000 in
theorem rcatv_big (k l0 l1 : Int) (A : Option Addr) (n c : Nat) (xs : List Int) (l0' l1' : Int) (A' : Option Addr) (n' c' : Nat) (ys : List Int) (R : Arr × Int) (w : World) (hs : Sl w A n c xs) (hs' : Sl w A' n' c' ys)
    (h1 : achk k 1 l0 l1 xs = 0) (h2 : achk k 1 l0' l1' ys = 0) (hb : 400 < n + n') (hR : R = (⟨0, 0, 0, 0, []⟩, 15)) :
    Calls Try.prog 30 #[.agg #[.int .i64 k, .int .i64 1, .int .i64 l0, .int .i64 l1, .slice A n c], .agg #[.int .i64 k, .int .i64 1, .int .i64 l0', .int .i64 l1', .slice A' n' c']] w (RetA w R) := by
  have HE1 := Lib.hid h1
  have HE2 := Lib.hid h2
  have HS := Lib.hid hs
  have HS' := Lib.hid hs'
  have HR := Lib.hid hR.symm
  have hn : n ≤ 400 := by rw [← hs.len]; exact achk_len h1
  have hn' : n' ≤ 400 := by rw [← hs'.len]; exact achk_len h2
  have hkk : (k != k) = false := by simp
  obtain ⟨z, hz⟩ : ∃ z, z = n + n' := ⟨_, rfl⟩
  have ez : (n : Int) + (n' : Int) = (z : Int) := by omega
  have hd : (400 : Int) < (z : Int) := by omega
  have wz : (z : Int) ≤ 9223372036854775807 := by omega
  clear hs hs' h1 h2 hz hb hR
  go_enter Try.func30, Try.ntmps30
  go_wp2_with fail
  refine (racheck_any _ _ _ _ _ _ _ xs _ _ (HS.out.step (below3 _ _ _ _)) HE1.out).mono ?_
  rintro e w1 ⟨rfl, hb1⟩
  obtain ⟨X0, X1, X2, b1⟩ := after3 hb1
  have c0 : ∀ i, w1.cell? ⟨w.heap.size, i, none⟩ = _ := Bx.cell X0
  have c1 : ∀ i, w1.cell? ⟨w.heap.size + 1, i, none⟩ = _ := Bx.cell X1
  clear hb1
  go_wp2_with fail
  refine (racheck_any _ _ _ _ _ _ _ ys _ _ (HS'.out.step b1) HE2.out).mono ?_
  rintro e w2 ⟨rfl, hb2⟩
  have b2 := bst b1 hb2
  replace X0 := Bx.step X0 hb2
  replace X1 := Bx.step X1 hb2
  replace X2 := Bx.step X2 hb2
  clear c0 c1 hb2
  have c0 : ∀ i, w2.cell? ⟨w.heap.size, i, none⟩ = _ := Bx.cell X0
  have c1 : ∀ i, w2.cell? ⟨w.heap.size + 1, i, none⟩ = _ := Bx.cell X1
  have g2 : ∀ i, w2.cell? ⟨w.heap.size + 1 + 1, i, none⟩ = _ := Bx.cell X2
  have f2 : ∀ i, w2.frozen? ⟨w.heap.size + 1 + 1, i, none⟩ = false := Bx.frozen X2
  have q2 := Bx.lt X2
  go_wp2
  refine retAE (B := w.heap.size + 1 + 1) rfl rfl rfl rfl (Bx.set5 X2 _ _ _ _ _) ?_
  exact RetA.mk HR.out.symm (Sl.nil _) (fun _ _ _ h => by cases h) (below_set5 b2 (by omega) _ _ _ _ _)
set_option maxHeartbeats 2000000 in
theorem rcatv_ok (k l0 l1 : Int) (A : Option Addr) (n c : Nat) (xs : List Int) (l0' l1' : Int) (A' : Option Addr) (n' c' : Nat) (ys : List Int) (w : World) (hs : Sl w A n c xs) (hs' : Sl w A' n' c' ys)
    (h1 : achk k 1 l0 l1 xs = 0) (h2 : achk k 1 l0' l1' ys = 0) (hb : ¬ 400 < n + n') :
    Calls Try.prog 30 #[.agg #[.int .i64 k, .int .i64 1, .int .i64 l0, .int .i64 l1, .slice A n c], .agg #[.int .i64 k, .int .i64 1, .int .i64 l0', .int .i64 l1', .slice A' n' c']] w (RetA w (⟨k, 1, ((n + n' : Nat) : Int), 0, xs ++ ys⟩, 0)) := by
  have HE1 := Lib.hid h1
  have HE2 := Lib.hid h2
  have HS := Lib.hid hs
  have HS' := Lib.hid hs'
  have hl := hs.len
  have hl' := hs'.len
  have HL := Lib.hid hl
  have HL' := Lib.hid hl'
  have hcap := hs.cap
  have hmost := hs.most
  have hcap' := hs'.cap
  have hmost' := hs'.most
  have hkk : (k != k) = false := by simp
  have hl1 := (vec_ok h1).2.2.1
  have hl1' := (vec_ok h2).2.2.1
  subst hl1 hl1'
  obtain ⟨z, hz⟩ : ∃ z, z = n + n' := ⟨_, rfl⟩
  have ez : (n : Int) + (n' : Int) = (z : Int) := by omega
  have hd : decide ((400 : Int) < (z : Int)) = false := decide_eq_false (by omega)
  have hd' : decide (400 < z) = false := decide_eq_false (by omega)
  have wz : (z : Int) ≤ 9223372036854775807 := by omega
  have hn400 : n ≤ 400 := by omega
  have hn400' : n' ≤ 400 := by omega
  rw [← hz]
  have HZ := Lib.hid hz
  clear hs hs' h1 h2 hz hb hl hl'
  go_enter Try.func30, Try.ntmps30
  go_wp2_with fail
  refine (racheck_any _ _ _ _ _ _ _ xs _ _ (HS.out.step (below3 _ _ _ _)) HE1.out).mono ?_
  rintro e w1 ⟨rfl, hb1⟩
  obtain ⟨X0, X1, X2, b1⟩ := after3 hb1
  have c0 : ∀ i, w1.cell? ⟨w.heap.size, i, none⟩ = _ := Bx.cell X0
  have c1 : ∀ i, w1.cell? ⟨w.heap.size + 1, i, none⟩ = _ := Bx.cell X1
  clear hb1
  go_wp2_with fail
  refine (racheck_any _ _ _ _ _ _ _ ys _ _ (HS'.out.step b1) HE2.out).mono ?_
  rintro e w2 ⟨rfl, hb2⟩
  have b2 := bst b1 hb2
  replace X0 := Bx.step X0 hb2
  replace X1 := Bx.step X1 hb2
  replace X2 := Bx.step X2 hb2
  clear c0 c1 hb2
  have c0 : ∀ i, w2.cell? ⟨w.heap.size, i, none⟩ = _ := Bx.cell X0
  have c1 : ∀ i, w2.cell? ⟨w.heap.size + 1, i, none⟩ = _ := Bx.cell X1
  clear HE1 HE2
  go_wp2_with fail
  refine (rrowsv _ _ _ _ _ _ _).mono ?_
  rintro e w3 ⟨rfl, hb3⟩
  replace X0 := Bx.step X0 hb3
  replace X1 := Bx.step X1 hb3
  replace X2 := Bx.step X2 hb3
  have b3 := bst b2 hb3
  clear c0 c1 b2 hb3 b1
  have c1 : ∀ i, w3.cell? ⟨w.heap.size + 1, i, none⟩ = _ := Bx.cell X1
  go_wp2_with fail
  refine (rrowsv _ _ _ _ _ _ _).mono ?_
  rintro e w4 ⟨rfl, hb4⟩
  have U0 := Bx.step X0 hb4
  have U1 := Bx.step X1 hb4
  have U2 := Bx.step X2 hb4
  have b4 := bst b3 hb4
  clear c1 X0 X1 X2 b3 hb4 ez hd hd' wz hkk
  have q4 := Bx.lt U2
  go_wp2
  go_loopw [7, 12] (fun v e wr => ∃ (j : Nat) (V : Option Addr) (N vc : Nat), j ≤ 1 ∧ v = .slice V N vc ∧ e = .int .i64 j ∧ Below w4.heap.size w4 wr ∧ Hid (N = j * z) ∧ Hid (wr.ownsRow w4.heap.size 2 1 (.slice V N vc) N ((catV xs ys j).map (Value.int .i64)))) (fun _ e _ => 1 - (intOf e).toNat)
  case atStart => exact ⟨0, none, 0, 0, Nat.zero_le _, rfl, rfl, Below.refl _ _, Lib.hid (by simp), Lib.hid (World.ownsRow_nil _ _ _ _)⟩
  case round =>
    obtain ⟨j, V, N, vc, hj, rfl, rfl, hbr, HNN, HO⟩ := hrel
    have E0 := Bx.step U0 hbr
    have E1 := Bx.step U1 hbr
    have b0 : Below w.heap.size w wr := bst b4 hbr
    by_cases hlt : j < 1
    · have j1 : (j : Int) < 1 := by omega
      have hj0 : j = 0 := by omega
      have hNb : N = 0 := by have := HNN.out; rw [hj0] at this; omega
      obtain ⟨p, hp⟩ : ∃ p, j * n = p := ⟨_, rfl⟩
      obtain ⟨p', hp'⟩ : ∃ p', j * n' = p' := ⟨_, rfl⟩
      have hp0 : p = 0 := by rw [← hp, hj0]; simp
      have hp0' : p' = 0 := by rw [← hp', hj0]; simp
      have S1 := Lib.hid (HS.out.cut (p := p) (q := n) (by omega))
      have S2 := Lib.hid (HS'.out.cut (p := p') (q := n') (by omega))
      have hst : catV xs ys j ++ (xs.drop p).take n ++ (ys.drop p').take n' = catV xs ys (j + 1) := by
        rw [hj0, hp0, hp0']
        simp [catV, List.take_of_length_le, HL.out, HL'.out]
      have HST := Lib.hid hst
      have hpi : (j : Int) * (n : Int) = (p : Int) := by rw [← hp]; simp
      have hpi' : (j : Int) * (n' : Int) = (p' : Int) := by rw [← hp']; simp
      have ew : IntKind.i64.wrap ((j : Int) * (n : Int)) = (p : Int) := by rw [hpi]; exact IntWalk.i64_in _ (by omega)
      have ew' : IntKind.i64.wrap ((j : Int) * (n' : Int)) = (p' : Int) := by rw [hpi']; exact IntWalk.i64_in _ (by omega)
      obtain ⟨s, hs⟩ : ∃ s, p + n = s := ⟨_, rfl⟩
      obtain ⟨s', hs'⟩ : ∃ s', p' + n' = s' := ⟨_, rfl⟩
      have e3 : IntKind.i64.wrap ((p : Int) + (n : Int)) = (s : Int) := by
        have : (p : Int) + (n : Int) = (s : Int) := by omega
        rw [this]
        exact IntWalk.i64_in _ (by omega)
      have e3' : IntKind.i64.wrap ((p' : Int) + (n' : Int)) = (s' : Int) := by
        have : (p' : Int) + (n' : Int) = (s' : Int) := by omega
        rw [this]
        exact IntWalk.i64_in _ (by omega)
      have u0 : (0 : Int) ≤ (s : Int) := by omega
      have u1 : (s : Int) ≤ (c : Int) := by omega
      have u2 : p ≤ s := by omega
      have u3 : s - p = n := by omega
      have u0' : (0 : Int) ≤ (s' : Int) := by omega
      have u1' : (s' : Int) ≤ (c' : Int) := by omega
      have u2' : p' ≤ s' := by omega
      have u3' : s' - p' = n' := by omega
      have k0 : wr.drew.cell? ⟨w.heap.size, 4, none⟩ = some (.slice A n c) := E0.cell 4
      have k1 : wr.drew.cell? ⟨w.heap.size + 1, 4, none⟩ = some (.slice A' n' c') := E1.cell 4
      have hbase := hbr.size
      have HN0 := Lib.hid hNb
      have HJ0 := Lib.hid hj0
      clear hp hp' hpi hpi' hs hs' hst hp0 hp0' hj0 hNb
      go_wp2_with fail
      go_region_held3 (fun w' => w'.cell? ⟨w.heap.size, 4, none⟩ = some (.slice A n c) ∧ w'.cell? ⟨w.heap.size + 1, 4, none⟩ = some (.slice A' n' c'))
        (with_reducible first | exact ⟨k0, k1⟩ | exact ⟨k2, k3⟩ | exact ⟨k4, k5⟩)
        (first
          | (refine step_append_sl rfl _ _ rfl rfl w4.heap.size (.slice V N vc) N (catV xs ys j) rfl HO.out.drew _ n (c - p) ((xs.drop p).take n) rfl (S1.out.step (bdr b0)) (by have := HN0.out; omega) hbase ?_; intro A1 c1' W1 hG1; have HG1 := Lib.hid hG1; have B1 : Below w4.heap.size w4 W1 := hG1.below (bdr hbr) (fun k hk => (HO.out.drew.lt k hk).1); have k2 : W1.cell? ⟨w.heap.size, 4, none⟩ = some (.slice A n c) := (Bx.step U0 B1).cell 4; have k3 : W1.cell? ⟨w.heap.size + 1, 4, none⟩ = some (.slice A' n' c') := (Bx.step U1 B1).cell 4; have B1s := B1.size; clear hG1)
          | (refine step_append_sl rfl _ _ rfl rfl w4.heap.size (.slice A1 (N + n) c1') (N + n) _ rfl HG1.out.1 _ n' (c' - p') ((ys.drop p').take n') rfl (S2.out.step (bst b4 B1)) (by have := HN0.out; omega) B1s ?_; intro A2 c2' W2 hG2; have HG2 := Lib.hid hG2; have B2 : Below w4.heap.size w4 W2 := hG2.below B1 (fun k hk => (HG1.out.1.lt k hk).1); have k4 : W2.cell? ⟨w.heap.size, 4, none⟩ = some (.slice A n c) := (Bx.step U0 B2).cell 4; have k5 : W2.cell? ⟨w.heap.size + 1, 4, none⟩ = some (.slice A' n' c') := (Bx.step U1 B2).cell 4; clear hG2))
      all_goals
        go_wp2
        refine ⟨⟨j + 1, A2, N + n + n', c2', by omega, rfl, rfl, B2, Lib.hid (by rw [HJ0.out, HN0.out, HZ.out]; simp), ?_⟩, ?_⟩
        · rw [← HST.out]; exact Lib.hid HG2.out.1
        · simp only [intOf]; omega
    · obtain rfl : j = 1 := by omega
      have hO := HO.out
      have hcv : catV xs ys 1 = xs ++ ys := rfl
      rw [hcv] at hO
      obtain ⟨A3, c3, hv, hSV, _⟩ := Sl.of_own hO
      obtain ⟨rfl, rfl⟩ : V = A3 ∧ vc = c3 := by simpa using hv
      have d0 : ∀ i, wr.cell? ⟨w.heap.size, i, none⟩ = _ := Bx.cell E0
      have SV := Lib.hid hSV
      have hbz := hbr.size
      have hNz : N = z := by have := HNN.out; omega
      subst hNz
      clear hSV hO hv hcv
      go_wp2_with fail
      refine (rVector_any k V N vc _ _ SV.out (by have := HZ.out; omega)).mono ?_
      rintro e w5 ⟨⟨A3, n3, c3, rfl, hS3, hN3⟩, hb5⟩
      have B3 : Below w4.heap.size w4 w5 := bst hbr hb5
      have g1 : ∀ i, w5.cell? ⟨w.heap.size + 1 + 1, i, none⟩ = _ := (Bx.step U2 B3).cell
      have k1 : ∀ i, w5.frozen? ⟨w.heap.size + 1 + 1, i, none⟩ = false := (Bx.step U2 B3).frozen
      have HS3 := Lib.hid hS3
      have hm3 := hN3.mono (Nat.le_trans b4.size hbz)
      have M3 : ∀ b o, A3 = some ⟨b, o, none⟩ → b ≠ w.heap.size + 1 + 1 := fun b o e => by have := hN3 b o none e; omega
      clear hS3 hb5 hN3
      go_wp2
      refine retAE (B := w.heap.size + 1 + 1) rfl rfl rfl rfl ((Bx.step U2 B3).set5 _ _ _ _ _) ?_
      exact RetA.mk rfl (HS3.out.past5 _ _ _ _ _ M3) hm3 (below_set5 (bst b4 B3) (by omega) _ _ _ _ _)
end Go.Proofs.Ytfbloddffhafdaa

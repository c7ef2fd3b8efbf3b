/-
  The reference's Flip.
-/
import Derived.Test.YtoapgknkenlcgaaRrev
import Derived.Test.YtoapgknkenlcgaaRfil
namespace Go.Proofs.Ytoapgknkenlcgaa
open Go.RowKit

/-- The first j columns of a matrix, one behind the other. -/
def flU (m q : Nat) (xs : List Int) (j : Nat) : List Int := (List.range j).flatMap fun j => (List.range m).map fun i => xs.getD (i * q + j) 0
def colU (q : Nat) (xs : List Int) (j i : Nat) : List Int := (List.range i).map fun i => xs.getD (i * q + j) 0
theorem flU_succ (m q : Nat) (xs : List Int) (j : Nat) : flU m q xs j ++ colU q xs j m = flU m q xs (j + 1) := (flat_succ j _).symm
theorem colU_succ (q : Nat) (xs : List Int) (j i : Nat) : colU q xs j i ++ [xs.getD (i * q + j) 0] = colU q xs j (i + 1) := by simp [colU, List.range_succ]
theorem flU_len (m q : Nat) (xs : List Int) (j : Nat) : (flU m q xs j).length = j * m := flat_len (by simp)

set_option maxHeartbeats 4000000 in
theorem rFlip_err (k r l0 l1 : Int) (A : Option Addr) (n c : Nat) (xs : List Int) (R : Arr × Int) (w : World)
    (hs : Sl w A n c xs) (h : sFlip ⟨k, r, l0, l1, xs⟩ = R) (he : achk k r l0 l1 xs ≠ 0 ∨ r ≠ 2) :
    Calls Try.prog 34 #[.agg #[.int .i64 k, .int .i64 r, .int .i64 l0, .int .i64 l1, .slice A n c]] w (RetA w R) := by
  have HS := Lib.hid hs
  by_cases h0 : achk k r l0 l1 xs = 0
  · have hr2 : r ≠ 2 := he.resolve_left (fun h => h h0)
    have hR : (zA, 22) = R := by rw [← h]; unfold sFlip chkA; rw [if_neg (fun h' => h' h0)]; exact (if_pos hr2).symm
    have HR := Lib.hid hR
    have H0 := Lib.hid h0
    have hr : (r != 2) = true := by simpa using hr2
    clear h h0 hs hR he hr2
    go_enter Try.func34, Try.ntmps34
    go_wp2_with fail
    refine (racheck_any _ _ _ _ _ _ _ xs _ _ (HS.out.step (below2 _ _ _)) H0.out).mono ?_
    rintro e w1 ⟨rfl, hb1⟩
    obtain ⟨X0, X1, b1⟩ := after2 hb1
    clear hb1
    have q1 := Bx.lt X1
    have c0 : ∀ i, w1.cell? ⟨w.heap.size, i, none⟩ = _ := Bx.cell X0
    have c1 : ∀ i, w1.cell? ⟨w.heap.size + 1, i, none⟩ = _ := Bx.cell X1
    have f1 : ∀ i, w1.frozen? ⟨w.heap.size + 1, i, none⟩ = false := Bx.frozen X1
    go_wp2
    refine retAE (B := w.heap.size + 1) rfl rfl rfl rfl (Bx.set5 X1 _ _ _ _ _) ?_
    exact RetA.mk HR.out.symm (Sl.nil _) (fun _ _ _ h => by cases h) (below_set5 b1 (by omega) _ _ _ _ _)
  · have he : (zA, achk k r l0 l1 xs) = R := by
      rw [← h]; exact (if_pos h0).symm
    obtain ⟨ec, hec⟩ : ∃ ec, achk k r l0 l1 xs = ec := ⟨_, rfl⟩
    rw [hec] at h0 he
    have HEC := Lib.hid hec
    have HR := Lib.hid he
    have hne : (ec != 0) = true := by simpa using h0
    have hne' : (ec == 0) = false := by simpa using h0
    clear hec h0 he h hs
    go_enter Try.func34, Try.ntmps34
    go_wp2_with fail
    refine (racheck_any _ _ _ _ _ _ _ xs _ _ (HS.out.step (below2 _ _ _)) HEC.out).mono ?_
    rintro e w1 ⟨rfl, hb1⟩
    obtain ⟨X0, X1, b1⟩ := after2 hb1
    clear hb1
    have q1 := Bx.lt X1
    have c0 : ∀ i, w1.cell? ⟨w.heap.size, i, none⟩ = _ := Bx.cell X0
    have c1 : ∀ i, w1.cell? ⟨w.heap.size + 1, i, none⟩ = _ := Bx.cell X1
    have f1 : ∀ i, w1.frozen? ⟨w.heap.size + 1, i, none⟩ = false := Bx.frozen X1
    go_wp2
    refine retAE (B := w.heap.size + 1) rfl rfl rfl rfl (Bx.set5 X1 _ _ _ _ _) ?_
    exact RetA.mk HR.out.symm (Sl.nil _) (fun _ _ _ h => by cases h) (below_set5 b1 (by omega) _ _ _ _ _)

set_option maxHeartbeats 8000000 in
theorem rFlip_ok (k : Int) (A : Option Addr) (n c q m : Nat) (xs : List Int) (w : World)
    (hs : Sl w A n c xs) (h0 : achk k 2 m q xs = 0) (hn : n = m * q) (hm : m ≤ 400) (hq : q ≤ 400) :
    Calls Try.prog 34 #[.agg #[.int .i64 k, .int .i64 2, .int .i64 m, .int .i64 q, .slice A n c]] w (RetA w (⟨k, 2, q, m, fl m q xs⟩, 0)) := by
  have hnb : n ≤ 160000 := by rw [hn]; exact Nat.mul_le_mul hm hq
  have HS := Lib.hid hs
  have H0 := Lib.hid h0
  have HN := Lib.hid hn
  clear hs h0 hn
  go_enter Try.func34, Try.ntmps34
  go_wp2_with fail
  refine (racheck_any _ _ _ _ _ _ _ xs _ _ (HS.out.step (below2 _ _ _)) H0.out).mono ?_
  rintro e w1 ⟨rfl, hb1⟩
  obtain ⟨X0, X1, b1⟩ := after2 hb1
  clear hb1
  have q1 := Bx.lt X1
  have c0 : ∀ i, w1.cell? ⟨w.heap.size, i, none⟩ = _ := Bx.cell X0
  have c1 : ∀ i, w1.cell? ⟨w.heap.size + 1, i, none⟩ = _ := Bx.cell X1
  have f1 : ∀ i, w1.frozen? ⟨w.heap.size + 1, i, none⟩ = false := Bx.frozen X1
  clear c1 f1
  go_wp2
  go_loopw [5, 6] (fun v e wr => ∃ (j : Nat) (V : Option Addr) (N vc : Nat), j ≤ q ∧ v = .slice V N vc ∧ e = .int .i64 j ∧ Below w1.heap.size w1 wr ∧ Hid (N = j * m) ∧ Hid (wr.ownsRow w1.heap.size 2 1 (.slice V N vc) N ((flU m q xs j).map (Value.int .i64)))) (fun _ e _ => q - (intOf e).toNat)
  case atStart => exact ⟨0, none, 0, 0, Nat.zero_le _, rfl, rfl, Below.refl _ _, Lib.hid (by simp), Lib.hid (World.ownsRow_nil _ _ _ _)⟩
  case round =>
    obtain ⟨j, V, N, vc, hj, rfl, rfl, hb, HNN, HO⟩ := hrel
    have d0 : ∀ i, wr.cell? ⟨w.heap.size, i, none⟩ = _ := Bx.cell (Bx.step X0 hb)
    by_cases hlt : j < q
    · have j1 : (j : Int) < (q : Int) := by omega
      go_wp2
      go_loopw [5, 7] (fun v e wr => ∃ (i : Nat) (V : Option Addr) (N vc : Nat), i ≤ m ∧ v = .slice V N vc ∧ e = .int .i64 i ∧ Below w1.heap.size w1 wr ∧ Hid (N = j * m + i) ∧ Hid (wr.ownsRow w1.heap.size 2 1 (.slice V N vc) N ((flU m q xs j ++ colU q xs j i).map (Value.int .i64)))) (fun _ e _ => m - (intOf e).toNat)
      case atStart => exact ⟨0, V, N, vc, Nat.zero_le _, rfl, rfl, hb, Lib.hid (by have := HNN.out; omega), Lib.hid (by have := HO.out; simpa [colU] using this)⟩
      case round =>
        clear HNN HO d0 hb
        obtain ⟨i, V, N, vc, hi', rfl, rfl, hb, HNN, HO⟩ := hrel
        have d0 : ∀ i, wr.cell? ⟨w.heap.size, i, none⟩ = _ := Bx.cell (Bx.step X0 hb)
        have b0 : Below w.heap.size w wr := bst b1 hb
        by_cases hlt2 : i < m
        · obtain ⟨P, hP⟩ : ∃ P, i * q = P := ⟨_, rfl⟩
          have hPm : P + q ≤ n := by
            have h1 := Nat.mul_le_mul_right q (show i + 1 ≤ m from hlt2)
            rw [Nat.succ_mul] at h1
            have := HN.out
            omega
          have hNb : N ≤ 200000 := by
            have h1 := HNN.out
            have h2 : j * m ≤ 400 * 400 := Nat.mul_le_mul (by omega) hm
            omega
          have hPi : (i : Int) * (q : Int) = (P : Int) := by rw [← hP]; simp
          obtain ⟨T, hT⟩ : ∃ T, T = P + j := ⟨_, rfl⟩
          obtain ⟨b, o, rfl, hbl, hcy⟩ := HS.out.at_ (k := T) (by omega)
          obtain ⟨y, hy⟩ : ∃ y, xs.getD T 0 = y := ⟨_, rfl⟩
          rw [hy] at hcy
          have dy : wr.cell? ⟨b, o + T, none⟩ = some (.int .i64 y) := (b0.cell (p := ⟨b, o + T, none⟩) hbl).trans hcy
          have hst : (flU m q xs j ++ colU q xs j i) ++ [y] = flU m q xs j ++ colU q xs j (i + 1) := by
            rw [List.append_assoc, ← colU_succ, ← hy, hT, hP]
          have HST := Lib.hid hst
          have HO1 := Lib.hid (HO.out.alloc (.cells #[.int .i64 y] 2))
          have HS1 := Lib.hid (slOne wr y)
          have HBZ := Lib.hid (show w1.heap.size ≤ (wr.alloc (.cells #[.int .i64 y] 2)).heap.size from (bal hb _).size)
          have e4 : IntKind.i64.wrap ((i : Int) * (q : Int)) = (P : Int) := by rw [hPi]; exact IntWalk.i64_in _ (by omega)
          have e5 : (P : Int) + (j : Int) = (T : Int) := by omega
          have t0 : (0 : Int) ≤ (T : Int) := by omega
          have t1 : (T : Int) < (n : Int) := by omega
          have i1 : (i : Int) < (m : Int) := by omega
          clear hP hPi hT hcy hy hst
          go_wp2_with (at_builtin; go_loud (refine wpList_append_sl rfl _ _ rfl rfl w1.heap.size _ N (flU m q xs j ++ colU q xs j i) rfl HO1.out (some ⟨wr.heap.size, 0, none⟩) 1 1 [y] rfl HS1.out (by omega) HBZ.out ?_); intro A2 c2' w2 hg)
          refine ⟨⟨i + 1, A2, N + 1, c2', by omega, rfl, rfl, hg.below (bal hb _) (fun k hk => (HO.out.lt k hk).1), Lib.hid (by have := HNN.out; omega), ?_⟩, ?_⟩
          · rw [← HST.out]; exact Lib.hid hg.1
          · simp only [intOf]; omega
        · obtain rfl : i = m := by omega
          go_wp2
          refine ⟨⟨j + 1, V, N, vc, by omega, rfl, rfl, hb, Lib.hid (by have := HNN.out; rw [Nat.succ_mul]; exact this), ?_⟩, ?_⟩
          · rw [← flU_succ]; exact HO
          · simp only [intOf]; omega
    · obtain rfl : j = q := by omega
      have hNb : N ≤ 200000 := by
        have h1 := HNN.out
        have h2 : j * m ≤ 400 * 400 := Nat.mul_le_mul (by omega) hm
        omega
      go_wp2_with fail
      obtain ⟨_, _, hv, hS, _⟩ := Sl.of_own HO.out
      cases hv
      refine (rMatrix_any k j m V N vc (flU m j xs j) _ hS (by omega)).mono ?_
      rintro e w3 ⟨⟨A3, n3, c3, rfl, hS3, hN3⟩, hb3⟩
      have B3 : Below w1.heap.size w1 w3 := bst hb hb3
      have g1 : ∀ i, w3.cell? ⟨w.heap.size + 1, i, none⟩ = _ := (Bx.step X1 B3).cell
      have k1 : ∀ i, w3.frozen? ⟨w.heap.size + 1, i, none⟩ = false := (Bx.step X1 B3).frozen
      have HS3 := Lib.hid hS3
      have hm3 := hN3.mono (Nat.le_trans b1.size hb.size)
      have M3 : ∀ b o, A3 = some ⟨b, o, none⟩ → b ≠ w.heap.size + 1 := fun b o e => by have := hN3 b o none e; have := hb.size; omega
      clear hS3 hS hb3 hN3
      go_wp2
      refine retAE (B := w.heap.size + 1) rfl rfl rfl rfl ((Bx.step X1 B3).set5 _ _ _ _ _) ?_
      exact RetA.mk rfl (HS3.out.past5 _ _ _ _ _ M3) hm3 (below_set5 (bst b1 B3) (by omega) _ _ _ _ _)
theorem rFlip_any (k r l0 l1 : Int) (A : Option Addr) (n c : Nat) (xs : List Int) (R : Arr × Int) (w : World)
    (hs : Sl w A n c xs) (h : sFlip ⟨k, r, l0, l1, xs⟩ = R) :
    Calls Try.prog 34 #[.agg #[.int .i64 k, .int .i64 r, .int .i64 l0, .int .i64 l1, .slice A n c]] w (RetA w R) := by
  by_cases he : achk k r l0 l1 xs ≠ 0 ∨ r ≠ 2
  · exact rFlip_err k r l0 l1 A n c xs R w hs h he
  · have h0 : achk k r l0 l1 xs = 0 := by
      by_cases h0 : achk k r l0 l1 xs = 0
      · exact h0
      · exact absurd (.inl h0) he
    have hr : r = 2 := by
      by_cases hr : r = 2
      · exact hr
      · exact absurd (.inr hr) he
    obtain ⟨m, q, hl, hm, hq, hc⟩ := rows_len h0 (by omega)
    rcases hc with ⟨h1, _⟩ | ⟨rfl, rfl, rfl⟩
    · omega
    rw [sFlip_ok h0] at h
    rw [← h]
    exact rFlip_ok k A n c q m xs w hs h0 (hs.len.symm.trans hl) hm hq
end Go.Proofs.Ytoapgknkenlcgaa

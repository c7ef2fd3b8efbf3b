/-
  The reference's Shape, Iota, has.
-/
import Derived.Test.YtfbloddffhafdaaRone
namespace Go.Proofs.Ytfbloddffhafdaa
open Go.RowKit

set_option maxHeartbeats 1000000 in
theorem rshape_any (k r l0 l1 : Int) (A : Option Addr) (n c : Nat) (xs : List Int) (R : Arr × Int) (w : World) (hs : Sl w A n c xs) (h : sShape ⟨k, r, l0, l1, xs⟩ = R) :
    Calls Try.prog 14 #[.agg #[.int .i64 k, .int .i64 r, .int .i64 l0, .int .i64 l1, .slice A n c]] w (RetA w R) := by
  obtain ⟨ec, hec⟩ : ∃ ec, achk k r l0 l1 xs = ec := ⟨_, rfl⟩
  unfold sShape chkA at h
  simp only [hec] at h
  have HE := Lib.hid hec
  have HS := Lib.hid hs
  clear hs
  by_cases h0 : ec = 0
  · subst h0
    rw [if_neg (fun g => g rfl)] at h
    have hsh := (achk_ok hec).2.1
    obtain ⟨m, hm, hm2⟩ : ∃ m : Nat, r = (m : Int) ∧ m ≤ 2 := by
      rcases shp_ok hsh with ⟨h1, _⟩ | ⟨h1, _⟩ | ⟨h1, _⟩
      · exact ⟨0, h1, by omega⟩
      · exact ⟨1, h1, by omega⟩
      · exact ⟨2, h1, by omega⟩
    subst hm
    rw [Int.toNat_natCast] at h
    have HR := Lib.hid h
    clear hec h hsh
    go_enter Try.func14, Try.ntmps14
    go_wp2_with fail
    refine (racheck_any _ _ _ _ _ _ _ xs _ _ (HS.out.step (below2 _ _ _)) HE.out).mono ?_
    rintro e w1 ⟨rfl, hb1⟩
    obtain ⟨X0, X1, b1⟩ := after2 hb1
    clear hb1
    have c0 : ∀ i, w1.cell? ⟨w.heap.size, i, none⟩ = _ := Bx.cell X0
    have B0lt := b1.size
    obtain ⟨B0, hB0⟩ : ∃ B0, w1.heap.size = B0 := ⟨_, rfl⟩
    rw [hB0] at B0lt
    have b1' := b1
    have HX0 := Lib.hid X0
    have HX1 := Lib.hid X1
    have hB1 : B0 ≤ w1.heap.size := by omega
    clear hB0 X0 X1
    go_wp2
    clear c0
    go_loopw [5, 6] (fun v i wr => ∃ (j : Nat) (V : Option Addr) (vc : Nat), i = .int .i64 j ∧ v = .slice V j vc ∧ j ≤ m ∧ Hid (wr.ownsRow B0 2 1 (.slice V j vc) j (([l0, l1].take j).map (Value.int .i64))) ∧ Below w.heap.size w wr ∧ Hid (Bx wr w.heap.size #[.int .i64 k, .int .i64 (m : Int), .int .i64 l0, .int .i64 l1, .slice A n c] 25) ∧ Hid (Bx wr (w.heap.size + 1) #[.int .i64 0, .int .i64 0, .int .i64 0, .int .i64 0, .slice none 0 0] 25) ∧ B0 ≤ wr.heap.size) (fun _ i _ => m - (intOf i).toNat)
    case atStart => exact ⟨0, none, 0, rfl, rfl, Nat.zero_le _, Lib.hid (by simpa using World.ownsRow_nil _ _ _ _), b1', HX0, HX1, hB1⟩
    case round =>
      clear HX0 HX1 hB1 b1 b1'
      obtain ⟨j, V, vc, rfl, rfl, hj, HO, hb, Y0, Y1, hz⟩ := hrel
      have d0 : ∀ i, wr.cell? ⟨w.heap.size, i, none⟩ = _ := Bx.cell Y0.out
      by_cases hlt : j < m
      · have k1 : (j : Int) < (m : Int) := by omega
        rcases (show j = 0 ∨ j = 1 by omega) with rfl | rfl
        · have HO1 := Lib.hid (HO.out.alloc (.cells #[.int .i64 l0] 2))
          have HS1 := Lib.hid (slOne wr l0)
          have HZ := Lib.hid (show B0 ≤ (wr.alloc (.cells #[.int .i64 l0] 2)).heap.size by simp; omega)
          go_wp2_with (at_builtin; refine wpList_append_sl rfl _ _ rfl rfl B0 _ 0 ([l0,l1].take 0) rfl HO1.out (some ⟨wr.heap.size, 0, none⟩) 1 1 [l0] rfl HS1.out (by omega) HZ.out ?_)
          intro A2 c2 w2 hg
          have U0 := Lib.hid (Bx.grown (Bx.alloc Y0.out _) hg.2.2 (own_row_ne HO1.out (Bx.alloc Y0.out _) (by decide)))
          have U1 := Lib.hid (Bx.grown (Bx.alloc Y1.out _) hg.2.2 (own_row_ne HO1.out (Bx.alloc Y1.out _) (by decide)))
          have b2 : Below w.heap.size w w2 := hg.below (bal hb _) (fun k hk => by have := (HO1.out.lt k hk).1; omega)
          have HG := Lib.hid (show w2.ownsRow B0 2 1 (.slice A2 (0 + 1) c2) (0 + 1) ((([l0,l1].take 0) ++ [l0]).map (Value.int .i64)) from hg.1)
          have hz2 := Nat.le_trans HZ.out hg.2.2.size
          clear hg
          clear d0
          go_wp2
          refine ⟨⟨1, A2, c2, rfl, rfl, by omega, Lib.hid (by simpa using HG.out), b2, U0, U1, hz2⟩, ?_⟩
          simp [intOf]; omega
        · have HO1 := Lib.hid (HO.out.alloc (.cells #[.int .i64 l1] 2))
          have HS1 := Lib.hid (slOne wr l1)
          have HZ := Lib.hid (show B0 ≤ (wr.alloc (.cells #[.int .i64 l1] 2)).heap.size by simp; omega)
          go_wp2_with (at_builtin; refine wpList_append_sl rfl _ _ rfl rfl B0 _ 1 ([l0,l1].take 1) rfl HO1.out (some ⟨wr.heap.size, 0, none⟩) 1 1 [l1] rfl HS1.out (by omega) HZ.out ?_)
          intro A2 c2 w2 hg
          have U0 := Lib.hid (Bx.grown (Bx.alloc Y0.out _) hg.2.2 (own_row_ne HO1.out (Bx.alloc Y0.out _) (by decide)))
          have U1 := Lib.hid (Bx.grown (Bx.alloc Y1.out _) hg.2.2 (own_row_ne HO1.out (Bx.alloc Y1.out _) (by decide)))
          have b2 : Below w.heap.size w w2 := hg.below (bal hb _) (fun k hk => by have := (HO1.out.lt k hk).1; omega)
          have HG := Lib.hid (show w2.ownsRow B0 2 1 (.slice A2 (1 + 1) c2) (1 + 1) ((([l0,l1].take 1) ++ [l1]).map (Value.int .i64)) from hg.1)
          have hz2 := Nat.le_trans HZ.out hg.2.2.size
          clear hg
          clear d0
          go_wp2
          refine ⟨⟨2, A2, c2, rfl, rfl, by omega, Lib.hid (by simpa using HG.out), b2, U0, U1, hz2⟩, ?_⟩
          simp [intOf]; omega
      · obtain rfl : j = m := by omega
        go_wp2_with fail
        have hO := HO.out
        obtain ⟨A3, c3, hv, hS, _⟩ := Sl.of_own hO
        obtain ⟨rfl, rfl⟩ : V = A3 ∧ vc = c3 := by simpa using hv
        have HSS := Lib.hid hS
        clear hO hv hS
        refine (rVector_any 1 V j vc ([l0,l1].take j) _ HSS.out (by omega)).mono ?_
        rintro e w3 ⟨⟨A4, n4, c4, rfl, hS4, hN4⟩, hb3⟩
        have b3 := bst hb hb3
        have X1 := Bx.step Y1.out hb3
        have HS4 := Lib.hid hS4
        have hne := Lib.hid (fun (b : Nat) (o : Nat) (e : A4 = some ⟨b, o, none⟩) => (show b ≠ w.heap.size + 1 by have := hN4 b o none e; have := Bx.lt Y1.out; omega))
        have HN4 := Lib.hid (hN4.mono hb.size)
        have g1 : ∀ i, w3.cell? ⟨w.heap.size + 1, i, none⟩ = _ := Bx.cell X1
        have f1 : ∀ i, w3.frozen? ⟨w.heap.size + 1, i, none⟩ = false := Bx.frozen X1
        have q1 := Bx.lt X1
        clear hS4 hN4
        go_wp2
        refine retAE (B := w.heap.size + 1) rfl rfl rfl rfl (Bx.set5 X1 _ _ _ _ _) ?_
        exact RetA.mk HR.out.symm (HS4.out.past5 _ _ _ _ _ fun b o e => hne.out b o e) HN4.out (below_set5 b3 (by omega) _ _ _ _ _)
  · rw [if_pos h0] at h
    have HR := Lib.hid h
    have hne : (ec != 0) = true := by simpa using h0
    clear hec h h0
    go_enter Try.func14, Try.ntmps14
    go_wp2_with fail
    refine (racheck_any _ _ _ _ _ _ _ xs _ _ (HS.out.step (below2 _ _ _)) HE.out).mono ?_
    rintro e w1 ⟨rfl, hb1⟩
    obtain ⟨X0, X1, b1⟩ := after2 hb1
    clear hb1
    have c0 : ∀ i, w1.cell? ⟨w.heap.size, i, none⟩ = _ := Bx.cell X0
    have f1 : ∀ i, w1.frozen? ⟨w.heap.size + 1, i, none⟩ = false := Bx.frozen X1
    have g1 : ∀ i, w1.cell? ⟨w.heap.size + 1, i, none⟩ = _ := Bx.cell X1
    have q1 := Bx.lt X1
    go_wp2
    refine retAE (B := w.heap.size + 1) rfl rfl rfl rfl (Bx.set5 X1 _ _ _ _ _) ?_
    exact RetA.mk HR.out.symm (Sl.nil _) (fun _ _ _ h => by cases h) (below_set5 b1 (by omega) _ _ _ _ _)

set_option maxHeartbeats 1000000 in
theorem riota_any (k r l0 l1 : Int) (A : Option Addr) (n c : Nat) (xs : List Int) (R : Arr × Int) (w : World) (hs : Sl w A n c xs) (h : sIota ⟨k, r, l0, l1, xs⟩ = R) :
    Calls Try.prog 16 #[.agg #[.int .i64 k, .int .i64 r, .int .i64 l0, .int .i64 l1, .slice A n c]] w (RetA w R) := by
  obtain ⟨er, her⟩ : ∃ er, fE (k == 1) (r == 0) (achk k r l0 l1 xs) = er := ⟨_, rfl⟩
  unfold sIota iotaE chkA at h
  simp only [her] at h
  have HE := Lib.hid her
  have HS := Lib.hid hs
  clear hs
  by_cases h0 : er = 0
  · subst h0
    obtain ⟨hec, hk, hr⟩ := fE_zero her
    obtain rfl : k = 1 := by simpa using hk
    obtain rfl : r = 0 := by simpa using hr
    rw [if_neg (fun g => g rfl)] at h
    obtain ⟨x, hx⟩ : ∃ x, xs.getD 0 0 = x := ⟨_, rfl⟩
    simp only [hx] at h
    have hn1 : n = 1 := by
      have h1 := (achk_ok hec).2.2.1
      have h2 := HS.out.len
      simp [prodI] at h1
      omega
    have HX := Lib.hid hx
    clear her hk hr hec hx
    subst hn1
    obtain ⟨b, o, rfl, hbl, hc0⟩ := HS.out.at_ (k := 0) (by omega)
    rw [HX.out] at hc0
    simp only [Nat.add_zero] at hc0
    by_cases hx0 : x < 0
    · rw [if_pos hx0] at h
      have HR := Lib.hid h
      clear h
      go_enter Try.func16, Try.ntmps16
      go_wp2_with fail
      refine (rone_any _ _ _ _ _ _ _ xs 0 _ _ (HS.out.step (below2 _ _ _)) HE.out).mono ?_
      rintro e w1 ⟨rfl, hb1⟩
      obtain ⟨X0, X1, b1⟩ := after2 hb1
      clear hb1
      have c0 : ∀ i, w1.cell? ⟨w.heap.size, i, none⟩ = _ := Bx.cell X0
      have hc1 := (b1.cell (p := ⟨b, o, none⟩) hbl).trans hc0
      have f1 : ∀ i, w1.frozen? ⟨w.heap.size + 1, i, none⟩ = false := Bx.frozen X1
      have g1 : ∀ i, w1.cell? ⟨w.heap.size + 1, i, none⟩ = _ := Bx.cell X1
      have q1 := Bx.lt X1
      go_wp2
      refine retAE (B := w.heap.size + 1) rfl rfl rfl rfl (Bx.set5 X1 _ _ _ _ _) ?_
      exact RetA.mk HR.out.symm (Sl.nil _) (fun _ _ _ h => by cases h) (below_set5 b1 (by omega) _ _ _ _ _)
    rw [if_neg hx0] at h
    by_cases hx4 : 400 < x
    · rw [if_pos hx4] at h
      have HR := Lib.hid h
      clear h
      go_enter Try.func16, Try.ntmps16
      go_wp2_with fail
      refine (rone_any _ _ _ _ _ _ _ xs 0 _ _ (HS.out.step (below2 _ _ _)) HE.out).mono ?_
      rintro e w1 ⟨rfl, hb1⟩
      obtain ⟨X0, X1, b1⟩ := after2 hb1
      clear hb1
      have c0 : ∀ i, w1.cell? ⟨w.heap.size, i, none⟩ = _ := Bx.cell X0
      have hc1 := (b1.cell (p := ⟨b, o, none⟩) hbl).trans hc0
      have f1 : ∀ i, w1.frozen? ⟨w.heap.size + 1, i, none⟩ = false := Bx.frozen X1
      have g1 : ∀ i, w1.cell? ⟨w.heap.size + 1, i, none⟩ = _ := Bx.cell X1
      have q1 := Bx.lt X1
      go_wp2
      refine retAE (B := w.heap.size + 1) rfl rfl rfl rfl (Bx.set5 X1 _ _ _ _ _) ?_
      exact RetA.mk HR.out.symm (Sl.nil _) (fun _ _ _ h => by cases h) (below_set5 b1 (by omega) _ _ _ _ _)
    rw [if_neg hx4] at h
    obtain ⟨m, rfl⟩ : ∃ m : Nat, x = (m : Int) := ⟨x.toNat, by omega⟩
    have hm : m ≤ 400 := by omega
    have HR : Hid ((⟨1, 1, (m : Int), 0, iotaL m⟩, (0 : Int)) = R) := Lib.hid (by rw [← h, Int.toNat_natCast])
    have hm0 : ¬ (m : Int) < 0 := by omega
    have hm4 : ¬ (400 : Int) < (m : Int) := by omega
    clear h hx0 hx4
    go_enter Try.func16, Try.ntmps16
    go_wp2_with fail
    refine (rone_any _ _ _ _ _ _ _ xs 0 _ _ (HS.out.step (below2 _ _ _)) HE.out).mono ?_
    rintro e w1 ⟨rfl, hb1⟩
    obtain ⟨X0, X1, b1⟩ := after2 hb1
    clear hb1
    have c0 : ∀ i, w1.cell? ⟨w.heap.size, i, none⟩ = _ := Bx.cell X0
    have hc1 := (b1.cell (p := ⟨b, o, none⟩) hbl).trans hc0
    have B0lt := b1.size
    obtain ⟨B0, hB0⟩ : ∃ B0, w1.heap.size = B0 := ⟨_, rfl⟩
    rw [hB0] at B0lt
    have b1' := b1
    have HX0 := Lib.hid X0
    have HX1 := Lib.hid X1
    have hB1 : B0 ≤ w1.heap.size := by omega
    clear hB0 X0 X1
    go_wp2
    clear c0 hc1 hm0 hm4
    go_loopw [5, 6] (fun v i wr => ∃ (j : Nat) (V : Option Addr) (vc : Nat), i = .int .i64 j ∧ v = .slice V j vc ∧ j ≤ m ∧ Hid (wr.ownsRow B0 2 1 (.slice V j vc) j ((iotaL j).map (Value.int .i64))) ∧ Below w.heap.size w wr ∧ Hid (Bx wr w.heap.size #[.int .i64 1, .int .i64 0, .int .i64 l0, .int .i64 l1, .slice (some ⟨b, o, none⟩) 1 c] 25) ∧ Hid (Bx wr (w.heap.size + 1) #[.int .i64 0, .int .i64 0, .int .i64 0, .int .i64 0, .slice none 0 0] 25) ∧ B0 ≤ wr.heap.size) (fun _ i _ => m - (intOf i).toNat)
    case atStart => exact ⟨0, none, 0, rfl, rfl, Nat.zero_le _, Lib.hid (by simpa [iotaL] using World.ownsRow_nil _ _ _ _), b1', HX0, HX1, hB1⟩
    case round =>
      clear HX0 HX1 hB1 b1 b1'
      obtain ⟨j, V, vc, rfl, rfl, hj, HO, hb, Y0, Y1, hz⟩ := hrel
      have d0 : ∀ i, wr.cell? ⟨w.heap.size, i, none⟩ = _ := Bx.cell Y0.out
      have hc1 := (hb.cell (p := ⟨b, o, none⟩) hbl).trans hc0
      by_cases hlt : j < m
      · have k1 : (j : Int) < (m : Int) := by omega
        have HO1 := Lib.hid (HO.out.alloc (.cells #[.int .i64 (j:Int)] 2))
        have HS1 := Lib.hid (slOne wr (j:Int))
        have HZ := Lib.hid (show B0 ≤ (wr.alloc (.cells #[.int .i64 (j:Int)] 2)).heap.size by simp; omega)
        go_wp2_with (at_builtin; refine wpList_append_sl rfl _ _ rfl rfl B0 _ j (iotaL j) rfl HO1.out (some ⟨wr.heap.size, 0, none⟩) 1 1 [(j:Int)] rfl HS1.out (by omega) HZ.out ?_)
        intro A2 c2 w2 hg
        have U0 := Lib.hid (Bx.grown (Bx.alloc Y0.out _) hg.2.2 (own_row_ne HO1.out (Bx.alloc Y0.out _) (by decide)))
        have U1 := Lib.hid (Bx.grown (Bx.alloc Y1.out _) hg.2.2 (own_row_ne HO1.out (Bx.alloc Y1.out _) (by decide)))
        have b2 : Below w.heap.size w w2 := hg.below (bal hb _) (fun k hk => by have := (HO1.out.lt k hk).1; omega)
        have HG := Lib.hid (show w2.ownsRow B0 2 1 (.slice A2 (j + 1) c2) (j + 1) (((iotaL j) ++ [(j:Int)]).map (Value.int .i64)) from hg.1)
        have hz2 := Nat.le_trans HZ.out hg.2.2.size
        clear hg
        clear d0 hc1
        go_wp2
        refine ⟨⟨j + 1, A2, c2, rfl, rfl, by omega, Lib.hid (by rw [iotaL_succ]; exact HG.out), b2, U0, U1, hz2⟩, ?_⟩
        simp only [intOf]; omega
      · obtain rfl : j = m := by omega
        go_wp2_with fail
        have hO := HO.out
        obtain ⟨A3, c3, hv, hS, _⟩ := Sl.of_own hO
        obtain ⟨rfl, rfl⟩ : V = A3 ∧ vc = c3 := by simpa using hv
        have HSS := Lib.hid hS
        clear hO hv hS
        refine (rVector_any 1 V j vc (iotaL j) _ HSS.out (by omega)).mono ?_
        rintro e w3 ⟨⟨A4, n4, c4, rfl, hS4, hN4⟩, hb3⟩
        have b3 := bst hb hb3
        have X1 := Bx.step Y1.out hb3
        have HS4 := Lib.hid hS4
        have hne := Lib.hid (fun (b : Nat) (o : Nat) (e : A4 = some ⟨b, o, none⟩) => (show b ≠ w.heap.size + 1 by have := hN4 b o none e; have := Bx.lt Y1.out; omega))
        have HN4 := Lib.hid (hN4.mono hb.size)
        have g1 : ∀ i, w3.cell? ⟨w.heap.size + 1, i, none⟩ = _ := Bx.cell X1
        have f1 : ∀ i, w3.frozen? ⟨w.heap.size + 1, i, none⟩ = false := Bx.frozen X1
        have q1 := Bx.lt X1
        clear hS4 hN4
        go_wp2
        refine retAE (B := w.heap.size + 1) rfl rfl rfl rfl (Bx.set5 X1 _ _ _ _ _) ?_
        exact RetA.mk HR.out.symm (HS4.out.past5 _ _ _ _ _ fun b o e => hne.out b o e) HN4.out (below_set5 b3 (by omega) _ _ _ _ _)
  · rw [if_pos h0] at h
    have HR := Lib.hid h
    have hne : (er != 0) = true := by simpa using h0
    have hee : (er == 0) = false := by simpa using h0
    clear h h0 her
    go_enter Try.func16, Try.ntmps16
    go_wp2_with fail
    refine (rone_any _ _ _ _ _ _ _ xs 0 _ _ (HS.out.step (below2 _ _ _)) HE.out).mono ?_
    rintro e w1 ⟨rfl, hb1⟩
    obtain ⟨X0, X1, b1⟩ := after2 hb1
    clear hb1
    have c0 : ∀ i, w1.cell? ⟨w.heap.size, i, none⟩ = _ := Bx.cell X0
    have f1 : ∀ i, w1.frozen? ⟨w.heap.size + 1, i, none⟩ = false := Bx.frozen X1
    have g1 : ∀ i, w1.cell? ⟨w.heap.size + 1, i, none⟩ = _ := Bx.cell X1
    have q1 := Bx.lt X1
    go_wp2
    refine retAE (B := w.heap.size + 1) rfl rfl rfl rfl (Bx.set5 X1 _ _ _ _ _) ?_
    exact RetA.mk HR.out.symm (Sl.nil _) (fun _ _ _ h => by cases h) (below_set5 b1 (by omega) _ _ _ _ _)

set_option maxHeartbeats 1000000 in
theorem has_any (A : Option Addr) (n c : Nat) (xs : List Int) (x : Int) (w : World) (hs : Sl w A n c xs) :
    Calls Try.prog 39 #[.slice A n c, .int .i64 x] w fun e w' => e = .returned (.bool (xs.elem x)) ∧ w' = w := by
  have HS := Lib.hid hs
  have hl := hs.len
  have hmst := hs.most
  have hcp := hs.cap
  clear hs
  go_enter Try.func39, Try.ntmps39
  go_wp2
  go_loopw [5] (fun i wr => ∃ j : Nat, i = .int .i64 j ∧ j ≤ n ∧ wr = w ∧ Hid (∀ p, p < j → xs.getD p 0 ≠ x)) (fun i _ => n - (intOf i).toNat)
  case atStart => exact ⟨0, rfl, Nat.zero_le _, rfl, Lib.hid (fun p hp => absurd hp (Nat.not_lt_zero _))⟩
  case round =>
    obtain ⟨j, rfl, hj, rfl, HP⟩ := hrel
    by_cases hlt : j < n
    · have k0 : (j : Int) < (n : Int) := by omega
      obtain ⟨b, o, rfl, hbl, hc0⟩ := HS.out.at_ hlt
      obtain ⟨y, hy⟩ : ∃ y, xs.getD j 0 = y := ⟨_, rfl⟩
      rw [hy] at hc0
      have HY := Lib.hid hy
      have HL := Lib.hid hl
      clear hy hl
      by_cases e : y = x
      · have he : (y == x) = true := by simpa using e
        have HXY := Lib.hid e
        clear e
        go_wp2
        go_ret
        refine ⟨?_, rfl⟩
        have hm : x ∈ xs := by rw [← HXY.out, ← HY.out]; exact getD_mem (by rw [HL.out]; exact hlt)
        rw [List.elem_eq_true_of_mem hm]
        rfl
      · have he : (y == x) = false := by simpa using e
        have HXY := Lib.hid e
        clear e
        go_wp2
        refine ⟨⟨j + 1, rfl, by omega, trivial, Lib.hid (fun p hp => ?_)⟩, by simp only [intOf]; omega⟩
        by_cases e : p = j
        · rw [e, HY.out]; exact HXY.out
        · exact HP.out p (by omega)
    · obtain rfl : j = n := by omega
      go_wp2
      go_ret
      refine ⟨?_, rfl⟩
      have hm : ¬ x ∈ xs := fun g => by
        obtain ⟨p, hp, e⟩ := List.getElem_of_mem g
        exact HP.out p (by omega) (by rw [getD_get hp]; exact e)
      have : xs.elem x = false := by
        rw [Bool.eq_false_iff]
        exact fun g => hm (List.mem_of_elem_eq_true g)
      rw [this]
      rfl
end Go.Proofs.Ytfbloddffhafdaa

/-
  finds.Iota.
-/
import Derived.Test.YtfbloddffhafdaaFsha
namespace Go.Proofs.Ytfbloddffhafdaa
open Go.RowKit

set_option maxHeartbeats 1000000 in
theorem fiota_any (k r l0 l1 : Int) (A : Option Addr) (n c : Nat) (xs : List Int) (R : Arr × Int) (w : World) (hs : Sl w A n c xs) (h : sIota ⟨k, r, l0, l1, xs⟩ = R) :
    Calls Try.prog 15 #[.agg #[.int .i64 k, .int .i64 r, .int .i64 l0, .int .i64 l1, .slice A n c]] w (RetA w R) := by
  obtain ⟨ec, hec⟩ : ∃ ec, achk k r l0 l1 xs = ec := ⟨_, rfl⟩
  unfold sIota iotaE chkA at h
  simp only [hec] at h
  have HE := Lib.hid hec
  have HS := Lib.hid hs
  have Z0 : Bx (((w.alloc (.cells #[.int .i64 k, .int .i64 r, .int .i64 l0, .int .i64 l1, .slice A n c] 25)).alloc (.cells #[.int .i64 0, .int .i64 0, .int .i64 0, .int .i64 0, .slice none 0 0] 25)).alloc (.cells #[.int .i64 k, .int .i64 r, .int .i64 l0, .int .i64 l1, .slice A n c] 25)) (w.heap.size + 1 + 1) #[.int .i64 k, .int .i64 r, .int .i64 l0, .int .i64 l1, .slice A n c] 25 := by
    have := Bx.new ((w.alloc (.cells #[.int .i64 k, .int .i64 r, .int .i64 l0, .int .i64 l1, .slice A n c] 25)).alloc (.cells #[.int .i64 0, .int .i64 0, .int .i64 0, .int .i64 0, .slice none 0 0] 25)) #[.int .i64 k, .int .i64 r, .int .i64 l0, .int .i64 l1, .slice A n c] 25
    simpa [World.size_alloc] using this
  clear hs
  obtain ⟨er, her⟩ : ∃ er, fE (k == 1) (r == 0) ec = er := ⟨_, rfl⟩
  rw [her] at h
  by_cases h0 : er = 0
  · subst h0
    obtain ⟨rfl, hk, hr⟩ := fE_zero her
    obtain rfl : k = 1 := by simpa using hk
    obtain rfl : r = 0 := by simpa using hr
    rw [if_neg (fun g => g rfl)] at h
    obtain ⟨x, hx⟩ : ∃ x, xs.getD 0 0 = x := ⟨_, rfl⟩
    simp only [hx] at h
    have hn1 : n = 1 := by
      have h1 := (achk_ok hec).2.2.1
      have h2 := HS.out.len
      simp [prodI] at h1
      omega
    have HX := Lib.hid hx
    clear her hk hr hec hx
    subst hn1
    obtain ⟨b, o, rfl, hbl, hc0⟩ := HS.out.at_ (k := 0) (by omega)
    rw [HX.out] at hc0
    simp only [Nat.add_zero] at hc0
    by_cases hx0 : x < 0
    · rw [if_pos hx0] at h
      have HR := Lib.hid h
      clear h
      go_enter Try.func15, Try.ntmps15
      go_wp2_with fail
      refine (fcheck1 true true _ _ _ _ _ _ _ xs _ _ _ (HS.out.step (below3 _ _ _ _)) HE.out Z0).mono ?_
      rintro e w1 ⟨rfl, hb1⟩
      obtain ⟨X0, X1, X2, b1⟩ := after3 hb1
      clear hb1
      rw [fE_ok]
      have g1 : ∀ i, w1.cell? ⟨w.heap.size + 1, i, none⟩ = _ := Bx.cell X1
      have f1 : ∀ i, w1.frozen? ⟨w.heap.size + 1, i, none⟩ = false := Bx.frozen X1
      have q1 := Bx.lt X1
      have g0 : ∀ i, w1.cell? ⟨w.heap.size, i, none⟩ = _ := Bx.cell X0
      have hc1 := (b1.cell (p := ⟨b, o, none⟩) hbl).trans hc0
      go_wp2
      refine retAE (B := w.heap.size + 1) rfl rfl rfl rfl (Bx.set5 X1 _ _ _ _ _) ?_
      exact RetA.mk HR.out.symm (Sl.nil _) (fun _ _ _ h => by cases h) (below_set5 b1 (by omega) _ _ _ _ _)
    rw [if_neg hx0] at h
    by_cases hx4 : 400 < x
    · rw [if_pos hx4] at h
      have HR := Lib.hid h
      clear h
      go_enter Try.func15, Try.ntmps15
      go_wp2_with fail
      refine (fcheck1 true true _ _ _ _ _ _ _ xs _ _ _ (HS.out.step (below3 _ _ _ _)) HE.out Z0).mono ?_
      rintro e w1 ⟨rfl, hb1⟩
      obtain ⟨X0, X1, X2, b1⟩ := after3 hb1
      clear hb1
      rw [fE_ok]
      have g1 : ∀ i, w1.cell? ⟨w.heap.size + 1, i, none⟩ = _ := Bx.cell X1
      have f1 : ∀ i, w1.frozen? ⟨w.heap.size + 1, i, none⟩ = false := Bx.frozen X1
      have q1 := Bx.lt X1
      have g0 : ∀ i, w1.cell? ⟨w.heap.size, i, none⟩ = _ := Bx.cell X0
      have hc1 := (b1.cell (p := ⟨b, o, none⟩) hbl).trans hc0
      go_wp2
      refine retAE (B := w.heap.size + 1) rfl rfl rfl rfl (Bx.set5 X1 _ _ _ _ _) ?_
      exact RetA.mk HR.out.symm (Sl.nil _) (fun _ _ _ h => by cases h) (below_set5 b1 (by omega) _ _ _ _ _)
    rw [if_neg hx4] at h
    obtain ⟨m, rfl⟩ : ∃ m : Nat, x = (m : Int) := ⟨x.toNat, by omega⟩
    have hm : m ≤ 400 := by omega
    have HR : Hid ((⟨1, 1, (m : Int), 0, iotaL m⟩, (0 : Int)) = R) := Lib.hid (by rw [← h, Int.toNat_natCast])
    clear h
    obtain ⟨i0, hi, hz0, hz1, hz2⟩ := info_parts infoI64
    have hm0 : ¬ (m : Int) < 0 := by omega
    have hm4 : ¬ (400 : Int) < (m : Int) := by omega
    clear hx0 hx4
    go_enter Try.func15, Try.ntmps15
    go_wp2_with fail
    refine (fcheck1 true true _ _ _ _ _ _ _ xs _ _ _ (HS.out.step (below3 _ _ _ _)) HE.out Z0).mono ?_
    rintro e w1 ⟨rfl, hb1⟩
    obtain ⟨X0, X1, X2, b1⟩ := after3 hb1
    clear hb1
    rw [fE_ok]
    have g1 : ∀ i, w1.cell? ⟨w.heap.size + 1, i, none⟩ = _ := Bx.cell X1
    have f1 : ∀ i, w1.frozen? ⟨w.heap.size + 1, i, none⟩ = false := Bx.frozen X1
    have q1 := Bx.lt X1
    clear g1 f1
    have g0 : ∀ i, w1.cell? ⟨w.heap.size, i, none⟩ = _ := Bx.cell X0
    have hc1 := (b1.cell (p := ⟨b, o, none⟩) hbl).trans hc0
    clear hc0
    go_wp2_with (with_reducible refine wpList_make_row _ rfl _ _ 23 rfl 2 i0 (.int .i64 0) Try.underlying23 hi hz0 hz1 rfl .i64 .i64 m rfl rfl (by rw [hz2]; omega) (by omega) ?_)
    have HB : Bf (w1.alloc (Obj.cells (madeCells #[Value.int IntKind.i64 0] m) 2)) w1.heap.size m (fun _ => 0) := bf_made w1 m
    have b2 : Below w.heap.size w (w1.alloc (Obj.cells (madeCells #[Value.int IntKind.i64 0] m) 2)) := bal b1 _
    replace X1 := Bx.alloc X1 (Obj.cells (madeCells #[Value.int IntKind.i64 0] m) 2)
    obtain ⟨w2, hw2⟩ : ∃ w2, w1.alloc (Obj.cells (madeCells #[Value.int IntKind.i64 0] m) 2) = w2 := ⟨_, rfl⟩
    rw [hw2] at HB b2 X1
    rw [hw2]
    obtain ⟨B, hB⟩ : ∃ B, w1.heap.size = B := ⟨_, rfl⟩
    rw [hB] at HB q1
    rw [hB]
    clear g0 hw2 hB hc1 X0 X2 b1
    have HB2 := Lib.hid HB
    have HX1 := Lib.hid X1
    clear HB X1
    go_loopw [7, 37] (fun _ i wr => ∃ j : Nat, i = .int .i64 j ∧ j ≤ m ∧ Hid (Bf wr B m (fun p => if p < j then (p : Int) else 0)) ∧ Below w.heap.size w wr ∧ Hid (Bx wr (w.heap.size + 1) #[.int .i64 0, .int .i64 0, .int .i64 0, .int .i64 0, .slice none 0 0] 25)) (fun _ i _ => m - (intOf i).toNat)
    case atStart => exact ⟨0, rfl, Nat.zero_le _, Lib.hid (HB2.out.congr fun j _ => by simp), b2, HX1⟩
    case round =>
      obtain ⟨j, rfl, hj, HF, hb, HY⟩ := hrel
      by_cases hlt : j < m
      · have k0 : (0 : Int) ≤ (j : Int) := by omega
        have k1 : (j : Int) < (m : Int) := by omega
        have dj := HF.out.cell hlt
        have fj := HF.out.frozen j
        go_wp2
        refine ⟨⟨j + 1, rfl, by omega, Lib.hid (HF.out.fill rfl), bsc hb (by show _ ≤ B; omega) _, Lib.hid (Bx.far HY.out (by show _ ≠ B; omega) _)⟩, ?_⟩
        simp only [intOf]; omega
      · obtain rfl : j = m := by omega
        go_wp2_with fail
        refine (fvec_any 1 _ _ _ _).mono ?_
        rintro e w3 ⟨rfl, hb3⟩
        have b3 := bst hb hb3
        have X1 := Bx.step HY.out hb3
        have S3 := Lib.hid ((Bf.full (xs := iotaL j) (c := j) HF.out (iotaL_len j) (fun p hp => (iotaL_get j p hp).symm) (Nat.le_refl _) (by unfold maxLen; omega)).step hb3)
        have g1 : ∀ i, w3.cell? ⟨w.heap.size + 1, i, none⟩ = _ := Bx.cell X1
        have f1 : ∀ i, w3.frozen? ⟨w.heap.size + 1, i, none⟩ = false := Bx.frozen X1
        have q3 := Bx.lt X1
        go_wp2
        refine retAE (B := w.heap.size + 1) rfl rfl rfl rfl (Bx.set5 X1 _ _ _ _ _) ?_
        exact RetA.mk HR.out.symm (S3.out.past5 _ _ _ _ _ (fun b o e => by cases e; omega)) (fun b o s e => by cases e; omega) (below_set5 b3 (by omega) _ _ _ _ _)
  · rw [if_pos h0] at h
    have HR := Lib.hid h
    have hne : (er != 0) = true := by simpa using h0
    have HEC := Lib.hid her
    clear hec h h0 her
    go_enter Try.func15, Try.ntmps15
    go_wp2_with fail
    refine (fcheck1 (k == 1) (r == 0) _ _ _ _ _ _ _ xs _ _ _ (HS.out.step (below3 _ _ _ _)) HE.out Z0).mono ?_
    rintro e w1 ⟨rfl, hb1⟩
    obtain ⟨X0, X1, X2, b1⟩ := after3 hb1
    clear hb1
    rw [HEC.out]
    have g1 : ∀ i, w1.cell? ⟨w.heap.size + 1, i, none⟩ = _ := Bx.cell X1
    have f1 : ∀ i, w1.frozen? ⟨w.heap.size + 1, i, none⟩ = false := Bx.frozen X1
    have q1 := Bx.lt X1
    go_wp2
    refine retAE (B := w.heap.size + 1) rfl rfl rfl rfl (Bx.set5 X1 _ _ _ _ _) ?_
    exact RetA.mk HR.out.symm (Sl.nil _) (fun _ _ _ h => by cases h) (below_set5 b1 (by omega) _ _ _ _ _)
end Go.Proofs.Ytfbloddffhafdaa

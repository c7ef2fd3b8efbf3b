/-
  The reference's Ravel and Reverse.
-/
import Derived.Test.YtoapgknkenlcgaaMlaw
import Derived.Test.YtoapgknkenlcgaaRsmall
import Derived.Test.YtoapgknkenlcgaaRvec
namespace Go.Proofs.Ytoapgknkenlcgaa
open Go.RowKit

set_option maxHeartbeats 4000000 in
theorem rRavel_any (k r l0 l1 : Int) (A : Option Addr) (n c : Nat) (xs : List Int) (R : Arr × Int) (w : World)
    (hs : Sl w A n c xs) (h : sRavel ⟨k, r, l0, l1, xs⟩ = R) :
    Calls Try.prog 32 #[.agg #[.int .i64 k, .int .i64 r, .int .i64 l0, .int .i64 l1, .slice A n c]] w (RetA w R) := by
  have HS := Lib.hid hs
  by_cases h0 : achk k r l0 l1 xs = 0
  · have hR : R = (⟨k, 1, n, 0, xs⟩, 0) := by
      rw [← h, ← hs.len]
      exact if_neg (fun h' => h' h0)
    have hn : n ≤ 400 := by have := achk_len h0; have := hs.len; omega
    have HR := Lib.hid hR
    have H0 := Lib.hid h0
    clear h h0 hs hR
    go_enter Try.func32, Try.ntmps32
    go_wp2_with fail
    refine (racheck_any _ _ _ _ _ _ _ xs _ _ (HS.out.step (below2 _ _ _)) H0.out).mono ?_
    rintro e w1 ⟨rfl, hb1⟩
    obtain ⟨X0, X1, b1⟩ := after2 hb1
    clear hb1
    have q1 := Bx.lt X1
    have c0 : ∀ i, w1.cell? ⟨w.heap.size, i, none⟩ = _ := Bx.cell X0
    have c1 : ∀ i, w1.cell? ⟨w.heap.size + 1, i, none⟩ = _ := Bx.cell X1
    have f1 : ∀ i, w1.frozen? ⟨w.heap.size + 1, i, none⟩ = false := Bx.frozen X1
    go_wp2_with fail
    refine (rVector_any k A n c xs _ (HS.out.step b1) (by omega)).mono ?_
    rintro e w3 ⟨⟨A3, n3, c3, rfl, hS3, hN3⟩, hb3⟩
    have g1 : ∀ i, w3.cell? ⟨w.heap.size + 1, i, none⟩ = _ := (Bx.step X1 hb3).cell
    have k1 : ∀ i, w3.frozen? ⟨w.heap.size + 1, i, none⟩ = false := (Bx.step X1 hb3).frozen
    have HS3 := Lib.hid hS3
    have M3 : ∀ b o, A3 = some ⟨b, o, none⟩ → b ≠ w.heap.size + 1 := fun b o e => by have := hN3 b o none e; omega
    have hm3 := hN3.mono b1.size
    clear hS3 hN3
    go_wp2
    refine retAE (B := w.heap.size + 1) rfl rfl rfl rfl ((Bx.step X1 hb3).set5 _ _ _ _ _) ?_
    exact RetA.mk HR.out (HS3.out.past5 _ _ _ _ _ M3) hm3 (below_set5 (bst b1 hb3) (by omega) _ _ _ _ _)
  · have he : (zA, achk k r l0 l1 xs) = R := by
      rw [← h]; exact (if_pos h0).symm
    obtain ⟨ec, hec⟩ : ∃ ec, achk k r l0 l1 xs = ec := ⟨_, rfl⟩
    rw [hec] at h0 he
    have HEC := Lib.hid hec
    have HR := Lib.hid he
    have hne : (ec != 0) = true := by simpa using h0
    clear hec h0 he h hs
    go_enter Try.func32, Try.ntmps32
    go_wp2_with fail
    refine (racheck_any _ _ _ _ _ _ _ xs _ _ (HS.out.step (below2 _ _ _)) HEC.out).mono ?_
    rintro e w1 ⟨rfl, hb1⟩
    obtain ⟨X0, X1, b1⟩ := after2 hb1
    clear hb1
    have q1 := Bx.lt X1
    have c0 : ∀ i, w1.cell? ⟨w.heap.size, i, none⟩ = _ := Bx.cell X0
    have c1 : ∀ i, w1.cell? ⟨w.heap.size + 1, i, none⟩ = _ := Bx.cell X1
    have f1 : ∀ i, w1.frozen? ⟨w.heap.size + 1, i, none⟩ = false := Bx.frozen X1
    go_wp2
    refine retAE (B := w.heap.size + 1) rfl rfl rfl rfl (Bx.set5 X1 _ _ _ _ _) ?_
    exact RetA.mk HR.out.symm (Sl.nil _) (fun _ _ _ h => by cases h) (below_set5 b1 (by omega) _ _ _ _ _)

set_option maxHeartbeats 4000000 in
theorem rReverse_err (k r l0 l1 : Int) (A : Option Addr) (n c : Nat) (xs : List Int) (R : Arr × Int) (w : World)
    (hs : Sl w A n c xs) (h : sReverse ⟨k, r, l0, l1, xs⟩ = R) (he : achk k r l0 l1 xs ≠ 0 ∨ r = 0) :
    Calls Try.prog 33 #[.agg #[.int .i64 k, .int .i64 r, .int .i64 l0, .int .i64 l1, .slice A n c]] w (RetA w R) := by
  have HS := Lib.hid hs
  by_cases h0 : achk k r l0 l1 xs = 0
  · obtain rfl : r = 0 := he.resolve_left (fun h => h h0)
    have hR : (zA, 22) = R := by rw [← h]; unfold sReverse chkA; rw [if_neg (fun h' => h' h0)]; rfl
    have HR := Lib.hid hR
    have H0 := Lib.hid h0
    clear h h0 hs hR he
    go_enter Try.func33, Try.ntmps33
    go_wp2_with fail
    refine (racheck_any _ _ _ _ _ _ _ xs _ _ (HS.out.step (below2 _ _ _)) H0.out).mono ?_
    rintro e w1 ⟨rfl, hb1⟩
    obtain ⟨X0, X1, b1⟩ := after2 hb1
    clear hb1
    have q1 := Bx.lt X1
    have c0 : ∀ i, w1.cell? ⟨w.heap.size, i, none⟩ = _ := Bx.cell X0
    have c1 : ∀ i, w1.cell? ⟨w.heap.size + 1, i, none⟩ = _ := Bx.cell X1
    have f1 : ∀ i, w1.frozen? ⟨w.heap.size + 1, i, none⟩ = false := Bx.frozen X1
    go_wp2
    refine retAE (B := w.heap.size + 1) rfl rfl rfl rfl (Bx.set5 X1 _ _ _ _ _) ?_
    exact RetA.mk HR.out.symm (Sl.nil _) (fun _ _ _ h => by cases h) (below_set5 b1 (by omega) _ _ _ _ _)
  · have he : (zA, achk k r l0 l1 xs) = R := by
      rw [← h]; exact (if_pos h0).symm
    obtain ⟨ec, hec⟩ : ∃ ec, achk k r l0 l1 xs = ec := ⟨_, rfl⟩
    rw [hec] at h0 he
    have HEC := Lib.hid hec
    have HR := Lib.hid he
    have hne : (ec != 0) = true := by simpa using h0
    have hne' : (ec == 0) = false := by simpa using h0
    clear hec h0 he h hs
    go_enter Try.func33, Try.ntmps33
    go_wp2_with fail
    refine (racheck_any _ _ _ _ _ _ _ xs _ _ (HS.out.step (below2 _ _ _)) HEC.out).mono ?_
    rintro e w1 ⟨rfl, hb1⟩
    obtain ⟨X0, X1, b1⟩ := after2 hb1
    clear hb1
    have q1 := Bx.lt X1
    have c0 : ∀ i, w1.cell? ⟨w.heap.size, i, none⟩ = _ := Bx.cell X0
    have c1 : ∀ i, w1.cell? ⟨w.heap.size + 1, i, none⟩ = _ := Bx.cell X1
    have f1 : ∀ i, w1.frozen? ⟨w.heap.size + 1, i, none⟩ = false := Bx.frozen X1
    go_wp2
    refine retAE (B := w.heap.size + 1) rfl rfl rfl rfl (Bx.set5 X1 _ _ _ _ _) ?_
    exact RetA.mk HR.out.symm (Sl.nil _) (fun _ _ _ h => by cases h) (below_set5 b1 (by omega) _ _ _ _ _)

set_option maxHeartbeats 8000000 in
theorem rReverse_ok (k r l0 l1 : Int) (A : Option Addr) (n c q m : Nat) (xs : List Int) (w : World)
    (hs : Sl w A n c xs) (h0 : achk k r l0 l1 xs = 0) (hr : (r == 0) = false) (hn : n = m * q) (hm : m ≤ 400) (hq : q ≤ 400)
    (hrow : ∀ W, Calls Try.prog 51 #[.agg #[.int .i64 k, .int .i64 r, .int .i64 l0, .int .i64 l1, .slice A n c]] W fun e w' => e = .returned (.tuple #[.int .i64 m, .int .i64 q]) ∧ Below W.heap.size W w') :
    Calls Try.prog 33 #[.agg #[.int .i64 k, .int .i64 r, .int .i64 l0, .int .i64 l1, .slice A n c]] w (RetA w (⟨k, r, l0, l1, rv m q xs⟩, 0)) := by
  obtain ⟨i0, hi, hz0, hz1, hz2⟩ := info_parts infoI64
  have hnb : n ≤ 160000 := by rw [hn]; exact Nat.mul_le_mul hm hq
  have HS := Lib.hid hs
  have H0 := Lib.hid h0
  have HN := Lib.hid hn
  have HL := Lib.hid (hs.len.trans hn)
  clear hs h0 hn
  go_enter Try.func33, Try.ntmps33
  go_wp2_with fail
  refine (racheck_any _ _ _ _ _ _ _ xs _ _ (HS.out.step (below2 _ _ _)) H0.out).mono ?_
  rintro e w1 ⟨rfl, hb1⟩
  obtain ⟨X0, X1, b1⟩ := after2 hb1
  clear hb1
  have q1 := Bx.lt X1
  have c0 : ∀ i, w1.cell? ⟨w.heap.size, i, none⟩ = _ := Bx.cell X0
  have c1 : ∀ i, w1.cell? ⟨w.heap.size + 1, i, none⟩ = _ := Bx.cell X1
  have f1 : ∀ i, w1.frozen? ⟨w.heap.size + 1, i, none⟩ = false := Bx.frozen X1
  go_wp2_with fail
  refine (hrow _).mono ?_
  rintro e w2 ⟨rfl, hb2⟩
  have Y0 := Bx.step X0 hb2
  have Y1 := Bx.step X1 hb2
  have b2 := bst b1 hb2
  clear c0 c1 f1 X0 X1
  have c0 : ∀ i, w2.cell? ⟨w.heap.size, i, none⟩ = _ := Bx.cell Y0
  have l0' := Bx.lt Y0
  have D0 : ∀ i, (w2.alloc (.cells #[.int .i64 k, .int .i64 r, .int .i64 l0, .int .i64 l1, .slice A n c] 25)).cell? ⟨w.heap.size, i, none⟩ = _ := Bx.cell (Bx.alloc Y0 (.cells #[.int .i64 k, .int .i64 r, .int .i64 l0, .int .i64 l1, .slice A n c] 25))
  go_wp2_with (with_reducible refine wpList_make_row _ rfl _ _ 23 rfl 2 i0 (.int .i64 0) Try.underlying23 hi hz0 hz1 rfl .i64 .i64 n rfl rfl (by rw [hz2]; omega) (by omega) ?_)
  obtain ⟨w3, hw3⟩ : ∃ w3, (w2.alloc (.cells #[.int .i64 k, .int .i64 r, .int .i64 l0, .int .i64 l1, .slice (some ⟨w2.heap.size + 1, 0, none⟩) n n] 25)).alloc (.cells (madeCells #[.int .i64 0] n) 2) = w3 := ⟨_, rfl⟩
  rw [hw3]
  have sz : (w2.alloc (.cells #[.int .i64 k, .int .i64 r, .int .i64 l0, .int .i64 l1, .slice (some ⟨w2.heap.size + 1, 0, none⟩) n n] 25)).heap.size = w2.heap.size + 1 := by simp
  have Z0 : Bx w3 w.heap.size #[.int .i64 k, .int .i64 r, .int .i64 l0, .int .i64 l1, .slice A n c] 25 := by rw [← hw3]; exact (Y0.alloc _).alloc _
  have Z1 : Bx w3 (w.heap.size + 1) #[.int .i64 0, .int .i64 0, .int .i64 0, .int .i64 0, .slice none 0 0] 25 := by rw [← hw3]; exact (Y1.alloc _).alloc _
  have ZO : Bx w3 w2.heap.size #[.int .i64 k, .int .i64 r, .int .i64 l0, .int .i64 l1, .slice (some ⟨w2.heap.size + 1, 0, none⟩) n n] 25 := by rw [← hw3]; exact (Bx.new _ _ _).alloc _
  have ZF : Bf w3 (w2.heap.size + 1) n (fun _ => 0) := by
    have h1 := Bf.made (w2.alloc (.cells #[.int .i64 k, .int .i64 r, .int .i64 l0, .int .i64 l1, .slice (some ⟨w2.heap.size + 1, 0, none⟩) n n] 25)) n
    rw [sz] at h1
    rw [← hw3]
    exact h1
  have b3 : Below w.heap.size w w3 := by rw [← hw3]; exact bal (bal b2 _) _
  have hs2 := Bx.lt Y1
  have HZF := Lib.hid ZF
  clear hw3 sz Y0 Y1 c0 D0 l0' b2 ZF
  go_loopw [8] (fun e wr => ∃ i : Nat, i ≤ m ∧ e = .int .i64 i ∧ Hid (w3.grownBy wr (some (w2.heap.size + 1))) ∧ Hid (∃ f, Bf wr (w2.heap.size + 1) n f ∧ ∀ p, p < i * q → f p = (rv m q xs).getD p 0)) (fun e _ => m - (intOf e).toNat)
  case atStart => exact ⟨0, Nat.zero_le _, rfl, Lib.hid (World.grownBy.refl w3 _), Lib.hid ⟨_, HZF.out, fun p hp => by omega⟩⟩
  case round =>
    obtain ⟨i, hi', rfl, HG, HI⟩ := hrel
    by_cases hlt : i < m
    · have i1 : (i : Int) < (m : Int) := by omega
      go_wp2
      go_loopw [9] (fun e wr => ∃ j : Nat, j ≤ q ∧ e = .int .i64 j ∧ Hid (w3.grownBy wr (some (w2.heap.size + 1))) ∧ Hid (∃ f, Bf wr (w2.heap.size + 1) n f ∧ ∀ p, p < i * q + j → f p = (rv m q xs).getD p 0)) (fun e _ => q - (intOf e).toNat)
      case atStart => exact ⟨0, Nat.zero_le _, rfl, HG, HI⟩
      case round =>
        clear HG HI
        obtain ⟨j, hj', rfl, HG, HI⟩ := hrel
        by_cases hlt2 : j < q
        · have E0 := Bx.grown Z0 HG.out (by simp; omega)
          have EO := Bx.grown ZO HG.out (by simp)
          have hBr := b3.grown HG.out b3.size (fun j e => by cases e; omega)
          obtain ⟨P, hP⟩ : ∃ P, i * q = P := ⟨_, rfl⟩
          have hPm : P + q ≤ n := by
            have h1 := Nat.mul_le_mul_right q (show i + 1 ≤ m from hlt)
            rw [Nat.succ_mul] at h1
            have := HN.out
            omega
          have hPi : (i : Int) * (q : Int) = (P : Int) := by rw [← hP]; simp
          obtain ⟨S, hS⟩ : ∃ S, S = P + (q - 1 - j) := ⟨_, rfl⟩
          obtain ⟨b, o, rfl, hbl, hcy⟩ := HS.out.at_ (k := S) (by omega)
          obtain ⟨y, hy⟩ : ∃ y, xs.getD S 0 = y := ⟨_, rfl⟩
          rw [hy] at hcy
          have dy : wr.cell? ⟨b, o + S, none⟩ = some (.int .i64 y) := (hBr.cell (p := ⟨b, o + S, none⟩) hbl).trans hcy
          obtain ⟨f, hF, hf⟩ := HI.out
          have HF := Lib.hid hf
          obtain ⟨T, hT⟩ : ∃ T, T = P + j := ⟨_, rfl⟩
          have dT := hF.cell (j := T) (by omega)
          have fT := hF.frozen T
          have hval : (rv m q xs).getD T 0 = y := by
            rw [hT, ← hP, rv_getD (HL.out) hlt hlt2, ← hy, hS, hP]
          have HV := Lib.hid hval
          have HTT := Lib.hid hT
          have HPP := Lib.hid hP
          have e4 : IntKind.i64.wrap ((i : Int) * (q : Int)) = (P : Int) := by rw [hPi]; exact IntWalk.i64_in _ (by omega)
          have e5 : (P : Int) + (j : Int) = (T : Int) := by omega
          have e6 : (P : Int) + (q : Int) - 1 - (j : Int) = (S : Int) := by omega
          have t0 : (0 : Int) ≤ (T : Int) := by omega
          have t1 : (T : Int) < (n : Int) := by omega
          have s0 : (0 : Int) ≤ (S : Int) := by omega
          have s1 : (S : Int) < (n : Int) := by omega
          have j1 : (j : Int) < (q : Int) := by omega
          have d0 : ∀ i, wr.cell? ⟨w.heap.size, i, none⟩ = _ := Bx.cell E0
          have dO : ∀ i, wr.cell? ⟨w2.heap.size, i, none⟩ = _ := Bx.cell EO
          clear hP hPi hS hcy hy hf hT hval
          go_wp2
          go_region
          go_wp2
          refine ⟨⟨j + 1, by omega, rfl, Lib.hid (grown_set (grown_drew HG.out) _ _), Lib.hid ⟨_, Bf.set (w := wr.drew) hF T y, ?_⟩⟩, ?_⟩
          · intro p hp
            show (if p = T then y else f p) = _
            by_cases e : p = T
            · rw [if_pos e, e, HV.out]
            · rw [if_neg e]
              have := HTT.out
              have := HPP.out
              exact HF.out p (by omega)
          · simp only [intOf]; omega
        · obtain rfl : j = q := by omega
          go_wp2
          refine ⟨⟨i + 1, by omega, rfl, HG, Lib.hid ?_⟩, ?_⟩
          · obtain ⟨f, hF, hf⟩ := HI.out
            exact ⟨f, hF, fun p hp => hf p (by rw [Nat.succ_mul] at hp; exact hp)⟩
          · simp only [intOf]; omega
    · obtain rfl : i = m := by omega
      have E0 := Bx.grown Z0 HG.out (by simp; omega)
      have E1 := Bx.grown Z1 HG.out (by simp; omega)
      have EO := Bx.grown ZO HG.out (by simp)
      have hBr := b3.grown HG.out b3.size (fun j e => by cases e; omega)
      obtain ⟨f, hF, hf⟩ := HI.out
      have HF := Lib.hid hf
      have dO : ∀ i, wr.cell? ⟨w2.heap.size, i, none⟩ = _ := Bx.cell EO
      have g1 : ∀ i, wr.cell? ⟨w.heap.size + 1, i, none⟩ = _ := Bx.cell E1
      have k1 : ∀ i, wr.frozen? ⟨w.heap.size + 1, i, none⟩ = false := Bx.frozen E1
      clear hf
      go_wp2
      refine retAE (B := w.heap.size + 1) rfl rfl rfl rfl (Bx.set5 E1 _ _ _ _ _) ?_
      have hFin := (hF.block (set5_heap wr (w.heap.size + 1) (.int .i64 k) (.int .i64 r) (.int .i64 l0) (.int .i64 l1) (.slice (some ⟨w2.heap.size + 1, 0, none⟩) n n) (by omega))).congr fun p hp => HF.out p (by have := HN.out; omega)
      exact RetA.mk rfl (Bf.sl hFin ((rv_len HL.out).trans HN.out.symm) (Nat.le_refl _) (by unfold maxLen; omega)) (fun b o s e => by cases e; omega) (below_set5 hBr (by omega) _ _ _ _ _)
theorem rReverse_any (k r l0 l1 : Int) (A : Option Addr) (n c : Nat) (xs : List Int) (R : Arr × Int) (w : World)
    (hs : Sl w A n c xs) (h : sReverse ⟨k, r, l0, l1, xs⟩ = R) :
    Calls Try.prog 33 #[.agg #[.int .i64 k, .int .i64 r, .int .i64 l0, .int .i64 l1, .slice A n c]] w (RetA w R) := by
  by_cases he : achk k r l0 l1 xs ≠ 0 ∨ r = 0
  · exact rReverse_err k r l0 l1 A n c xs R w hs h he
  · have h0 : achk k r l0 l1 xs = 0 := by
      by_cases h0 : achk k r l0 l1 xs = 0
      · exact h0
      · exact absurd (.inl h0) he
    have hr0 : r ≠ 0 := fun h => he (.inr h)
    have hrb : (r == 0) = false := by simpa using hr0
    obtain ⟨m, q, hl, hm, hq, hc⟩ := rows_len h0 hr0
    have hn : n = m * q := hs.len.symm.trans hl
    rw [sReverse_ok h0 hr0 hc] at h
    rw [← h]
    rcases hc with ⟨rfl, rfl, rfl, rfl⟩ | ⟨rfl, rfl, rfl⟩
    · have hnq : n = q := by omega
      exact rReverse_ok k 1 q 0 A n c q 1 xs w hs h0 hrb hn hm hq (fun W => by have := rrows1 k 1 q 0 A n c W rfl; rw [hnq] at this ⊢; exact this)
    · exact rReverse_ok k 2 m q A n c q m xs w hs h0 hrb hn hm hq (fun W => rrows2 _ _ _ _ _ _ _)
end Go.Proofs.Ytoapgknkenlcgaa

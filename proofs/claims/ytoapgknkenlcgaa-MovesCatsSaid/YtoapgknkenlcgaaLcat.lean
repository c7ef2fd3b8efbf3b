/-
  The reference's Cat, whole; the law MovesCats.
-/
import Derived.Test.YtoapgknkenlcgaaRcatk
namespace Go.Proofs.Ytoapgknkenlcgaa
open Go.RowKit

theorem rCat_any (k r l0 l1 : Int) (A : Option Addr) (n c : Nat) (xs : List Int) (k' r' l0' l1' : Int) (A' : Option Addr) (n' c' : Nat) (ys : List Int) (R : Arr × Int) (w : World)
    (hs : Sl w A n c xs) (hs' : Sl w A' n' c' ys) (h : sCat ⟨k, r, l0, l1, xs⟩ ⟨k', r', l0', l1', ys⟩ = R) :
    Calls Try.prog 23 #[.agg #[.int .i64 k, .int .i64 r, .int .i64 l0, .int .i64 l1, .slice A n c], .agg #[.int .i64 k', .int .i64 r', .int .i64 l0', .int .i64 l1', .slice A' n' c']] w (RetA w R) := by
  by_cases he : catE ⟨k, r, l0, l1, xs⟩ ⟨k', r', l0', l1', ys⟩ = 0
  · obtain ⟨m, q, q', ha, hb, hk, hr, hr0, h1, h2⟩ := catE_zero he
    rw [sCat_ok ha hb hk hr hr0 h1 h2] at h
    obtain ⟨ha1, ha2, ha3, ha4, ha5⟩ := ha
    obtain ⟨hb1, hb2, hb3, hb4, hb5⟩ := hb
    simp only at hk hr hr0 ha1 ha2 ha5 hb1 hb2 hb5 h1
    subst hk hr
    have hrb : (r == 0) = false := by simpa using hr0
    have hn : n = m * q := hs.len.symm.trans ha2
    have hn' : n' = m * q' := hs'.len.symm.trans hb2
    have hx := hs.len
    have hy := hs'.len
    unfold catA at h
    simp only at h
    rcases ha5 with ⟨rfl, rfl, rfl, rfl⟩ | ⟨rfl, rfl, rfl⟩
    · rcases hb5 with ⟨_, _, rfl, rfl⟩ | ⟨f1, _⟩
      · rw [if_pos rfl] at h
        have hnq : n = q := by omega
        have hnq' : n' = q' := by omega
        exact rCat_ok k 1 q 0 A n c xs q' 0 A' n' c' ys 1 q q' R w hs hs' ha1 hb1 (fun W => by have := rrows1 k 1 q 0 A n c W rfl; rw [hnq] at this ⊢; exact this) (fun W => by have := rrows1 k 1 q' 0 A' n' c' W rfl; rw [hnq'] at this ⊢; exact this) hn hn' ha3 ha4 hb4 (by omega) h2 hrb (.inl rfl) (by omega) (.inl ⟨rfl, h.symm⟩)
      · omega
    · rcases hb5 with ⟨f1, _⟩ | ⟨_, rfl, rfl⟩
      · omega
      · rw [if_neg (by decide)] at h
        exact rCat_ok k 2 m q A n c xs m q' A' n' c' ys m q q' R w hs hs' ha1 hb1 (fun W => rrows2 _ _ _ _ _ _ _) (fun W => rrows2 _ _ _ _ _ _ _) hn hn' ha3 ha4 hb4 (by omega) h2 hrb (.inr ⟨rfl, rfl⟩) (by omega) (.inr ⟨rfl, h.symm⟩)
  · rw [sCat_err he] at h
    unfold catE at h he
    simp only [chkA] at h he
    obtain ⟨e1, h1⟩ : ∃ e1, achk k r l0 l1 xs = e1 := ⟨_, rfl⟩
    obtain ⟨e2, h2⟩ : ∃ e2, achk k' r' l0' l1' ys = e2 := ⟨_, rfl⟩
    rw [h1, h2] at h he
    by_cases z1 : e1 = 0
    · have ho : orE e1 e2 = e2 := by unfold orE; rw [if_pos z1]
      rw [ho] at h he
      by_cases z2 : e2 = 0
      · rw [if_neg (fun h' => h' z2)] at h he
        by_cases hk : k = k'
        · rw [if_neg (fun h' => h' hk)] at h he
          by_cases hr : r ≠ r' ∨ r = 0
          · rw [if_pos hr] at h
            exact rCat_early k r l0 l1 A n c xs k' r' l0' l1' A' n' c' ys e1 e2 R w hs hs' h1 h2 (.inr (.inr (.inr (.inl ⟨z1, z2, hk, hr, h.symm⟩))))
          · rw [if_neg hr] at h he
            obtain rfl := hk
            obtain rfl : r = r' := by
              by_cases e : r = r'
              · exact e
              · exact absurd (.inl e) hr
            have hr0 : r ≠ 0 := fun e => hr (.inr e)
            have hrb : (r == 0) = false := by simpa using hr0
            by_cases hh : r = 2 ∧ l0 ≠ l0'
            · rw [if_pos hh] at h
              exact rCat_early k r l0 l1 A n c xs k r l0' l1' A' n' c' ys e1 e2 R w hs hs' h1 h2 (.inr (.inr (.inr (.inr ⟨z1, z2, rfl, rfl, hh.1, hh.2, h.symm⟩))))
            · rw [if_neg hh] at h he
              rw [z1] at h1
              rw [z2] at h2
              by_cases hb : 400 < xs.length + ys.length ∨ 400 < colsN ⟨k, r, l0, l1, xs⟩ + colsN ⟨k, r, l0', l1', ys⟩
              · rw [if_pos hb] at h
                obtain ⟨m, q, hl, hm, hq, hc⟩ := rows_len h1 hr0
                obtain ⟨m', q', hl', hm', hq', hc'⟩ := rows_len h2 hr0
                have hx := hs.len
                have hy := hs'.len
                have hn : n ≤ 1000 := by have := achk_len h1; omega
                have hn' : n' ≤ 1000 := by have := achk_len h2; omega
                rcases hc with ⟨rfl, rfl, rfl, rfl⟩ | ⟨rfl, rfl, rfl⟩
                · rcases hc' with ⟨_, rfl, rfl, rfl⟩ | ⟨h5, _⟩
                  · simp [colsN] at hb
                    exact rCat_big k 1 q 0 A n c xs q' 0 A' n' c' ys R w hs hs' h1 h2 hrb (.inl rfl) hn hn' (by omega) (by omega) (.inl (by omega)) h.symm
                  · cases h5
                · rcases hc' with ⟨h5, _⟩ | ⟨_, rfl, rfl⟩
                  · cases h5
                  · simp [colsN] at hb
                    have hmm : (m : Int) = (m' : Int) := by
                      by_cases e : (m : Int) = (m' : Int)
                      · exact e
                      · exact absurd ⟨rfl, e⟩ hh
                    exact rCat_big k 2 m q A n c xs m' q' A' n' c' ys R w hs hs' h1 h2 hrb (.inr ⟨rfl, hmm⟩) hn hn' (by omega) (by omega) (by omega) h.symm
              · rw [if_neg hb] at he
                exact absurd rfl he
        · rw [if_pos hk] at h
          exact rCat_early k r l0 l1 A n c xs k' r' l0' l1' A' n' c' ys e1 e2 R w hs hs' h1 h2 (.inr (.inr (.inl ⟨z1, z2, hk, h.symm⟩)))
      · rw [if_pos z2] at h
        exact rCat_early k r l0 l1 A n c xs k' r' l0' l1' A' n' c' ys e1 e2 R w hs hs' h1 h2 (.inr (.inl ⟨z1, z2, h.symm⟩))
    · have ho : orE e1 e2 = e1 := by unfold orE; rw [if_neg z1]
      rw [ho, if_pos z1] at h
      exact rCat_early k r l0 l1 A n c xs k' r' l0' l1' A' n' c' ys e1 e2 R w hs hs' h1 h2 (.inl ⟨z1, h.symm⟩)
set_option maxHeartbeats 8000000 in
theorem cats_fa (ka ra ua va : Int) (Aa : Option Addr) (na ca : Nat) (xsa : List Int) (kb rb ub vb : Int) (Ab : Option Addr) (nb cb : Nat) (xsb : List Int) (w : World) (hsa : Sl w Aa na ca xsa) (hsb : Sl w Ab nb cb xsb) (hfa : 405 < na) :
    Calls Try.prog 5 #[.agg #[.int .i64 ka, .int .i64 ra, .int .i64 ua, .int .i64 va, .slice Aa na ca], .agg #[.int .i64 kb, .int .i64 rb, .int .i64 ub, .int .i64 vb, .slice Ab nb cb]] w fun e w' => e = .returned (.bool true) ∧ Below w.heap.size w w' := by
  have Sa := Lib.hid hsa
  have Sb := Lib.hid hsb
  clear hsa hsb
  go_enter Try.func5, Try.ntmps5
  go_wp2_with fail
  refine (far_any _ _ _ _ _ _ _ _).mono ?_
  rintro e w1 ⟨rfl, hst⟩
  obtain ⟨Xa, Xb, hst⟩ := after2 hst
  replace Sa := Lib.hid (Sa.out.step hst)
  replace Sb := Lib.hid (Sb.out.step hst)
  have b : Below w.heap.size w w1 := hst
  clear hst
  rw [decide_eq_true hfa]
  have dXa : ∀ i, w1.cell? ⟨w.heap.size, i, none⟩ = _ := Bx.cell Xa
  have eXa : ∀ i, w1.frozen? ⟨w.heap.size, i, none⟩ = false := Bx.frozen Xa
  have qXa := Bx.lt Xa
  have dXb : ∀ i, w1.cell? ⟨w.heap.size + 1, i, none⟩ = _ := Bx.cell Xb
  have eXb : ∀ i, w1.frozen? ⟨w.heap.size + 1, i, none⟩ = false := Bx.frozen Xb
  have qXb := Bx.lt Xb
  go_wp2_with fail
  refine (awake_any _).mono ?_
  rintro e wz ⟨rfl, hbz⟩
  go_wp2
  go_ret
  exact ⟨rfl, bst b hbz⟩
set_option maxHeartbeats 8000000 in
theorem cats_fb (ka ra ua va : Int) (Aa : Option Addr) (na ca : Nat) (xsa : List Int) (kb rb ub vb : Int) (Ab : Option Addr) (nb cb : Nat) (xsb : List Int) (w : World) (hsa : Sl w Aa na ca xsa) (hsb : Sl w Ab nb cb xsb) (hfa : ¬ 405 < na) (hfb : 405 < nb) :
    Calls Try.prog 5 #[.agg #[.int .i64 ka, .int .i64 ra, .int .i64 ua, .int .i64 va, .slice Aa na ca], .agg #[.int .i64 kb, .int .i64 rb, .int .i64 ub, .int .i64 vb, .slice Ab nb cb]] w fun e w' => e = .returned (.bool true) ∧ Below w.heap.size w w' := by
  have Sa := Lib.hid hsa
  have Sb := Lib.hid hsb
  clear hsa hsb
  go_enter Try.func5, Try.ntmps5
  go_wp2_with fail
  refine (far_any _ _ _ _ _ _ _ _).mono ?_
  rintro e w1 ⟨rfl, hst⟩
  obtain ⟨Xa, Xb, hst⟩ := after2 hst
  replace Sa := Lib.hid (Sa.out.step hst)
  replace Sb := Lib.hid (Sb.out.step hst)
  have b : Below w.heap.size w w1 := hst
  clear hst
  rw [decide_eq_false hfa]
  have dXa : ∀ i, w1.cell? ⟨w.heap.size, i, none⟩ = _ := Bx.cell Xa
  have eXa : ∀ i, w1.frozen? ⟨w.heap.size, i, none⟩ = false := Bx.frozen Xa
  have qXa := Bx.lt Xa
  have dXb : ∀ i, w1.cell? ⟨w.heap.size + 1, i, none⟩ = _ := Bx.cell Xb
  have eXb : ∀ i, w1.frozen? ⟨w.heap.size + 1, i, none⟩ = false := Bx.frozen Xb
  have qXb := Bx.lt Xb
  go_wp2_with fail
  refine (far_any _ _ _ _ _ _ _ _).mono ?_
  rintro e w2 ⟨rfl, hst⟩
  clear dXa eXa qXa dXb eXb qXb
  replace Xa := Bx.step Xa hst
  replace Xb := Bx.step Xb hst
  replace Sa := Lib.hid (Sa.out.step hst)
  replace Sb := Lib.hid (Sb.out.step hst)
  replace b : Below w.heap.size w w2 := bst b hst
  clear hst
  rw [decide_eq_true hfb]
  have dXa : ∀ i, w2.cell? ⟨w.heap.size, i, none⟩ = _ := Bx.cell Xa
  have eXa : ∀ i, w2.frozen? ⟨w.heap.size, i, none⟩ = false := Bx.frozen Xa
  have qXa := Bx.lt Xa
  have dXb : ∀ i, w2.cell? ⟨w.heap.size + 1, i, none⟩ = _ := Bx.cell Xb
  have eXb : ∀ i, w2.frozen? ⟨w.heap.size + 1, i, none⟩ = false := Bx.frozen Xb
  have qXb := Bx.lt Xb
  go_wp2_with fail
  refine (awake_any _).mono ?_
  rintro e wz ⟨rfl, hbz⟩
  go_wp2
  go_ret
  exact ⟨rfl, bst b hbz⟩
set_option maxHeartbeats 8000000 in
theorem cats_near (ka ra ua va : Int) (Aa : Option Addr) (na ca : Nat) (xsa : List Int) (kb rb ub vb : Int) (Ab : Option Addr) (nb cb : Nat) (xsb : List Int) (w : World) (hsa : Sl w Aa na ca xsa) (hsb : Sl w Ab nb cb xsb) (hfa : ¬ 405 < na) (hfb : ¬ 405 < nb) :
    Calls Try.prog 5 #[.agg #[.int .i64 ka, .int .i64 ra, .int .i64 ua, .int .i64 va, .slice Aa na ca], .agg #[.int .i64 kb, .int .i64 rb, .int .i64 ub, .int .i64 vb, .slice Ab nb cb]] w fun e w' => e = .returned (.bool true) ∧ Below w.heap.size w w' := by
  have Sa := Lib.hid hsa
  have Sb := Lib.hid hsb
  clear hsa hsb
  obtain ⟨⟨⟨k1, r1, u1, v1, xs1⟩, e1⟩, h1⟩ : ∃ R, sCat ⟨ka, ra, ua, va, xsa⟩ ⟨kb, rb, ub, vb, xsb⟩ = R := ⟨_, rfl⟩
  have H1 := Lib.hid h1
  clear h1
  go_enter Try.func5, Try.ntmps5
  go_wp2_with fail
  refine (far_any _ _ _ _ _ _ _ _).mono ?_
  rintro e w1 ⟨rfl, hst⟩
  obtain ⟨Xa, Xb, hst⟩ := after2 hst
  replace Sa := Lib.hid (Sa.out.step hst)
  replace Sb := Lib.hid (Sb.out.step hst)
  have b : Below w.heap.size w w1 := hst
  clear hst
  rw [decide_eq_false hfa]
  have dXa : ∀ i, w1.cell? ⟨w.heap.size, i, none⟩ = _ := Bx.cell Xa
  have eXa : ∀ i, w1.frozen? ⟨w.heap.size, i, none⟩ = false := Bx.frozen Xa
  have qXa := Bx.lt Xa
  have dXb : ∀ i, w1.cell? ⟨w.heap.size + 1, i, none⟩ = _ := Bx.cell Xb
  have eXb : ∀ i, w1.frozen? ⟨w.heap.size + 1, i, none⟩ = false := Bx.frozen Xb
  have qXb := Bx.lt Xb
  go_wp2_with fail
  refine (far_any _ _ _ _ _ _ _ _).mono ?_
  rintro e w2 ⟨rfl, hst⟩
  clear dXa eXa qXa dXb eXb qXb
  replace Xa := Bx.step Xa hst
  replace Xb := Bx.step Xb hst
  replace Sa := Lib.hid (Sa.out.step hst)
  replace Sb := Lib.hid (Sb.out.step hst)
  replace b : Below w.heap.size w w2 := bst b hst
  clear hst
  rw [decide_eq_false hfb]
  have dXa : ∀ i, w2.cell? ⟨w.heap.size, i, none⟩ = _ := Bx.cell Xa
  have eXa : ∀ i, w2.frozen? ⟨w.heap.size, i, none⟩ = false := Bx.frozen Xa
  have qXa := Bx.lt Xa
  have dXb : ∀ i, w2.cell? ⟨w.heap.size + 1, i, none⟩ = _ := Bx.cell Xb
  have eXb : ∀ i, w2.frozen? ⟨w.heap.size + 1, i, none⟩ = false := Bx.frozen Xb
  have qXb := Bx.lt Xb
  go_wp2_with fail
  refine (mCat_any _ _ _ _ _ _ _ xsa _ _ _ _ _ _ _ xsb _ _ Sa.out Sb.out H1.out).mono ?_
  intro e w3 hR
  obtain ⟨A3, n3, c3, rfl, hS3, hN3, hst⟩ := RetA.flat hR
  clear hR
  clear dXa eXa qXa dXb eXb qXb
  replace Xa := Bx.step Xa hst
  replace Xb := Bx.step Xb hst
  replace Sa := Lib.hid (Sa.out.step hst)
  replace Sb := Lib.hid (Sb.out.step hst)
  replace b : Below w.heap.size w w3 := bst b hst
  clear hst
  have S1 := Lib.hid hS3
  have NS1 := Lib.hid hN3
  clear hS3 hN3
  have dXa : ∀ i, w3.cell? ⟨w.heap.size, i, none⟩ = _ := Bx.cell Xa
  have eXa : ∀ i, w3.frozen? ⟨w.heap.size, i, none⟩ = false := Bx.frozen Xa
  have qXa := Bx.lt Xa
  have dXb : ∀ i, w3.cell? ⟨w.heap.size + 1, i, none⟩ = _ := Bx.cell Xb
  have eXb : ∀ i, w3.frozen? ⟨w.heap.size + 1, i, none⟩ = false := Bx.frozen Xb
  have qXb := Bx.lt Xb
  go_wp2_with fail
  refine (rCat_any _ _ _ _ _ _ _ xsa _ _ _ _ _ _ _ xsb _ _ (Sa.out.step (below1 _ _ )) (Sb.out.step (below1 _ _ )) H1.out).mono ?_
  intro e w4 hR
  obtain ⟨A4, n4, c4, rfl, hS4, hN4, hst⟩ := RetA.flat hR
  clear hR
  clear dXa eXa qXa dXb eXb qXb
  obtain ⟨X1, hst⟩ := after1 hst
  replace Xa := Bx.step Xa hst
  replace Xb := Bx.step Xb hst
  replace Sa := Lib.hid (Sa.out.step hst)
  replace Sb := Lib.hid (Sb.out.step hst)
  replace S1 := Lib.hid (S1.out.step hst)
  replace b : Below w.heap.size w w4 := bst b hst
  clear hst
  have S2 := Lib.hid hS4
  have NS2 := Lib.hid hN4
  clear hS4 hN4
  have dXa : ∀ i, w4.cell? ⟨w.heap.size, i, none⟩ = _ := Bx.cell Xa
  have eXa : ∀ i, w4.frozen? ⟨w.heap.size, i, none⟩ = false := Bx.frozen Xa
  have qXa := Bx.lt Xa
  have dXb : ∀ i, w4.cell? ⟨w.heap.size + 1, i, none⟩ = _ := Bx.cell Xb
  have eXb : ∀ i, w4.frozen? ⟨w.heap.size + 1, i, none⟩ = false := Bx.frozen Xb
  have qXb := Bx.lt Xb
  have dX1 : ∀ i, w4.cell? ⟨w3.heap.size, i, none⟩ = _ := Bx.cell X1
  have eX1 : ∀ i, w4.frozen? ⟨w3.heap.size, i, none⟩ = false := Bx.frozen X1
  have qX1 := Bx.lt X1
  go_wp2_with fail
  refine (alike_true _ _ _ _ _ _ _ _ xs1 _ _ _ _ (S1.out.step (below1 _ _ )) (S2.out.step (below1 _ _ ))).mono ?_
  rintro e w5 ⟨rfl, hst⟩
  clear dXa eXa qXa dXb eXb qXb dX1 eX1 qX1
  obtain ⟨X2, hst⟩ := after1 hst
  replace Xa := Bx.step Xa hst
  replace Xb := Bx.step Xb hst
  replace X1 := Bx.step X1 hst
  replace Sa := Lib.hid (Sa.out.step hst)
  replace Sb := Lib.hid (Sb.out.step hst)
  replace S1 := Lib.hid (S1.out.step hst)
  replace S2 := Lib.hid (S2.out.step hst)
  replace b : Below w.heap.size w w5 := bst b hst
  clear hst
  have dXa : ∀ i, w5.cell? ⟨w.heap.size, i, none⟩ = _ := Bx.cell Xa
  have eXa : ∀ i, w5.frozen? ⟨w.heap.size, i, none⟩ = false := Bx.frozen Xa
  have qXa := Bx.lt Xa
  have dXb : ∀ i, w5.cell? ⟨w.heap.size + 1, i, none⟩ = _ := Bx.cell Xb
  have eXb : ∀ i, w5.frozen? ⟨w.heap.size + 1, i, none⟩ = false := Bx.frozen Xb
  have qXb := Bx.lt Xb
  have dX1 : ∀ i, w5.cell? ⟨w3.heap.size, i, none⟩ = _ := Bx.cell X1
  have eX1 : ∀ i, w5.frozen? ⟨w3.heap.size, i, none⟩ = false := Bx.frozen X1
  have qX1 := Bx.lt X1
  have dX2 : ∀ i, w5.cell? ⟨w4.heap.size, i, none⟩ = _ := Bx.cell X2
  have eX2 : ∀ i, w5.frozen? ⟨w4.heap.size, i, none⟩ = false := Bx.frozen X2
  have qX2 := Bx.lt X2
  go_wp2_with fail
  refine (awake_any _).mono ?_
  rintro e wz ⟨rfl, hbz⟩
  go_wp2
  go_ret
  exact ⟨rfl, bst b hbz⟩
theorem lawCats_any (ka ra ua va : Int) (Aa : Option Addr) (na ca : Nat) (xsa : List Int) (kb rb ub vb : Int) (Ab : Option Addr) (nb cb : Nat) (xsb : List Int) (w : World) (hsa : Sl w Aa na ca xsa) (hsb : Sl w Ab nb cb xsb) :
    Calls Try.prog 5 #[.agg #[.int .i64 ka, .int .i64 ra, .int .i64 ua, .int .i64 va, .slice Aa na ca], .agg #[.int .i64 kb, .int .i64 rb, .int .i64 ub, .int .i64 vb, .slice Ab nb cb]] w fun e w' => e = .returned (.bool true) ∧ Below w.heap.size w w' := by
  by_cases hfa : 405 < na
  · exact cats_fa ka ra ua va Aa na ca xsa kb rb ub vb Ab nb cb xsb w hsa hsb hfa
  by_cases hfb : 405 < nb
  · exact cats_fb ka ra ua va Aa na ca xsa kb rb ub vb Ab nb cb xsb w hsa hsb hfa hfb
  exact cats_near ka ra ua va Aa na ca xsa kb rb ub vb Ab nb cb xsb w hsa hsb hfa hfb
end Go.Proofs.Ytoapgknkenlcgaa

/-
  The law MovesBack.
-/
import Derived.Test.YtoapgknkenlcgaaAwk
import Derived.Test.YtoapgknkenlcgaaMlaw
import Derived.Test.YtoapgknkenlcgaaRsca
namespace Go.Proofs.Ytoapgknkenlcgaa
open Go.RowKit

set_option maxHeartbeats 8000000 in
theorem back_far (k r l0 l1 : Int) (A : Option Addr) (n c : Nat) (xs : List Int) (w : World) (hs : Sl w A n c xs) (hf : 405 < n) :
    Calls Try.prog 6 #[.agg #[.int .i64 k, .int .i64 r, .int .i64 l0, .int .i64 l1, .slice A n c]] w fun e w' => e = .returned (.bool true) ∧ Below w.heap.size w w' := by
  have HS := Lib.hid hs
  have SA := Lib.hid hs
  clear hs
  go_enter Try.func6, Try.ntmps6
  go_wp2_with fail
  refine (far_any _ _ _ _ _ _ _ _).mono ?_
  rintro e w1 ⟨rfl, hst⟩
  obtain ⟨XA, hst⟩ := after1 hst
  replace SA := Lib.hid (SA.out.step hst)
  have b : Below w.heap.size w w1 := hst
  clear hst
  rw [decide_eq_true hf]
  have dXA : ∀ i, w1.cell? ⟨w.heap.size, i, none⟩ = _ := Bx.cell XA
  have eXA : ∀ i, w1.frozen? ⟨w.heap.size, i, none⟩ = false := Bx.frozen XA
  have qXA := Bx.lt XA
  go_wp2_with fail
  refine (awake_any _).mono ?_
  rintro e wz ⟨rfl, hbz⟩
  go_wp2
  go_ret
  exact ⟨rfl, bst b hbz⟩
set_option maxHeartbeats 8000000 in
theorem back_bad (k r l0 l1 : Int) (A : Option Addr) (n c : Nat) (xs : List Int) (w : World) (hs : Sl w A n c xs) (hf : ¬ 405 < n) (ec : Int) (hc : achk k r l0 l1 xs = ec) (he : (ec != 0) = true) :
    Calls Try.prog 6 #[.agg #[.int .i64 k, .int .i64 r, .int .i64 l0, .int .i64 l1, .slice A n c]] w fun e w' => e = .returned (.bool true) ∧ Below w.heap.size w w' := by
  have HS := Lib.hid hs
  have SA := Lib.hid hs
  clear hs
  have HC := Lib.hid hc
  clear hc
  go_enter Try.func6, Try.ntmps6
  go_wp2_with fail
  refine (far_any _ _ _ _ _ _ _ _).mono ?_
  rintro e w1 ⟨rfl, hst⟩
  obtain ⟨XA, hst⟩ := after1 hst
  replace SA := Lib.hid (SA.out.step hst)
  have b : Below w.heap.size w w1 := hst
  clear hst
  rw [decide_eq_false hf]
  have dXA : ∀ i, w1.cell? ⟨w.heap.size, i, none⟩ = _ := Bx.cell XA
  have eXA : ∀ i, w1.frozen? ⟨w.heap.size, i, none⟩ = false := Bx.frozen XA
  have qXA := Bx.lt XA
  go_wp2_with fail
  refine (racheck_any _ _ _ _ _ _ _ xs ec _ SA.out HC.out).mono ?_
  rintro e w2 ⟨rfl, hst⟩
  clear dXA eXA qXA
  replace XA := Bx.step XA hst
  replace SA := Lib.hid (SA.out.step hst)
  replace b : Below w.heap.size w w2 := bst b hst
  clear hst
  have dXA : ∀ i, w2.cell? ⟨w.heap.size, i, none⟩ = _ := Bx.cell XA
  have eXA : ∀ i, w2.frozen? ⟨w.heap.size, i, none⟩ = false := Bx.frozen XA
  have qXA := Bx.lt XA
  go_wp2_with fail
  refine (awake_any _).mono ?_
  rintro e wz ⟨rfl, hbz⟩
  go_wp2
  go_ret
  exact ⟨rfl, bst b hbz⟩
set_option maxHeartbeats 8000000 in
theorem back_scalar (k r l0 l1 : Int) (A : Option Addr) (n c : Nat) (xs : List Int) (w : World) (hs : Sl w A n c xs) (hf : ¬ 405 < n) (hc : achk k r l0 l1 xs = 0) (hr : r = 0) :
    Calls Try.prog 6 #[.agg #[.int .i64 k, .int .i64 r, .int .i64 l0, .int .i64 l1, .slice A n c]] w fun e w' => e = .returned (.bool true) ∧ Below w.heap.size w w' := by
  have HS := Lib.hid hs
  have SA := Lib.hid hs
  clear hs
  subst hr
  have hR : sReverse ⟨k, 0, l0, l1, xs⟩ = (⟨0, 0, 0, 0, []⟩, 22) := by
    unfold sReverse chkA
    simp only
    rw [if_neg (fun h' => h' hc)]
    rfl
  have HC := Lib.hid hc
  have HR := Lib.hid hR
  clear hc hR
  go_enter Try.func6, Try.ntmps6
  go_wp2_with fail
  refine (far_any _ _ _ _ _ _ _ _).mono ?_
  rintro e w1 ⟨rfl, hst⟩
  obtain ⟨XA, hst⟩ := after1 hst
  replace SA := Lib.hid (SA.out.step hst)
  have b : Below w.heap.size w w1 := hst
  clear hst
  rw [decide_eq_false hf]
  have dXA : ∀ i, w1.cell? ⟨w.heap.size, i, none⟩ = _ := Bx.cell XA
  have eXA : ∀ i, w1.frozen? ⟨w.heap.size, i, none⟩ = false := Bx.frozen XA
  have qXA := Bx.lt XA
  go_wp2_with fail
  refine (racheck_any _ _ _ _ _ _ _ xs 0 _ SA.out HC.out).mono ?_
  rintro e w2 ⟨rfl, hst⟩
  clear dXA eXA qXA
  replace XA := Bx.step XA hst
  replace SA := Lib.hid (SA.out.step hst)
  replace b : Below w.heap.size w w2 := bst b hst
  clear hst
  have dXA : ∀ i, w2.cell? ⟨w.heap.size, i, none⟩ = _ := Bx.cell XA
  have eXA : ∀ i, w2.frozen? ⟨w.heap.size, i, none⟩ = false := Bx.frozen XA
  have qXA := Bx.lt XA
  go_wp2_with fail
  refine (mReverse_any _ _ _ _ _ _ _ xs _ _ SA.out HR.out).mono ?_
  intro e w3 hR
  obtain ⟨A3, n3, c3, rfl, hS3, hN3, hst⟩ := RetA.flat hR
  clear hR
  clear dXA eXA qXA
  replace XA := Bx.step XA hst
  replace SA := Lib.hid (SA.out.step hst)
  replace b : Below w.heap.size w w3 := bst b hst
  clear hst
  have SB := Lib.hid hS3
  have NSB := Lib.hid hN3
  clear hS3 hN3
  obtain rfl : n3 = 0 := SB.out.len.symm
  have dXA : ∀ i, w3.cell? ⟨w.heap.size, i, none⟩ = _ := Bx.cell XA
  have eXA : ∀ i, w3.frozen? ⟨w.heap.size, i, none⟩ = false := Bx.frozen XA
  have qXA := Bx.lt XA
  go_wp2_with fail
  refine (fails_true 22 A3 c3 _).mono ?_
  rintro e w4 ⟨rfl, hst⟩
  clear dXA eXA qXA
  obtain ⟨XB, hst⟩ := after1 hst
  replace XA := Bx.step XA hst
  replace SA := Lib.hid (SA.out.step hst)
  replace SB := Lib.hid (SB.out.step hst)
  replace b : Below w.heap.size w w4 := bst b hst
  clear hst
  have dXA : ∀ i, w4.cell? ⟨w.heap.size, i, none⟩ = _ := Bx.cell XA
  have eXA : ∀ i, w4.frozen? ⟨w.heap.size, i, none⟩ = false := Bx.frozen XA
  have qXA := Bx.lt XA
  have dXB : ∀ i, w4.cell? ⟨w3.heap.size, i, none⟩ = _ := Bx.cell XB
  have eXB : ∀ i, w4.frozen? ⟨w3.heap.size, i, none⟩ = false := Bx.frozen XB
  have qXB := Bx.lt XB
  go_wp2_with fail
  refine (awake_any _).mono ?_
  rintro e wz ⟨rfl, hbz⟩
  go_wp2
  go_ret
  exact ⟨rfl, bst b hbz⟩
set_option maxHeartbeats 8000000 in
theorem back_vector (k r l0 l1 : Int) (A : Option Addr) (n c : Nat) (xs : List Int) (w : World) (hs : Sl w A n c xs) (hf : ¬ 405 < n) (m q : Nat) (hc : achk k r l0 l1 xs = 0) (hr : (r == 0) = false) (hr1 : (r == 1) = true) (hR : sReverse ⟨k, r, l0, l1, xs⟩ = (⟨k, r, l0, l1, rv m q xs⟩, 0)) (hR2 : sReverse ⟨k, r, l0, l1, rv m q xs⟩ = (⟨k, r, l0, l1, xs⟩, 0)) :
    Calls Try.prog 6 #[.agg #[.int .i64 k, .int .i64 r, .int .i64 l0, .int .i64 l1, .slice A n c]] w fun e w' => e = .returned (.bool true) ∧ Below w.heap.size w w' := by
  have HS := Lib.hid hs
  have SA := Lib.hid hs
  clear hs
  have HC := Lib.hid hc
  have HR := Lib.hid hR
  have HR2 := Lib.hid hR2
  clear hc hR hR2
  go_enter Try.func6, Try.ntmps6
  go_wp2_with fail
  refine (far_any _ _ _ _ _ _ _ _).mono ?_
  rintro e w1 ⟨rfl, hst⟩
  obtain ⟨XA, hst⟩ := after1 hst
  replace SA := Lib.hid (SA.out.step hst)
  have b : Below w.heap.size w w1 := hst
  clear hst
  rw [decide_eq_false hf]
  have dXA : ∀ i, w1.cell? ⟨w.heap.size, i, none⟩ = _ := Bx.cell XA
  have eXA : ∀ i, w1.frozen? ⟨w.heap.size, i, none⟩ = false := Bx.frozen XA
  have qXA := Bx.lt XA
  go_wp2_with fail
  refine (racheck_any _ _ _ _ _ _ _ xs 0 _ SA.out HC.out).mono ?_
  rintro e w2 ⟨rfl, hst⟩
  clear dXA eXA qXA
  replace XA := Bx.step XA hst
  replace SA := Lib.hid (SA.out.step hst)
  replace b : Below w.heap.size w w2 := bst b hst
  clear hst
  have dXA : ∀ i, w2.cell? ⟨w.heap.size, i, none⟩ = _ := Bx.cell XA
  have eXA : ∀ i, w2.frozen? ⟨w.heap.size, i, none⟩ = false := Bx.frozen XA
  have qXA := Bx.lt XA
  go_wp2_with fail
  refine (mReverse_any _ _ _ _ _ _ _ xs _ _ SA.out HR.out).mono ?_
  intro e w3 hR
  obtain ⟨A3, n3, c3, rfl, hS3, hN3, hst⟩ := RetA.flat hR
  clear hR
  clear dXA eXA qXA
  replace XA := Bx.step XA hst
  replace SA := Lib.hid (SA.out.step hst)
  replace b : Below w.heap.size w w3 := bst b hst
  clear hst
  have SB := Lib.hid hS3
  have NSB := Lib.hid hN3
  clear hS3 hN3
  have dXA : ∀ i, w3.cell? ⟨w.heap.size, i, none⟩ = _ := Bx.cell XA
  have eXA : ∀ i, w3.frozen? ⟨w.heap.size, i, none⟩ = false := Bx.frozen XA
  have qXA := Bx.lt XA
  go_wp2_with fail
  refine (mReverse_any _ _ _ _ _ _ _ (rv m q xs) _ _ (SB.out.step (below1 _ _ )) HR2.out).mono ?_
  intro e w4 hR
  obtain ⟨A4, n4, c4, rfl, hS4, hN4, hst⟩ := RetA.flat hR
  clear hR
  clear dXA eXA qXA
  obtain ⟨XB, hst⟩ := after1 hst
  replace XA := Bx.step XA hst
  replace SA := Lib.hid (SA.out.step hst)
  replace SB := Lib.hid (SB.out.step hst)
  replace b : Below w.heap.size w w4 := bst b hst
  clear hst
  have SC := Lib.hid hS4
  have NSC := Lib.hid hN4
  clear hS4 hN4
  have dXA : ∀ i, w4.cell? ⟨w.heap.size, i, none⟩ = _ := Bx.cell XA
  have eXA : ∀ i, w4.frozen? ⟨w.heap.size, i, none⟩ = false := Bx.frozen XA
  have qXA := Bx.lt XA
  have dXB : ∀ i, w4.cell? ⟨w3.heap.size, i, none⟩ = _ := Bx.cell XB
  have eXB : ∀ i, w4.frozen? ⟨w3.heap.size, i, none⟩ = false := Bx.frozen XB
  have qXB := Bx.lt XB
  go_wp2_with fail
  refine (is_true _ _ _ _ _ _ _ xs _ _ _ _ (SC.out.step (below1 _ _ )) (SA.out.step (below1 _ _ ))).mono ?_
  rintro e w5 ⟨rfl, hst⟩
  clear dXA eXA qXA dXB eXB qXB
  obtain ⟨XC, hst⟩ := after1 hst
  replace XA := Bx.step XA hst
  replace XB := Bx.step XB hst
  replace SA := Lib.hid (SA.out.step hst)
  replace SB := Lib.hid (SB.out.step hst)
  replace SC := Lib.hid (SC.out.step hst)
  replace b : Below w.heap.size w w5 := bst b hst
  clear hst
  have dXA : ∀ i, w5.cell? ⟨w.heap.size, i, none⟩ = _ := Bx.cell XA
  have eXA : ∀ i, w5.frozen? ⟨w.heap.size, i, none⟩ = false := Bx.frozen XA
  have qXA := Bx.lt XA
  have dXB : ∀ i, w5.cell? ⟨w3.heap.size, i, none⟩ = _ := Bx.cell XB
  have eXB : ∀ i, w5.frozen? ⟨w3.heap.size, i, none⟩ = false := Bx.frozen XB
  have qXB := Bx.lt XB
  have dXC : ∀ i, w5.cell? ⟨w4.heap.size, i, none⟩ = _ := Bx.cell XC
  have eXC : ∀ i, w5.frozen? ⟨w4.heap.size, i, none⟩ = false := Bx.frozen XC
  have qXC := Bx.lt XC
  go_wp2_with fail
  refine (awake_any _).mono ?_
  rintro e wz ⟨rfl, hbz⟩
  go_wp2
  go_ret
  exact ⟨rfl, bst b hbz⟩
/-- j quarter turns. -/
def tAt (m q : Nat) (xs : List Int) : Nat → Nat × Nat × List Int
  | 0 => (m, q, xs)
  | j + 1 => let t := tAt m q xs j; (t.2.1, t.1, tn t.1 t.2.1 t.2.2)
theorem tAt4 {m q : Nat} {xs : List Int} (hl : xs.length = m * q) : tAt m q xs 4 = (m, q, xs) := by
  show (m, q, tn q m (tn m q (tn q m (tn m q xs)))) = _
  rw [tn4 hl]
theorem Sl.ne_lo {w : World} {A : Option Addr} {n c : Nat} {xs : List Int} (h : Sl w A n c xs) {B : Nat} (hB : w.heap.size ≤ B) : 0 < n → ∀ b o, A = some ⟨b, o, none⟩ → b ≠ B := fun hn b o e => by
  obtain ⟨b', o', hA, hlt, _⟩ := h.at_ hn
  rw [hA] at e
  cases e
  omega
theorem New.ne_hi {w : World} {A : Option Addr} (h : New w A) {B n : Nat} (hB : B < w.heap.size) : 0 < n → ∀ b o, A = some ⟨b, o, none⟩ → b ≠ B := fun _ b o e => by
  have := h b o none e
  omega
theorem Sl.past5z {w : World} {A : Option Addr} {n c : Nat} {xs : List Int} (h : Sl w A n c xs) {B : Nat} (v0 v1 v2 v3 v4 : Value) (hB : 0 < n → ∀ b o, A = some ⟨b, o, none⟩ → b ≠ B) : Sl (((((w.setCell ⟨B, 0, none⟩ v0).setCell ⟨B, 1, none⟩ v1).setCell ⟨B, 2, none⟩ v2).setCell ⟨B, 3, none⟩ v3).setCell ⟨B, 4, none⟩ v4) A n c xs := by
  obtain ⟨h1, h2, h3, h4⟩ := h
  refine ⟨h1, h2, h3, fun hn => ?_⟩
  obtain ⟨b, o, hA, hlt, hc⟩ := h4 hn
  exact ⟨b, o, hA, by simpa [World.setCell] using hlt, fun j hj => (set5_cell w B v0 v1 v2 v3 v4 (hB hn b o hA)).trans (hc j hj)⟩
set_option maxHeartbeats 8000000 in
theorem back_matrix (k : Int) (m q : Nat) (A : Option Addr) (n c : Nat) (xs : List Int) (w : World) (hs : Sl w A n c xs) (hf : ¬ 405 < n) (hc : achk k 2 m q xs = 0) (hlen : xs.length = m * q)
    (hR : sReverse ⟨k, 2, m, q, xs⟩ = (⟨k, 2, m, q, rv m q xs⟩, 0)) (hR2 : sReverse ⟨k, 2, m, q, rv m q xs⟩ = (⟨k, 2, m, q, xs⟩, 0))
    (hF : sFlip ⟨k, 2, m, q, xs⟩ = (⟨k, 2, q, m, fl m q xs⟩, 0)) (hF2 : sFlip ⟨k, 2, q, m, fl m q xs⟩ = (⟨k, 2, m, q, xs⟩, 0)) :
    Calls Try.prog 6 #[.agg #[.int .i64 k, .int .i64 2, .int .i64 m, .int .i64 q, .slice A n c]] w fun e w' => e = .returned (.bool true) ∧ Below w.heap.size w w' := by
  have HS := Lib.hid hs
  have SA := Lib.hid hs
  clear hs
  have HC := Lib.hid hc
  have HR := Lib.hid hR
  have HR2 := Lib.hid hR2
  have HF := Lib.hid hF
  have HF2 := Lib.hid hF2
  have HXL := Lib.hid (show achk k 2 m q xs = 0 ∧ xs.length = m * q from ⟨hc, hlen⟩)
  clear hc hlen hR hR2 hF hF2
  go_enter Try.func6, Try.ntmps6
  go_wp2_with fail
  refine (far_any _ _ _ _ _ _ _ _).mono ?_
  rintro e w1 ⟨rfl, hst⟩
  obtain ⟨XA, hst⟩ := after1 hst
  replace SA := Lib.hid (SA.out.step hst)
  have b : Below w.heap.size w w1 := hst
  clear hst
  rw [decide_eq_false hf]
  have dXA : ∀ i, w1.cell? ⟨w.heap.size, i, none⟩ = _ := Bx.cell XA
  have eXA : ∀ i, w1.frozen? ⟨w.heap.size, i, none⟩ = false := Bx.frozen XA
  have qXA := Bx.lt XA
  go_wp2_with fail
  refine (racheck_any _ _ _ _ _ _ _ xs 0 _ SA.out HC.out).mono ?_
  rintro e w2 ⟨rfl, hst⟩
  clear dXA eXA qXA
  replace XA := Bx.step XA hst
  replace SA := Lib.hid (SA.out.step hst)
  replace b : Below w.heap.size w w2 := bst b hst
  clear hst
  have dXA : ∀ i, w2.cell? ⟨w.heap.size, i, none⟩ = _ := Bx.cell XA
  have eXA : ∀ i, w2.frozen? ⟨w.heap.size, i, none⟩ = false := Bx.frozen XA
  have qXA := Bx.lt XA
  go_wp2_with fail
  refine (mReverse_any _ _ _ _ _ _ _ xs _ _ SA.out HR.out).mono ?_
  intro e w3 hR
  obtain ⟨A3, n3, c3, rfl, hS3, hN3, hst⟩ := RetA.flat hR
  clear hR
  clear dXA eXA qXA
  replace XA := Bx.step XA hst
  replace SA := Lib.hid (SA.out.step hst)
  replace b : Below w.heap.size w w3 := bst b hst
  clear hst
  have SB := Lib.hid hS3
  have NSB := Lib.hid hN3
  clear hS3 hN3
  have zXB := b.size
  have nx_XA_XB := Nat.ne_of_lt (Bx.lt XA)
  have dXA : ∀ i, w3.cell? ⟨w.heap.size, i, none⟩ = _ := Bx.cell XA
  have eXA : ∀ i, w3.frozen? ⟨w.heap.size, i, none⟩ = false := Bx.frozen XA
  have qXA := Bx.lt XA
  go_wp2_with fail
  refine (mReverse_any _ _ _ _ _ _ _ (rv m q xs) _ _ (SB.out.step (below1 _ _ )) HR2.out).mono ?_
  intro e w4 hR
  obtain ⟨A4, n4, c4, rfl, hS4, hN4, hst⟩ := RetA.flat hR
  clear hR
  clear dXA eXA qXA
  obtain ⟨XB, hst⟩ := after1 hst
  replace XA := Bx.step XA hst
  replace SA := Lib.hid (SA.out.step hst)
  replace SB := Lib.hid (SB.out.step hst)
  replace b : Below w.heap.size w w4 := bst b hst
  clear hst
  have SC := Lib.hid hS4
  have NSC := Lib.hid hN4
  clear hS4 hN4
  have zXC := b.size
  have nx_XA_XC := Nat.ne_of_lt (Bx.lt XA)
  have nx_XB_XC := Nat.ne_of_lt (Bx.lt XB)
  have nx_XC_XB := Ne.symm nx_XB_XC
  have dXA : ∀ i, w4.cell? ⟨w.heap.size, i, none⟩ = _ := Bx.cell XA
  have eXA : ∀ i, w4.frozen? ⟨w.heap.size, i, none⟩ = false := Bx.frozen XA
  have qXA := Bx.lt XA
  have dXB : ∀ i, w4.cell? ⟨w3.heap.size, i, none⟩ = _ := Bx.cell XB
  have eXB : ∀ i, w4.frozen? ⟨w3.heap.size, i, none⟩ = false := Bx.frozen XB
  have qXB := Bx.lt XB
  go_wp2_with fail
  refine (is_true _ _ _ _ _ _ _ xs _ _ _ _ (SC.out.step (below1 _ _ )) (SA.out.step (below1 _ _ ))).mono ?_
  rintro e w5 ⟨rfl, hst⟩
  clear dXA eXA qXA dXB eXB qXB
  obtain ⟨XC, hst⟩ := after1 hst
  replace XA := Bx.step XA hst
  replace XB := Bx.step XB hst
  replace SA := Lib.hid (SA.out.step hst)
  replace SB := Lib.hid (SB.out.step hst)
  replace SC := Lib.hid (SC.out.step hst)
  replace b : Below w.heap.size w w5 := bst b hst
  clear hst
  have dXA : ∀ i, w5.cell? ⟨w.heap.size, i, none⟩ = _ := Bx.cell XA
  have eXA : ∀ i, w5.frozen? ⟨w.heap.size, i, none⟩ = false := Bx.frozen XA
  have qXA := Bx.lt XA
  have dXB : ∀ i, w5.cell? ⟨w3.heap.size, i, none⟩ = _ := Bx.cell XB
  have eXB : ∀ i, w5.frozen? ⟨w3.heap.size, i, none⟩ = false := Bx.frozen XB
  have qXB := Bx.lt XB
  have dXC : ∀ i, w5.cell? ⟨w4.heap.size, i, none⟩ = _ := Bx.cell XC
  have eXC : ∀ i, w5.frozen? ⟨w4.heap.size, i, none⟩ = false := Bx.frozen XC
  have qXC := Bx.lt XC
  go_wp2_with fail
  clear SB
  clear SC
  clear NSB NSC
  have hiB := Bx.lt XB
  have hiC := Bx.lt XC
  refine (mFlip_any _ _ _ _ _ _ _ xs _ _ SA.out HF.out).mono ?_
  intro e w6 hR
  obtain ⟨A6, n6, c6, rfl, hS6, hN6, hst⟩ := RetA.flat hR
  clear hR
  clear dXA eXA qXA dXB eXB qXB dXC eXC qXC
  replace XA := Bx.step XA hst
  replace XB := Bx.step XB hst
  replace XC := Bx.step XC hst
  replace SA := Lib.hid (SA.out.step hst)
  replace b : Below w.heap.size w w6 := bst b hst
  clear hst
  have SD := Lib.hid hS6
  have NSD := Lib.hid hN6
  clear hS6 hN6
  have ne_SA_XB := Lib.hid (HS.out.ne_lo zXB)
  have ne_SD_XB := Lib.hid (New.ne_hi (n := n6) NSD.out hiB)
  have dXA : ∀ i, w6.cell? ⟨w.heap.size, i, none⟩ = _ := Bx.cell XA
  have eXA : ∀ i, w6.frozen? ⟨w.heap.size, i, none⟩ = false := Bx.frozen XA
  have qXA := Bx.lt XA
  have dXB : ∀ i, w6.cell? ⟨w3.heap.size, i, none⟩ = _ := Bx.cell XB
  have eXB : ∀ i, w6.frozen? ⟨w3.heap.size, i, none⟩ = false := Bx.frozen XB
  have qXB := Bx.lt XB
  have dXC : ∀ i, w6.cell? ⟨w4.heap.size, i, none⟩ = _ := Bx.cell XC
  have eXC : ∀ i, w6.frozen? ⟨w4.heap.size, i, none⟩ = false := Bx.frozen XC
  have qXC := Bx.lt XC
  go_wp2_with fail
  have hiC := Bx.lt XC
  refine (mFlip_any _ _ _ _ _ _ _ (fl m q xs) _ _ (Sl.past5z SD.out _ _ _ _ _ (ne_SD_XB).out) HF2.out).mono ?_
  intro e w7 hR
  obtain ⟨A7, n7, c7, rfl, hS7, hN7, hst⟩ := RetA.flat hR
  clear hR
  clear dXA eXA qXA dXB eXB qXB dXC eXC qXC
  have hsz_XB := zXB
  replace XA := Bx.step (Bx.past5 XA _ _ _ _ _ nx_XA_XB) hst
  replace XB := Bx.step (Bx.set5 XB _ _ _ _ _) hst
  replace XC := Bx.step (Bx.past5 XC _ _ _ _ _ nx_XC_XB) hst
  replace SA := Lib.hid ((Sl.past5z SA.out _ _ _ _ _ (ne_SA_XB).out).step hst)
  replace SD := Lib.hid ((Sl.past5z SD.out _ _ _ _ _ (ne_SD_XB).out).step hst)
  replace b : Below w.heap.size w w7 := bst (below_set5 b zXB _ _ _ _ _) hst
  clear hst
  have SE := Lib.hid hS7
  have NSE := Lib.hid hN7
  clear hS7 hN7
  have ne_SA_XC := Lib.hid (HS.out.ne_lo zXC)
  have ne_SE_XC := Lib.hid (New.ne_hi (n := n7) NSE.out (by have := hiC; simpa [World.setCell] using this))
  clear SD
  clear NSD
  have dXA : ∀ i, w7.cell? ⟨w.heap.size, i, none⟩ = _ := Bx.cell XA
  have eXA : ∀ i, w7.frozen? ⟨w.heap.size, i, none⟩ = false := Bx.frozen XA
  have qXA := Bx.lt XA
  have dXB : ∀ i, w7.cell? ⟨w3.heap.size, i, none⟩ = _ := Bx.cell XB
  have eXB : ∀ i, w7.frozen? ⟨w3.heap.size, i, none⟩ = false := Bx.frozen XB
  have qXB := Bx.lt XB
  have dXC : ∀ i, w7.cell? ⟨w4.heap.size, i, none⟩ = _ := Bx.cell XC
  have eXC : ∀ i, w7.frozen? ⟨w4.heap.size, i, none⟩ = false := Bx.frozen XC
  have qXC := Bx.lt XC
  go_wp2_with fail
  refine (is_true _ _ _ _ _ _ _ xs _ _ _ _ (Sl.past5z SE.out _ _ _ _ _ (ne_SE_XC).out) (Sl.past5z SA.out _ _ _ _ _ (ne_SA_XC).out)).mono ?_
  rintro e w8 ⟨rfl, hst⟩
  clear dXA eXA qXA dXB eXB qXB dXC eXC qXC
  have hsz_XC := zXC
  replace XA := Bx.step (Bx.past5 XA _ _ _ _ _ nx_XA_XC) hst
  replace XB := Bx.step (Bx.past5 XB _ _ _ _ _ nx_XB_XC) hst
  replace XC := Bx.step (Bx.set5 XC _ _ _ _ _) hst
  replace SA := Lib.hid ((Sl.past5z SA.out _ _ _ _ _ (ne_SA_XC).out).step hst)
  replace SE := Lib.hid ((Sl.past5z SE.out _ _ _ _ _ (ne_SE_XC).out).step hst)
  replace b : Below w.heap.size w w8 := bst (below_set5 b zXC _ _ _ _ _) hst
  clear hst
  have dXA : ∀ i, w8.cell? ⟨w.heap.size, i, none⟩ = _ := Bx.cell XA
  have eXA : ∀ i, w8.frozen? ⟨w.heap.size, i, none⟩ = false := Bx.frozen XA
  have qXA := Bx.lt XA
  have dXB : ∀ i, w8.cell? ⟨w3.heap.size, i, none⟩ = _ := Bx.cell XB
  have eXB : ∀ i, w8.frozen? ⟨w3.heap.size, i, none⟩ = false := Bx.frozen XB
  have qXB := Bx.lt XB
  have dXC : ∀ i, w8.cell? ⟨w4.heap.size, i, none⟩ = _ := Bx.cell XC
  have eXC : ∀ i, w8.frozen? ⟨w4.heap.size, i, none⟩ = false := Bx.frozen XC
  have qXC := Bx.lt XC
  go_wp2_with fail
  have XT := Bx.new w8 #[.int .i64 k, .int .i64 2, .int .i64 m, .int .i64 q, .slice A n c] 25
  have hst := below1 w8 (.cells #[.int .i64 k, .int .i64 2, .int .i64 m, .int .i64 q, .slice A n c] 25)
  obtain ⟨w9, hw9⟩ : ∃ w9, w8.alloc (.cells #[.int .i64 k, .int .i64 2, .int .i64 m, .int .i64 q, .slice A n c] 25) = w9 := ⟨_, rfl⟩
  rw [hw9] at XT hst
  rw [hw9]
  clear hw9
  have zXT := b.size
  have nx_XA_XT := Nat.ne_of_lt (Bx.lt XA)
  clear dXA eXA qXA dXB eXB qXB dXC eXC qXC
  replace XA := Bx.step XA hst
  replace SA := Lib.hid (SA.out.step hst)
  replace b := bst b hst
  clear hst XB XC
  have ne_SA_XT := Lib.hid (HS.out.ne_lo zXT)
  go_loopw [10] (fun i wr => ∃ (j a d : Nat) (ys : List Int) (A2 : Option Addr) (n2 c2 : Nat), j ≤ 4 ∧ i = .int .i64 j ∧ Below w.heap.size w wr ∧ Bx wr w.heap.size #[.int .i64 k, .int .i64 2, .int .i64 m, .int .i64 q, .slice A n c] 25 ∧ Bx wr w8.heap.size #[.int .i64 k, .int .i64 2, .int .i64 a, .int .i64 d, .slice A2 n2 c2] 25 ∧ Hid (Sl wr A2 n2 c2 ys) ∧ Hid (tAt m q xs j = (a, d, ys)) ∧ Hid (achk k 2 a d ys = 0 ∧ ys.length = a * d)) (fun i _ => 4 - (intOf i).toNat)
  case atStart => exact ⟨0, m, q, xs, A, n, c, by omega, rfl, b, XA, XT, SA, Lib.hid rfl, HXL⟩
  case round =>
    clear b XA XT SA
    obtain ⟨j, a, d, ys, A2, n2, c2, hj, rfl, b, XA, XT, ST, HT, HC2⟩ := hrel
    have hlo := Bx.lt XT
    by_cases hlt : j < 4
    · have hj4 : (j : Int) < 4 := by omega
      have HF := Lib.hid (sFlip_ok HC2.out.1)
      have HR := Lib.hid (sReverse_ok (fl_chk HC2.out.1 HC2.out.2) (by decide) (.inr ⟨rfl, rfl, rfl⟩) : sReverse ⟨k, 2, d, a, fl a d ys⟩ = (⟨k, 2, d, a, tn a d ys⟩, 0))
      have dXA : ∀ i, wr.cell? ⟨w.heap.size, i, none⟩ = _ := Bx.cell XA
      have eXA : ∀ i, wr.frozen? ⟨w.heap.size, i, none⟩ = false := Bx.frozen XA
      have qXA := Bx.lt XA
      have dXT : ∀ i, wr.cell? ⟨w8.heap.size, i, none⟩ = _ := Bx.cell XT
      have eXT : ∀ i, wr.frozen? ⟨w8.heap.size, i, none⟩ = false := Bx.frozen XT
      have qXT := Bx.lt XT
      go_wp2_with fail
      refine (mFlip_any _ _ _ _ _ _ _ ys _ _ ST.out HF.out).mono ?_
      intro e w21 hR
      obtain ⟨A21, n21, c21, rfl, hS21, hN21, hst⟩ := RetA.flat hR
      clear hR
      clear dXA eXA qXA dXT eXT qXT
      replace XA := Bx.step XA hst
      replace XT := Bx.step XT hst
      replace ST := Lib.hid (ST.out.step hst)
      replace b : Below w.heap.size w w21 := bst b hst
      clear hst
      have SF := Lib.hid hS21
      have NSF := Lib.hid hN21
      clear hS21 hN21
      have dXA : ∀ i, w21.cell? ⟨w.heap.size, i, none⟩ = _ := Bx.cell XA
      have eXA : ∀ i, w21.frozen? ⟨w.heap.size, i, none⟩ = false := Bx.frozen XA
      have qXA := Bx.lt XA
      have dXT : ∀ i, w21.cell? ⟨w8.heap.size, i, none⟩ = _ := Bx.cell XT
      have eXT : ∀ i, w21.frozen? ⟨w8.heap.size, i, none⟩ = false := Bx.frozen XT
      have qXT := Bx.lt XT
      go_wp2_with fail
      have hiT := Bx.lt XT
      refine (mReverse_any _ _ _ _ _ _ _ (fl a d ys) _ _ (SF.out.step (below1 _ _ )) HR.out).mono ?_
      intro e w22 hR
      obtain ⟨A22, n22, c22, rfl, hS22, hN22, hst⟩ := RetA.flat hR
      clear hR
      clear dXA eXA qXA dXT eXT qXT
      obtain ⟨XF, hst⟩ := after1 hst
      replace XA := Bx.step XA hst
      replace XT := Bx.step XT hst
      replace ST := Lib.hid (ST.out.step hst)
      replace SF := Lib.hid (SF.out.step hst)
      replace b : Below w.heap.size w w22 := bst b hst
      clear hst
      have SG := Lib.hid hS22
      have NSG := Lib.hid hN22
      clear hS22 hN22
      have zz : w8.heap.size < w22.heap.size := Bx.lt XT
      have ne_SG_XT := Lib.hid (New.ne_hi (n := n22) NSG.out (B := w8.heap.size) (by rw [World.size_alloc]; omega))
      have dXA : ∀ i, w22.cell? ⟨w.heap.size, i, none⟩ = _ := Bx.cell XA
      have eXA : ∀ i, w22.frozen? ⟨w.heap.size, i, none⟩ = false := Bx.frozen XA
      have qXA := Bx.lt XA
      have dXT : ∀ i, w22.cell? ⟨w8.heap.size, i, none⟩ = _ := Bx.cell XT
      have eXT : ∀ i, w22.frozen? ⟨w8.heap.size, i, none⟩ = false := Bx.frozen XT
      have qXT := Bx.lt XT
      have dXF : ∀ i, w22.cell? ⟨w21.heap.size, i, none⟩ = _ := Bx.cell XF
      have eXF : ∀ i, w22.frozen? ⟨w21.heap.size, i, none⟩ = false := Bx.frozen XF
      have qXF := Bx.lt XF
      have DT : ∀ i, (w22.alloc (.cells #[.int .i64 k, .int .i64 2, .int .i64 d, .int .i64 a, .slice A22 n22 c22] 25)).cell? ⟨w8.heap.size, i, none⟩ = _ := Bx.cell (Bx.alloc XT (.cells #[.int .i64 k, .int .i64 2, .int .i64 d, .int .i64 a, .slice A22 n22 c22] 25))
      go_wp2
      refine ⟨⟨j + 1, d, a, tn a d ys, A22, n22, c22, by omega, rfl, bal (below_set5 b zXT _ _ _ _ _) _, Bx.alloc (Bx.past5 XA _ _ _ _ _ nx_XA_XT) _, Bx.alloc (Bx.set5 XT _ _ _ _ _) _, Lib.hid ((Sl.past5z SG.out _ _ _ _ _ ne_SG_XT.out).step (below1 _ _)), Lib.hid ?_, Lib.hid ⟨tn_chk HC2.out.1 HC2.out.2, tn_len⟩⟩, ?_⟩
      · show (let t := tAt m q xs j; (t.2.1, t.1, tn t.1 t.2.1 t.2.2)) = _
        rw [HT.out]
      · simp only [intOf]; omega
    · obtain rfl : j = 4 := by omega
      have h4 := HT.out
      rw [tAt4 HXL.out.2] at h4
      simp only [Prod.mk.injEq] at h4
      obtain ⟨rfl, rfl, rfl⟩ := h4
      have dXA : ∀ i, wr.cell? ⟨w.heap.size, i, none⟩ = _ := Bx.cell XA
      have eXA : ∀ i, wr.frozen? ⟨w.heap.size, i, none⟩ = false := Bx.frozen XA
      have qXA := Bx.lt XA
      have dXT : ∀ i, wr.cell? ⟨w8.heap.size, i, none⟩ = _ := Bx.cell XT
      have eXT : ∀ i, wr.frozen? ⟨w8.heap.size, i, none⟩ = false := Bx.frozen XT
      have qXT := Bx.lt XT
      go_wp2_with fail
      refine (rsame_any _ _ _ _ _ _ _ xs _ _ _ _ _ _ _ xs true _ ST.out (HS.out.step b) (by simp)).mono ?_
      rintro e w31 ⟨rfl, hst⟩
      clear dXA eXA qXA dXT eXT qXT
      replace XA := Bx.step XA hst
      replace XT := Bx.step XT hst
      replace ST := Lib.hid (ST.out.step hst)
      replace b : Below w.heap.size w w31 := bst b hst
      clear hst
      have dXA : ∀ i, w31.cell? ⟨w.heap.size, i, none⟩ = _ := Bx.cell XA
      have eXA : ∀ i, w31.frozen? ⟨w.heap.size, i, none⟩ = false := Bx.frozen XA
      have qXA := Bx.lt XA
      have dXT : ∀ i, w31.cell? ⟨w8.heap.size, i, none⟩ = _ := Bx.cell XT
      have eXT : ∀ i, w31.frozen? ⟨w8.heap.size, i, none⟩ = false := Bx.frozen XT
      have qXT := Bx.lt XT
      go_wp2_with fail
      refine (awake_any _).mono ?_
      rintro e wz ⟨rfl, hbz⟩
      go_wp2
      go_ret
      exact ⟨rfl, bst b hbz⟩
end Go.Proofs.Ytoapgknkenlcgaa

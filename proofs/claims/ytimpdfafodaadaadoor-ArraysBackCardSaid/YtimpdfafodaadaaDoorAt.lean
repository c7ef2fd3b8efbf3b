/-
  arrays.at, arrays.At and the reference's At.
-/
import Derived.Test.YtimpdfafodaadaaDoorAdef
import Derived.Test.YtimpdfafodaadaaDoorRarr
import Derived.Test.YtimpdfafodaadaaDoorRpl
import Derived.Test.YtimpdfafodaadaaDoorPlp
import Derived.Deep.RegionHeld3
namespace Go.Proofs.YtimpdfafodaadaaDoor
open Go.RowKit
attribute [local go_sem] Oper.semAt_some

/-- A place that is found is a cell. -/
theorem atP_bounds {k r l0 l1 : Int} {xs : List Int} {x0 x1 p : Int} (h : sAtP ⟨k, r, l0, l1, xs⟩ x0 x1 = (p, 0)) : 0 ≤ p ∧ p < xs.length ∧ xs.length ≤ 400 := by
  obtain ⟨hc, hp⟩ := atP_ok h
  obtain ⟨_, _, h0, h1⟩ := index_place hp
  have hl : (xs.length : Int) = prodI r l0 l1 := (chkA_ok hc).2
  simp only at h0 h1
  exact ⟨h0, by omega, achk_len hc⟩
set_option maxHeartbeats 1000000 in
theorem at_any (P : Nat) (k r l0 l1 : Int) (A : Option Addr) (n c : Nat) (xs : List Int) (x0 x1 p ec : Int) (w : World) (hP : Bx w P #[.int .i64 k, .int .i64 r, .int .i64 l0, .int .i64 l1, .slice A n c] 25) (hs : Sl w A n c xs)
    (h : sAtP ⟨k, r, l0, l1, xs⟩ x0 x1 = (p, ec)) :
    Calls Tryd.prog 54 #[.pointer (some ⟨P, 0, none⟩), .agg #[.int .i64 x0, .int .i64 x1]] w fun e w' => e = .returned (.tuple #[.int .i64 p, .int .i64 ec]) ∧ Below w.heap.size w w' := by
  have HS := Lib.hid hs
  have hlt := hP.lt
  have HX := Lib.hid hP
  have c0 : ∀ i, (w.alloc (.cells #[.int .i64 x0, .int .i64 x1] 22)).cell? ⟨P, i, none⟩ = _ := (hP.alloc _).cell
  have hbp : (some (⟨P, 0, none⟩ : Addr)) ≠ none := by simp
  clear hs hP
  unfold sAtP at h
  by_cases hc : chkA ⟨k, r, l0, l1, xs⟩ = 0
  · rw [if_neg (fun g => g hc)] at h
    have HC := Lib.hid hc
    have HH := Lib.hid h
    clear hc h
    go_enter Tryd.func54, Tryd.ntmps54
    go_wp2_with fail
    refine (acheck_any k r l0 l1 A n c xs 0 _ (HS.out.step (below1 _ _)) HC.out).mono ?_
    rintro e w1 ⟨rfl, hb1⟩
    have XP := (HX.out.alloc (.cells #[.int .i64 x0, .int .i64 x1] 22)).step hb1
    obtain ⟨X0, b1⟩ := after1 hb1
    have q0 := Bx.lt X0
    clear hb1 c0
    have c0 : ∀ i, w1.cell? ⟨w.heap.size, i, none⟩ = _ := Bx.cell X0
    have c1 : ∀ i, w1.cell? ⟨P, i, none⟩ = _ := Bx.cell XP
    go_wp2_with fail
    have hk : ∀ u, Below w1.heap.size w1 u → (∀ i, u.cell? ⟨w.heap.size, i, none⟩ = #[.int .i64 x0, .int .i64 x1][i]?) ∧ (∀ i, u.cell? ⟨P, i, none⟩ = #[.int .i64 k, .int .i64 r, .int .i64 l0, .int .i64 l1, .slice A n c][i]?) := fun u hb => ⟨(Bx.step X0 hb).cell, (XP.step hb).cell⟩
    have P0 : Below w1.heap.size w1 w1.drew := bdr (Below.refl _ _)
    clear c0 c1
    go_region_held3 (fun u => (∀ i, u.cell? ⟨w.heap.size, i, none⟩ = #[.int .i64 x0, .int .i64 x1][i]?) ∧ (∀ i, u.cell? ⟨P, i, none⟩ = #[.int .i64 k, .int .i64 r, .int .i64 l0, .int .i64 l1, .slice A n c][i]?))
      (with_reducible first | exact hk _ P0 | exact hk _ P6)
      (first
        | (go_at_call 78; (with_reducible refine (place_any r l0 l1 x0 x1 p ec _ HH.out).mono ?_); rintro e u6 ⟨rfl, hb6⟩; have P6 : Below w1.heap.size w1 u6 := bst P0 hb6))
    all_goals
      go_wp2
      go_ret2
      exact ⟨rfl, bst b1 P6⟩
  · rw [if_pos hc] at h
    obtain ⟨rfl, he⟩ := Prod.mk.inj h
    have HE := Lib.hid he
    have hne : (ec != 0) = true := by rw [← he]; simpa using hc
    clear h he hc
    go_enter Tryd.func54, Tryd.ntmps54
    go_wp2_with fail
    refine (acheck_any k r l0 l1 A n c xs ec _ (HS.out.step (below1 _ _)) HE.out).mono ?_
    rintro e w1 ⟨rfl, hb1⟩
    go_wp2
    go_ret2
    exact ⟨rfl, bst (below1 _ _) hb1⟩

set_option maxHeartbeats 1000000 in
theorem aAt_any (k r l0 l1 : Int) (A : Option Addr) (n c : Nat) (xs : List Int) (x0 x1 y ec : Int) (w : World) (hs : Sl w A n c xs) (h : sAt ⟨k, r, l0, l1, xs⟩ x0 x1 = (y, ec)) :
    Calls Tryd.prog 26 #[.agg #[.int .i64 k, .int .i64 r, .int .i64 l0, .int .i64 l1, .slice A n c], .agg #[.int .i64 x0, .int .i64 x1]] w fun e w' => e = .returned (.tuple #[.int .i64 y, .int .i64 ec]) ∧ Below w.heap.size w w' := by
  obtain ⟨⟨p, e0⟩, hpe⟩ : ∃ R, sAtP ⟨k, r, l0, l1, xs⟩ x0 x1 = R := ⟨_, rfl⟩
  unfold sAt at h
  rw [hpe] at h
  simp only at h
  have HPE := Lib.hid hpe
  have HS := Lib.hid hs
  by_cases he : e0 = 0
  · subst he
    rw [if_neg (by simp)] at h
    obtain ⟨hp0, hp1, hp2⟩ := atP_bounds hpe
    obtain ⟨pn, rfl⟩ : ∃ pn : Nat, p = pn := ⟨p.toNat, by omega⟩
    have hpn : pn < n := by rw [← hs.len]; omega
    have hcap := hs.cap
    have hmost := hs.most
    obtain ⟨b, o, rfl, hbl, hx⟩ := hs.at_ hpn
    have hpn' : (pn : Int) < (n : Int) := by omega
    obtain ⟨rfl, rfl⟩ := Prod.mk.inj h
    simp only [Int.toNat_natCast]
    generalize hv : xs.getD pn 0 = v at hx
    have hv := Lib.hid hv
    clear hpe hs h hp1
    go_enter Tryd.func26, Tryd.ntmps26
    go_wp2_with fail
    refine (at_any w.heap.size k r l0 l1 _ n c xs x0 x1 pn 0 _ ((Bx.new _ _ _).alloc _) (HS.out.step (below2 _ _ _)) HPE.out).mono ?_
    rintro e w1 ⟨rfl, hb1⟩
    obtain ⟨X0, X1, b1⟩ := after2 hb1
    clear hb1
    have c0 : ∀ i, w1.cell? ⟨w.heap.size, i, none⟩ = _ := Bx.cell X0
    have cx : w1.cell? ⟨b, o + pn, none⟩ = some (.int .i64 v) := (b1.cell (p := ⟨b, o + pn, none⟩) hbl).trans hx
    clear hx
    go_wp2
    go_ret2
    exact ⟨rfl, b1⟩
  · rw [if_pos he] at h
    obtain ⟨rfl, rfl⟩ := Prod.mk.inj h
    have hne : (e0 != 0) = true := by simpa using he
    clear hpe hs h he
    go_enter Tryd.func26, Tryd.ntmps26
    go_wp2_with fail
    refine (at_any w.heap.size k r l0 l1 _ n c xs x0 x1 p e0 _ ((Bx.new _ _ _).alloc _) (HS.out.step (below2 _ _ _)) HPE.out).mono ?_
    rintro e w1 ⟨rfl, hb1⟩
    obtain ⟨X0, X1, b1⟩ := after2 hb1
    clear hb1
    have c0 : ∀ i, w1.cell? ⟨w.heap.size, i, none⟩ = _ := Bx.cell X0
    go_wp2
    go_ret2
    exact ⟨rfl, b1⟩

set_option maxHeartbeats 1000000 in
theorem rAt_any (k r l0 l1 : Int) (A : Option Addr) (n c : Nat) (xs : List Int) (x0 x1 y ec : Int) (w : World) (hs : Sl w A n c xs) (h : sAt ⟨k, r, l0, l1, xs⟩ x0 x1 = (y, ec)) :
    Calls Tryd.prog 27 #[.agg #[.int .i64 k, .int .i64 r, .int .i64 l0, .int .i64 l1, .slice A n c], .agg #[.int .i64 x0, .int .i64 x1]] w fun e w' => e = .returned (.tuple #[.int .i64 y, .int .i64 ec]) ∧ Below w.heap.size w w' := by
  obtain ⟨⟨p, e0⟩, hpe⟩ : ∃ R, sAtP ⟨k, r, l0, l1, xs⟩ x0 x1 = R := ⟨_, rfl⟩
  unfold sAt at h
  rw [hpe] at h
  simp only at h
  have HS := Lib.hid hs
  by_cases hc : chkA ⟨k, r, l0, l1, xs⟩ = 0
  · have HC := Lib.hid hc
    have hh : sPlace r l0 l1 x0 x1 = (p, e0) := by
      rw [← hpe]; unfold sAtP; rw [if_neg (fun g => g hc)]
    have HH := Lib.hid hh
    clear hc hh
    by_cases he : e0 = 0
    · subst he
      rw [if_neg (by simp)] at h
      obtain ⟨hp0, hp1, hp2⟩ := atP_bounds hpe
      obtain ⟨pn, rfl⟩ : ∃ pn : Nat, p = pn := ⟨p.toNat, by omega⟩
      have hpn : pn < n := by rw [← hs.len]; omega
      have hcap := hs.cap
      have hmost := hs.most
      obtain ⟨b, o, rfl, hbl, hx⟩ := hs.at_ hpn
      have hpn' : (pn : Int) < (n : Int) := by omega
      obtain ⟨rfl, rfl⟩ := Prod.mk.inj h
      simp only [Int.toNat_natCast]
      generalize hv : xs.getD pn 0 = v at hx
      have hv := Lib.hid hv
      clear hpe hs h hp1
      go_enter Tryd.func27, Tryd.ntmps27
      go_wp2_with fail
      refine (racheck_any k r l0 l1 _ n c xs 0 _ (HS.out.step (below2 _ _ _)) HC.out).mono ?_
      rintro e w1 ⟨rfl, hb1⟩
      obtain ⟨X0, X1, b1⟩ := after2 hb1
      clear hb1
      have c0 : ∀ i, w1.cell? ⟨w.heap.size, i, none⟩ = _ := Bx.cell X0
      have c1 : ∀ i, w1.cell? ⟨w.heap.size + 1, i, none⟩ = _ := Bx.cell X1
      go_wp2_with fail
      refine (rplace_any r l0 l1 x0 x1 pn 0 _ HH.out).mono ?_
      rintro e w2 ⟨rfl, hb2⟩
      have b2 := bst b1 hb2
      have d0 : ∀ i, w2.cell? ⟨w.heap.size, i, none⟩ = _ := Bx.cell (Bx.step X0 hb2)
      clear c0 c1
      have cx : w2.cell? ⟨b, o + pn, none⟩ = some (.int .i64 v) := (b2.cell (p := ⟨b, o + pn, none⟩) hbl).trans hx
      clear hx
      go_wp2
      go_ret2
      exact ⟨rfl, b2⟩
    · rw [if_pos he] at h
      obtain ⟨rfl, rfl⟩ := Prod.mk.inj h
      have hne : (e0 != 0) = true := by simpa using he
      clear hpe hs h he
      go_enter Tryd.func27, Tryd.ntmps27
      go_wp2_with fail
      refine (racheck_any k r l0 l1 _ n c xs 0 _ (HS.out.step (below2 _ _ _)) HC.out).mono ?_
      rintro e w1 ⟨rfl, hb1⟩
      obtain ⟨X0, X1, b1⟩ := after2 hb1
      clear hb1
      have c0 : ∀ i, w1.cell? ⟨w.heap.size, i, none⟩ = _ := Bx.cell X0
      have c1 : ∀ i, w1.cell? ⟨w.heap.size + 1, i, none⟩ = _ := Bx.cell X1
      go_wp2_with fail
      refine (rplace_any r l0 l1 x0 x1 p e0 _ HH.out).mono ?_
      rintro e w2 ⟨rfl, hb2⟩
      have b2 := bst b1 hb2
      have d0 : ∀ i, w2.cell? ⟨w.heap.size, i, none⟩ = _ := Bx.cell (Bx.step X0 hb2)
      clear c0 c1
      go_wp2
      go_ret2
      exact ⟨rfl, b2⟩
  · have he : e0 = chkA ⟨k, r, l0, l1, xs⟩ := by
      unfold sAtP at hpe
      rw [if_pos hc] at hpe
      exact (Prod.mk.inj hpe).2.symm
    rw [if_pos (by rw [he]; exact hc)] at h
    obtain ⟨rfl, rfl⟩ := Prod.mk.inj h
    have HC := Lib.hid he.symm
    have hne : (e0 != 0) = true := by rw [he]; simpa using hc
    clear hpe hs h he hc
    go_enter Tryd.func27, Tryd.ntmps27
    go_wp2_with fail
    refine (racheck_any k r l0 l1 _ n c xs e0 _ (HS.out.step (below2 _ _ _)) HC.out).mono ?_
    rintro e w1 ⟨rfl, hb1⟩
    obtain ⟨X0, X1, b1⟩ := after2 hb1
    clear hb1
    have c0 : ∀ i, w1.cell? ⟨w.heap.size, i, none⟩ = _ := Bx.cell X0
    have c1 : ∀ i, w1.cell? ⟨w.heap.size + 1, i, none⟩ = _ := Bx.cell X1
    go_wp2
    go_ret2
    exact ⟨rfl, b1⟩
end Go.Proofs.YtimpdfafodaadaaDoor

/-
  arrays.Make and the reference's.
-/
import Derived.Test.YtimpdfafodaadaaDoorAdef
import Derived.Test.YtimpdfafodaadaaDoorRarr
import Derived.Test.YtimpdfafodaadaaDoorApr
import Derived.Deep.RegionHeld3
import Derived.Deep.CutRange
namespace Go.Proofs.YtimpdfafodaadaaDoor
open Go.RowKit
attribute [local go_sem] Oper.semAt_some

theorem Bx.grown' {w w' : World} {B : Nat} {cs : Array Value} {T : TypeId} {row : Option Nat} (h : Bx w B cs T) (hg : w.grownBy w' row) (hne : some B ≠ row) : Bx w' B cs T := (hg.block B h.lt hne).trans h
/-- A row of the call's own is no box of another type. -/
theorem own_ne {w : World} {base n c B : Nat} {A : Option Addr} {xs : List Value} {cs : Array Value} {T : TypeId} (h : w.ownsRow base 2 1 (.slice A n c) n xs) (hx : Bx w B cs T) (hT : 2 ≠ T) {b o : Nat} (hA : A = some ⟨b, o, none⟩) : b ≠ B := by
  subst hA
  intro e
  subst e
  rcases h.2 with ⟨h1, _⟩ | ⟨g, cap, cur, h1, hb, hg, hn, hm, hs, ht⟩
  · cases h1
  · simp only [Value.slice.injEq, Option.some.injEq, Addr.mk.injEq] at h1
    obtain ⟨⟨rfl, _, _⟩, _⟩ := h1
    unfold Bx at hx
    rw [hg] at hx
    simp only [Option.some.injEq, Obj.cells.injEq] at hx
    exact hT hx.2.1
set_option maxHeartbeats 2000000 in
theorem aMake_any (k r l0 l1 : Int) (A : Option Addr) (n c : Nat) (xs : List Int) (R : Arr × Int) (w : World) (hs : Sl w A n c xs) (hn : n ≤ 1000000) (h : sMake ⟨k, r, l0, l1, xs⟩ = R) :
    Calls Tryd.prog 39 #[.int .i64 k, .int .i64 r, .agg #[.int .i64 l0, .int .i64 l1], .slice A n c] w (RetA w R) := by
  have HS := Lib.hid hs
  clear hs
  go_enter Tryd.func39, Tryd.ntmps39
  go_wp2_with fail
  obtain ⟨w1, hw1⟩ : ∃ w1, (w.alloc (.cells #[.int .i64 l0, .int .i64 l1] 22)).alloc (.cells #[.int .i64 0, .int .i64 0, .int .i64 0, .int .i64 0, .slice none 0 0] 25) = w1 := ⟨_, rfl⟩
  have b1 : Below w.heap.size w w1 := by rw [← hw1]; exact below2 _ _ _
  have X0 : Bx w1 w.heap.size #[.int .i64 l0, .int .i64 l1] 22 := by rw [← hw1]; exact (Bx.new _ _ _).alloc _
  have X1 : Bx w1 (w.heap.size + 1) #[.int .i64 0, .int .i64 0, .int .i64 0, .int .i64 0, .slice none 0 0] 25 := by
    rw [← hw1]
    have := Bx.new (w.alloc (.cells #[.int .i64 l0, .int .i64 l1] 22)) #[.int .i64 0, .int .i64 0, .int .i64 0, .int .i64 0, .slice none 0 0] 25
    rwa [World.size_alloc] at this
  rw [hw1]
  clear hw1
  have q0 := X0.lt
  have q1 := X1.lt
  have HS1 := Lib.hid (HS.out.step b1)
  go_cut [10] from 12 to 17 (fun p wx => ∃ (B : Nat) (A' : Option Addr) (c' : Nat), p = .pointer (some ⟨B, 0, none⟩) ∧ Below w1.heap.size w1 wx ∧ Hid (Bx wx B #[.int .i64 k, .int .i64 r, .int .i64 l0, .int .i64 l1, .slice A' n c'] 25) ∧ Hid (Sl wx A' n c' xs) ∧ w1.heap.size ≤ B ∧ Hid (New w1 A'))
  case first =>
    have hS : ∀ u, Below w1.heap.size w1 u → ∀ i, u.cell? ⟨w.heap.size, i, none⟩ = #[.int .i64 l0, .int .i64 l1][i]? := fun u h => Bx.cell (Bx.step X0 h)
    have P0 : Below w1.heap.size w1 w1.drew := bdr (Below.refl _ _)
    have P1 : Below w1.heap.size w1 (w1.alloc (.cells #[.int .i64 0, .int .i64 0, .int .i64 0, .int .i64 0, .slice none 0 0] 25)).drew := bdr (bal (Below.refl _ _) _)
    have N1 : Bx (w1.alloc (.cells #[.int .i64 0, .int .i64 0, .int .i64 0, .int .i64 0, .slice none 0 0] 25)).drew w1.heap.size #[.int .i64 0, .int .i64 0, .int .i64 0, .int .i64 0, .slice none 0 0] 25 := Bx.new w1 _ _
    have Q0 := Lib.hid (HS1.out.step P0)
    have Q1 := Lib.hid (HS1.out.step P1)
    go_region_held3 (fun w' => ∀ i, w'.cell? ⟨w.heap.size, i, none⟩ = #[.int .i64 l0, .int .i64 l1][i]?)
      (with_reducible first | exact hS _ P0 | exact hS _ P1 | exact hS _ P6 | exact hS _ (bal P6 _) | exact hS _ (below_set5' P6 (Nat.le_refl _) _ _ _ _ _))
      (first
        | (go_at_call 46; (with_reducible first | refine (clone_any A n c xs w1.drew Q0.out hn).mono ?_ | refine (clone_any A n c xs _ Q1.out hn).mono ?_); rintro e u6 ⟨⟨A6, c6, rfl, _, hS6, hN6⟩, hb6⟩; have P6 : Below w1.heap.size w1 u6 := (by with_reducible first | exact bst P0 hb6 | exact bst P1 hb6); have zz6 := P6.size; (try (have M1 : Bx u6 w1.heap.size #[.int .i64 0, .int .i64 0, .int .i64 0, .int .i64 0, .slice none 0 0] 25 := (by with_reducible exact Bx.step N1 hb6); have gB : ∀ i, u6.cell? ⟨w1.heap.size, i, none⟩ = _ := Bx.cell M1; have kB : ∀ i, u6.frozen? ⟨w1.heap.size, i, none⟩ = false := Bx.frozen M1))))
    all_goals go_wp2_with fail
    all_goals go_meet
    · exact ⟨u6.heap.size, A6, c6, rfl, bal P6 _, Lib.hid (Bx.new u6 _ _), Lib.hid (hS6.step (below1 _ _)), P6.size, Lib.hid (hN6.mono P0.size)⟩
    · exact ⟨w1.heap.size, A6, c6, rfl, below_set5' P6 (Nat.le_refl _) _ _ _ _ _, Lib.hid (Bx.set5 M1 _ _ _ _ _), Lib.hid (hS6.past5 _ _ _ _ _ fun b o e => by have := hN6 b o none e; have := N1.lt; omega), Nat.le_refl _, Lib.hid (hN6.mono P1.size)⟩
  case rest =>
    obtain ⟨B, A', c', rfl, hst, HX, HSl, hB, HN⟩ := hcut
    obtain ⟨w2, hw2⟩ : ∃ w2, wc = w2 := ⟨_, rfl⟩
    rw [hw2] at hst HX HSl
    rw [hw2]
    clear hw2
    have b2 : Below w.heap.size w w2 := bst b1 hst
    have X2 := HX.out
    have Y1 := X1.step hst
    have hBw : w.heap.size ≤ B := Nat.le_trans b1.size hB
    have hne1 : w.heap.size + 1 ≠ B := by omega
    have c0 : ∀ i, w2.cell? ⟨B, i, none⟩ = _ := Bx.cell X2
    clear X0 X1 HX q0
    by_cases hc : achk k r l0 l1 xs = 0
    · have hR : R = (⟨k, r, l0, l1, xs⟩, 0) := by rw [← h]; unfold sMake; rw [if_neg (fun g => g hc)]
      have HR := Lib.hid hR
      have HC := Lib.hid hc
      clear h hR hc
      go_wp2_with fail
      refine (acheck_any k r l0 l1 A' n c' xs 0 _ HSl.out HC.out).mono ?_
      rintro e w3 ⟨rfl, hb3⟩
      have b3 := bst b2 hb3
      have Y2 := X2.step hb3
      have Y3 := Y1.step hb3
      have d0 : ∀ i, w3.cell? ⟨B, i, none⟩ = _ := Bx.cell Y2
      have d1 : ∀ i, w3.cell? ⟨w.heap.size + 1, i, none⟩ = _ := Bx.cell Y3
      have f1 : ∀ i, w3.frozen? ⟨w.heap.size + 1, i, none⟩ = false := Bx.frozen Y3
      have q3 := Y3.lt
      clear c0
      go_wp2
      refine retAE (B := w.heap.size + 1) rfl rfl rfl rfl (Y3.set5 _ _ _ _ _) ?_
      have hN := HN.out
      have hlt := hst.size
      exact RetA.mk HR.out ((HSl.out.step hb3).past5 _ _ _ _ _ fun b o e => by have := hN b o none e; omega) (hN.mono b1.size) (below_set5 b3 (by omega) _ _ _ _ _)
    · obtain ⟨ec, hec⟩ : ∃ ec, achk k r l0 l1 xs = ec := ⟨_, rfl⟩
      have hR : R = (⟨0, 0, 0, 0, []⟩, ec) := by rw [← h, ← hec]; unfold sMake; exact if_pos hc
      have hne : (ec != 0) = true := by rw [← hec]; simpa using hc
      have HR := Lib.hid hR
      have HC := Lib.hid hec
      clear h hR hc hec
      go_wp2_with fail
      refine (acheck_any k r l0 l1 A' n c' xs ec _ HSl.out HC.out).mono ?_
      rintro e w3 ⟨rfl, hb3⟩
      have b3 := bst b2 hb3
      have Y3 := Y1.step hb3
      have d1 : ∀ i, w3.cell? ⟨w.heap.size + 1, i, none⟩ = _ := Bx.cell Y3
      have f1 : ∀ i, w3.frozen? ⟨w.heap.size + 1, i, none⟩ = false := Bx.frozen Y3
      have q3 := Y3.lt
      clear c0
      go_wp2
      refine retAE (B := w.heap.size + 1) rfl rfl rfl rfl (Y3.set5 _ _ _ _ _) ?_
      exact RetA.mk HR.out (Sl.nil _) (fun b o s e => by cases e) (below_set5 b3 (by omega) _ _ _ _ _)
set_option maxHeartbeats 2000000 in
theorem rMake_any (k r l0 l1 : Int) (A : Option Addr) (n c : Nat) (xs : List Int) (R : Arr × Int) (w : World) (hs : Sl w A n c xs) (hn : n ≤ 1000000) (h : sMake ⟨k, r, l0, l1, xs⟩ = R) :
    Calls Tryd.prog 40 #[.int .i64 k, .int .i64 r, .agg #[.int .i64 l0, .int .i64 l1], .slice A n c] w (RetA w R) := by
  have HS := Lib.hid hs
  clear hs
  go_enter Tryd.func40, Tryd.ntmps40
  go_wp2_with fail
  obtain ⟨w1, hw1⟩ : ∃ w1, (w.alloc (.cells #[.int .i64 l0, .int .i64 l1] 22)).alloc (.cells #[.int .i64 0, .int .i64 0, .int .i64 0, .int .i64 0, .slice none 0 0] 25) = w1 := ⟨_, rfl⟩
  have b1 : Below w.heap.size w w1 := by rw [← hw1]; exact below2 _ _ _
  have X0 : Bx w1 w.heap.size #[.int .i64 l0, .int .i64 l1] 22 := by rw [← hw1]; exact (Bx.new _ _ _).alloc _
  have X1 : Bx w1 (w.heap.size + 1) #[.int .i64 0, .int .i64 0, .int .i64 0, .int .i64 0, .slice none 0 0] 25 := by
    rw [← hw1]
    have := Bx.new (w.alloc (.cells #[.int .i64 l0, .int .i64 l1] 22)) #[.int .i64 0, .int .i64 0, .int .i64 0, .int .i64 0, .slice none 0 0] 25
    rwa [World.size_alloc] at this
  rw [hw1]
  clear hw1
  have q0 := X0.lt
  have q1 := X1.lt
  have HS1 := Lib.hid (HS.out.step b1)
  go_cut [10] from 12 to 18 (fun p wx => ∃ (B : Nat) (A' : Option Addr) (c' : Nat), p = .pointer (some ⟨B, 0, none⟩) ∧ Below w1.heap.size w1 wx ∧ Hid (Bx wx B #[.int .i64 k, .int .i64 r, .int .i64 l0, .int .i64 l1, .slice A' n c'] 25) ∧ Hid (Sl wx A' n c' xs) ∧ w1.heap.size ≤ B ∧ Hid (New w1 A'))
  case first =>
    have hS : ∀ u, Below w1.heap.size w1 u → ∀ i, u.cell? ⟨w.heap.size, i, none⟩ = #[.int .i64 l0, .int .i64 l1][i]? := fun u h => Bx.cell (Bx.step X0 h)
    have P0 : Below w1.heap.size w1 w1.drew := bdr (Below.refl _ _)
    have P1 : Below w1.heap.size w1 (w1.alloc (.cells #[.int .i64 0, .int .i64 0, .int .i64 0, .int .i64 0, .slice none 0 0] 25)).drew := bdr (bal (Below.refl _ _) _)
    have P2 : Below w1.heap.size w1 (w1.alloc (.cells #[] 2)).drew := bdr (bal (Below.refl _ _) _)
    have P3 : Below w1.heap.size w1 ((w1.alloc (.cells #[] 2)).alloc (.cells #[.int .i64 0, .int .i64 0, .int .i64 0, .int .i64 0, .slice none 0 0] 25)).drew := bdr (bal (bal (Below.refl _ _) _) _)
    have P4 : Below w1.heap.size w1 ((w1.alloc (.cells #[.int .i64 0, .int .i64 0, .int .i64 0, .int .i64 0, .slice none 0 0] 25)).alloc (.cells #[] 2)).drew := bdr (bal (bal (Below.refl _ _) _) _)
    have e1 : (w1.alloc (.cells #[.int .i64 0, .int .i64 0, .int .i64 0, .int .i64 0, .slice none 0 0] 25)).heap.size = w1.heap.size + 1 := by simp
    have e2 : (w1.alloc (.cells #[] 2)).heap.size = w1.heap.size + 1 := by simp
    have N3 : Bx ((w1.alloc (.cells #[] 2)).alloc (.cells #[.int .i64 0, .int .i64 0, .int .i64 0, .int .i64 0, .slice none 0 0] 25)).drew (w1.heap.size + 1) #[.int .i64 0, .int .i64 0, .int .i64 0, .int .i64 0, .slice none 0 0] 25 := by
      rw [← e2]
      exact Bx.new (w1.alloc (.cells #[] 2)) _ _
    have N4 : Bx ((w1.alloc (.cells #[.int .i64 0, .int .i64 0, .int .i64 0, .int .i64 0, .slice none 0 0] 25)).alloc (.cells #[] 2)).drew w1.heap.size #[.int .i64 0, .int .i64 0, .int .i64 0, .int .i64 0, .slice none 0 0] 25 := (Bx.new w1 _ _).alloc _
    have O2 := Lib.hid (show (w1.alloc (.cells #[] 2)).drew.ownsRow w1.heap.size 2 1 (.slice (some ⟨w1.heap.size, 0, none⟩) 0 0) 0 (([] : List Int).map (Value.int .i64)) from (ownEmpty w1 w1.heap.size w1.heap.size rfl (Nat.le_refl _)).drew)
    have O3 := Lib.hid (show ((w1.alloc (.cells #[] 2)).alloc (.cells #[.int .i64 0, .int .i64 0, .int .i64 0, .int .i64 0, .slice none 0 0] 25)).drew.ownsRow w1.heap.size 2 1 (.slice (some ⟨w1.heap.size, 0, none⟩) 0 0) 0 (([] : List Int).map (Value.int .i64)) from ((ownEmpty w1 w1.heap.size w1.heap.size rfl (Nat.le_refl _)).alloc _).drew)
    have O4 := Lib.hid (show ((w1.alloc (.cells #[.int .i64 0, .int .i64 0, .int .i64 0, .int .i64 0, .slice none 0 0] 25)).alloc (.cells #[] 2)).drew.ownsRow w1.heap.size 2 1 (.slice (some ⟨w1.heap.size + 1, 0, none⟩) 0 0) 0 (([] : List Int).map (Value.int .i64)) from (ownEmpty (w1.alloc (.cells #[.int .i64 0, .int .i64 0, .int .i64 0, .int .i64 0, .slice none 0 0] 25)) w1.heap.size (w1.heap.size + 1) e1 (by rw [e1]; omega)).drew)
    have S2 := Lib.hid (HS1.out.step P2)
    have S3 := Lib.hid (HS1.out.step P3)
    have S4 := Lib.hid (HS1.out.step P4)
    have z2 := P2.size
    have z3 := P3.size
    have z4 := P4.size
    clear e1 e2
    go_region_held3 (fun w' => ∀ i, w'.cell? ⟨w.heap.size, i, none⟩ = #[.int .i64 l0, .int .i64 l1][i]?)
      (with_reducible first | exact hS _ P0 | exact hS _ P1 | exact hS _ P2 | exact hS _ P3 | exact hS _ P4 | exact hS _ P6 | exact hS _ (bal P6 _) | exact hS _ (below_set5' P6 (Nat.le_refl _) _ _ _ _ _) | exact hS _ (below_set5' P6 (Nat.le_succ _) _ _ _ _ _))
      (first
        | (refine step_append_sl rfl _ _ rfl rfl w1.heap.size (.slice (some ⟨w1.heap.size, 0, none⟩) 0 0) 0 [] rfl O2.out A n c xs rfl S2.out (by omega) z2 ?_; intro A6 c6 u6 hG; have P6 : Below w1.heap.size w1 u6 := hG.below P2 (fun k hk => (O2.out.lt k hk).1); have zz6 := P6.size; have HG := Lib.hid (show u6.ownsRow w1.heap.size 2 1 (.slice A6 n c6) n (xs.map (Value.int .i64)) by simpa using hG.1); have S6 := Lib.hid (show Sl u6 A6 n c6 xs by simpa using hG.2.1); clear hG)
        | (refine step_append_sl rfl _ _ rfl rfl w1.heap.size (.slice (some ⟨w1.heap.size, 0, none⟩) 0 0) 0 [] rfl O3.out A n c xs rfl S3.out (by omega) z3 ?_; intro A6 c6 u6 hG; have P6 : Below w1.heap.size w1 u6 := hG.below P3 (fun k hk => (O3.out.lt k hk).1); have zz6 := P6.size; have M1 : Bx u6 (w1.heap.size + 1) #[.int .i64 0, .int .i64 0, .int .i64 0, .int .i64 0, .slice none 0 0] 25 := N3.grown' hG.2.2 (by simp [Value.ownBlock]); have gB : ∀ i, u6.cell? ⟨w1.heap.size + 1, i, none⟩ = _ := Bx.cell M1; have kB : ∀ i, u6.frozen? ⟨w1.heap.size + 1, i, none⟩ = false := Bx.frozen M1; have HG := Lib.hid (show u6.ownsRow w1.heap.size 2 1 (.slice A6 n c6) n (xs.map (Value.int .i64)) by simpa using hG.1); have S6 := Lib.hid (show Sl u6 A6 n c6 xs by simpa using hG.2.1); clear hG)
        | (refine step_append_sl rfl _ _ rfl rfl w1.heap.size (.slice (some ⟨w1.heap.size + 1, 0, none⟩) 0 0) 0 [] rfl O4.out A n c xs rfl S4.out (by omega) z4 ?_; intro A6 c6 u6 hG; have P6 : Below w1.heap.size w1 u6 := hG.below P4 (fun k hk => (O4.out.lt k hk).1); have zz6 := P6.size; have M1 : Bx u6 w1.heap.size #[.int .i64 0, .int .i64 0, .int .i64 0, .int .i64 0, .slice none 0 0] 25 := N4.grown' hG.2.2 (by simp [Value.ownBlock]); have gB : ∀ i, u6.cell? ⟨w1.heap.size, i, none⟩ = _ := Bx.cell M1; have kB : ∀ i, u6.frozen? ⟨w1.heap.size, i, none⟩ = false := Bx.frozen M1; have HG := Lib.hid (show u6.ownsRow w1.heap.size 2 1 (.slice A6 n c6) n (xs.map (Value.int .i64)) by simpa using hG.1); have S6 := Lib.hid (show Sl u6 A6 n c6 xs by simpa using hG.2.1); clear hG))
    all_goals go_wp2_with fail
    all_goals go_meet
    · exact ⟨u6.heap.size, A6, c6, rfl, bal P6 _, Lib.hid (Bx.new u6 _ _), Lib.hid (S6.out.step (below1 _ _)), P6.size, Lib.hid (New.of_own HG.out)⟩
    · exact ⟨w1.heap.size + 1, A6, c6, rfl, below_set5' P6 (Nat.le_succ _) _ _ _ _ _, Lib.hid (Bx.set5 M1 _ _ _ _ _), Lib.hid (S6.out.past5 _ _ _ _ _ fun b o e => own_ne HG.out M1 (by decide) e), Nat.le_succ _, Lib.hid (New.of_own HG.out)⟩
    · exact ⟨w1.heap.size, A6, c6, rfl, below_set5' P6 (Nat.le_refl _) _ _ _ _ _, Lib.hid (Bx.set5 M1 _ _ _ _ _), Lib.hid (S6.out.past5 _ _ _ _ _ fun b o e => own_ne HG.out M1 (by decide) e), Nat.le_refl _, Lib.hid (New.of_own HG.out)⟩
  case rest =>
    obtain ⟨B, A', c', rfl, hst, HX, HSl, hB, HN⟩ := hcut
    obtain ⟨w2, hw2⟩ : ∃ w2, wc = w2 := ⟨_, rfl⟩
    rw [hw2] at hst HX HSl
    rw [hw2]
    clear hw2
    have b2 : Below w.heap.size w w2 := bst b1 hst
    have X2 := HX.out
    have Y1 := X1.step hst
    have hBw : w.heap.size ≤ B := Nat.le_trans b1.size hB
    have hne1 : w.heap.size + 1 ≠ B := by omega
    have c0 : ∀ i, w2.cell? ⟨B, i, none⟩ = _ := Bx.cell X2
    clear X0 X1 HX q0
    by_cases hc : achk k r l0 l1 xs = 0
    · have hR : R = (⟨k, r, l0, l1, xs⟩, 0) := by rw [← h]; unfold sMake; rw [if_neg (fun g => g hc)]
      have HR := Lib.hid hR
      have HC := Lib.hid hc
      clear h hR hc
      go_wp2_with fail
      refine (racheck_any k r l0 l1 A' n c' xs 0 _ HSl.out HC.out).mono ?_
      rintro e w3 ⟨rfl, hb3⟩
      have b3 := bst b2 hb3
      have Y2 := X2.step hb3
      have Y3 := Y1.step hb3
      have d0 : ∀ i, w3.cell? ⟨B, i, none⟩ = _ := Bx.cell Y2
      have d1 : ∀ i, w3.cell? ⟨w.heap.size + 1, i, none⟩ = _ := Bx.cell Y3
      have f1 : ∀ i, w3.frozen? ⟨w.heap.size + 1, i, none⟩ = false := Bx.frozen Y3
      have q3 := Y3.lt
      clear c0
      go_wp2
      refine retAE (B := w.heap.size + 1) rfl rfl rfl rfl (Y3.set5 _ _ _ _ _) ?_
      have hN := HN.out
      have hlt := hst.size
      exact RetA.mk HR.out ((HSl.out.step hb3).past5 _ _ _ _ _ fun b o e => by have := hN b o none e; omega) (hN.mono b1.size) (below_set5 b3 (by omega) _ _ _ _ _)
    · obtain ⟨ec, hec⟩ : ∃ ec, achk k r l0 l1 xs = ec := ⟨_, rfl⟩
      have hR : R = (⟨0, 0, 0, 0, []⟩, ec) := by rw [← h, ← hec]; unfold sMake; exact if_pos hc
      have hne : (ec != 0) = true := by rw [← hec]; simpa using hc
      have HR := Lib.hid hR
      have HC := Lib.hid hec
      clear h hR hc hec
      go_wp2_with fail
      refine (racheck_any k r l0 l1 A' n c' xs ec _ HSl.out HC.out).mono ?_
      rintro e w3 ⟨rfl, hb3⟩
      have b3 := bst b2 hb3
      have Y3 := Y1.step hb3
      have d1 : ∀ i, w3.cell? ⟨w.heap.size + 1, i, none⟩ = _ := Bx.cell Y3
      have f1 : ∀ i, w3.frozen? ⟨w.heap.size + 1, i, none⟩ = false := Bx.frozen Y3
      have q3 := Y3.lt
      clear c0
      go_wp2
      refine retAE (B := w.heap.size + 1) rfl rfl rfl rfl (Y3.set5 _ _ _ _ _) ?_
      exact RetA.mk HR.out (Sl.nil _) (fun b o s e => by cases e) (below_set5 b3 (by omega) _ _ _ _ _)
end Go.Proofs.YtimpdfafodaadaaDoor

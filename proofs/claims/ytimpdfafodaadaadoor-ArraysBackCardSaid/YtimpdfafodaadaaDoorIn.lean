/-
  arrays.vector, arrays.Ints and the reference's.
-/
import Derived.Test.YtimpdfafodaadaaDoorAdef
import Derived.Test.YtimpdfafodaadaaDoorApr
import Derived.OneCell
namespace Go.Proofs.YtimpdfafodaadaaDoor
open Go.RowKit

/-- A slice of runes that reads as a list. -/
def Sr (w : World) (A : Option Addr) (n c : Nat) (xs : List Int) : Prop :=
  xs.length = n ∧ n ≤ c ∧ c ≤ maxLen ∧ (0 < n → ∃ b o, A = some ⟨b, o, none⟩ ∧ b < w.heap.size ∧ ∀ j, j < n → w.cell? ⟨b, o + j, none⟩ = some (.int .i32 (xs.getD j 0)))
theorem Sr.at_ {w : World} {A : Option Addr} {n c : Nat} {xs : List Int} (h : Sr w A n c xs) {k : Nat} (hk : k < n) :
    ∃ b o, A = some ⟨b, o, none⟩ ∧ b < w.heap.size ∧ w.cell? ⟨b, o + k, none⟩ = some (.int .i32 (xs.getD k 0)) := by
  obtain ⟨b, o, hA, hlt, hc⟩ := h.2.2.2 (by omega)
  exact ⟨b, o, hA, hlt, hc k hk⟩
def sVec (k : Int) (xs : List Int) : Arr × Int := if 400 < xs.length then (zA, 15) else (⟨k, 1, xs.length, 0, xs⟩, 0)

theorem own_drop {w : World} {base n c B i : Nat} {A : Option Addr} {xs : List Value} {cs : Array Value} {T : TypeId} (h : w.ownsRow base 2 1 (.slice A n c) n xs) (hx : Bx w B cs T) (hT : 2 ≠ T) (u : Value) :
    (w.setCell ⟨B, i, none⟩ u).ownsRow base 2 1 (.slice A n c) n xs := by
  have hne : (Value.slice A n c).ownBlock ≠ some B := by
    rcases h.2 with ⟨h1, _⟩ | ⟨g, cap, cur, h1, hb, hg, hn, hm, hs, ht⟩
    · rw [h1]; simp [Value.ownBlock]
    · rw [h1]
      simp only [Value.ownBlock, ne_eq, Option.some.injEq]
      intro e
      subst e
      unfold Bx at hx
      rw [hg] at hx
      simp only [Option.some.injEq, Obj.cells.injEq] at hx
      exact hT hx.2.1
  exact ownsRow_setCell_other h hne _
theorem Bx.grown {w w' : World} {B : Nat} {cs : Array Value} {T : TypeId} {row : Option Nat} (h : Bx w B cs T) (hg : w.grownBy w' row) (hne : some B ≠ row) : Bx w' B cs T := (hg.block B h.lt hne).trans h
theorem own_row_ne {w : World} {base n B : Nat} {v : Value} {xs : List Value} {cs : Array Value} {T : TypeId} (h : w.ownsRow base 2 1 v n xs) (hx : Bx w B cs T) (hT : 2 ≠ T) : some B ≠ v.ownBlock := by
  rcases h.2 with ⟨h1, _⟩ | ⟨g, cap, cur, h1, hb, hg, hn, hm, hs, ht⟩
  · rw [h1]; simp [Value.ownBlock]
  · rw [h1]
    simp only [Value.ownBlock, ne_eq, Option.some.injEq]
    intro e
    subst e
    unfold Bx at hx
    rw [hg] at hx
    simp only [Option.some.injEq, Obj.cells.injEq] at hx
    exact hT hx.2.1

theorem own_ne' {w : World} {base n c B : Nat} {A : Option Addr} {xs : List Value} {cs : Array Value} {T : TypeId} (h : w.ownsRow base 2 1 (.slice A n c) n xs) (hx : Bx w B cs T) (hT : 2 ≠ T) {b o : Nat} (hA : A = some ⟨b, o, none⟩) : b ≠ B := by
  subst hA
  intro e
  subst e
  exact own_row_ne h hx hT (by simp [Value.ownBlock])
theorem New.of_own' {base : Nat} {w : World} {e : TypeId} {A : Option Addr} {n c : Nat} {xs : List Value} (h : w.ownsRow base e 1 (.slice A n c) n xs) : ∀ b o s, A = some ⟨b, o, s⟩ → base ≤ b := by
  intro b o s hA
  subst hA
  rcases h.2 with ⟨h1, _⟩ | ⟨g, cap, cur, h1, hb, _⟩
  · cases h1
  · simp only [Value.slice.injEq, Option.some.injEq, Addr.mk.injEq] at h1
    omega
set_option maxHeartbeats 2000000 in
theorem vec_i64 (k : Int) (A : Option Addr) (n c : Nat) (xs : List Int) (R : Arr × Int) (w : World) (hs : Sl w A n c xs) (h : sVec k xs = R) :
    Calls Tryd.prog 48 #[.int .i64 k, .slice A n c] w (RetA w R) := by
  unfold sVec at h
  have hl := hs.1
  have hcap : n ≤ c := hs.2.1
  have hmost : c ≤ 9223372036854775807 := by have := hs.2.2.1; unfold maxLen at this; omega
  rw [hl] at h
  have HS := Lib.hid hs
  have HL := Lib.hid hl
  clear hs hl
  by_cases h4 : 400 < n
  · rw [if_pos h4] at h
    have HR := Lib.hid h
    have h4' : (400 : Int) < (n : Int) := by omega
    clear h
    go_enter Tryd.func48, Tryd.ntmps48
    go_wp2
    refine retAE (B := w.heap.size) rfl rfl rfl rfl (Bx.new _ _ _) ?_
    exact RetA.mk HR.out.symm (Sl.nil _) (fun _ _ _ h => by cases h) (below1 _ _)
  · rw [if_neg h4] at h
    have HR := Lib.hid h
    have h4' : ¬ (400 : Int) < (n : Int) := by omega
    clear h
    go_enter Tryd.func48, Tryd.ntmps48
    go_wp2_with fail
    go_loopw [20, 8] (fun i x wr => ∃ (j : Nat) (V : Option Addr) (vc : Nat), j ≤ n ∧ i = .int .i64 j ∧ Below w.heap.size w wr ∧ Hid (Bx wr w.heap.size #[.int .i64 0, .int .i64 0, .int .i64 0, .int .i64 0, .slice none 0 0] 25) ∧ Hid (Bx wr (w.heap.size + 1) #[.int .i64 k, .int .i64 1, .int .i64 n, .int .i64 0, .slice V j vc] 25) ∧ Hid (wr.ownsRow (w.heap.size + 1 + 1) 2 1 (.slice V j vc) j ((xs.take j).map (Value.int .i64))) ∧ w.heap.size + 1 + 1 ≤ wr.heap.size) (fun i _ _ => n - (intOf i).toNat)
    case atStart => exact ⟨0, none, 0, Nat.zero_le _, rfl, below2 _ _ _, Lib.hid ((Bx.new _ _ _).alloc _), Lib.hid (by have := Bx.new (w.alloc (.cells #[.int .i64 0, .int .i64 0, .int .i64 0, .int .i64 0, .slice none 0 0] 25)) #[.int .i64 k, .int .i64 1, .int .i64 n, .int .i64 0, .slice none 0 0] 25; rwa [World.size_alloc] at this), Lib.hid (by simpa using World.ownsRow_nil _ _ _ _), by simp⟩
    case round =>
      obtain ⟨j, V, vc, hj, rfl, hb, HX, HY, HO, hz⟩ := hrel
      by_cases hlt : j < n
      · obtain ⟨b, o, rfl, hbl, hx0⟩ := HS.out.at_ hlt
        have hx := (hb.cell (p := ⟨b, o + j, none⟩) hbl).trans hx0
        skip
        have hst : xs.take j ++ [xs.getD j 0] = xs.take (j + 1) := by
          have hj2 : j < xs.length := by rw [HL.out]; exact hlt
          rw [getD_get hj2]
          exact (List.take_succ_eq_append_getElem hj2).symm
        clear hx0
        generalize xs.getD j 0 = y at hx hst
        have HST := Lib.hid hst
        have HO1 := Lib.hid (HO.out.alloc (.cells #[.int .i64 y] 2))
        have HS1 := Lib.hid (slOne wr y)
        have hj1 : (j : Int) < (n : Int) := by omega
        have hj0 : (0 : Int) ≤ (j : Int) := by omega
        have d1 : ∀ i, wr.cell? ⟨w.heap.size + 1, i, none⟩ = _ := Bx.cell HY.out
        have p1 := HY.out.lt
        have HZ := Lib.hid (show w.heap.size + 1 + 1 ≤ (wr.alloc (.cells #[.int .i64 y] 2)).heap.size by simp; omega)
        skip
        clear hst
        go_wp2_with (at_builtin; refine wpList_append_sl rfl _ _ rfl rfl (w.heap.size + 1 + 1) _ j (xs.take j) rfl HO1.out (some ⟨wr.heap.size, 0, none⟩) 1 1 [y] rfl HS1.out (by omega) HZ.out ?_)
        intro A2 c2 w2 hg
        have Y2 : Bx w2 (w.heap.size + 1) #[.int .i64 k, .int .i64 1, .int .i64 n, .int .i64 0, .slice V j vc] 25 := Bx.grown (Bx.alloc HY.out _) hg.2.2 (own_row_ne HO1.out (Bx.alloc HY.out _) (by decide))
        have X2 : Bx w2 w.heap.size #[.int .i64 0, .int .i64 0, .int .i64 0, .int .i64 0, .slice none 0 0] 25 := Bx.grown (Bx.alloc HX.out _) hg.2.2 (own_row_ne HO1.out (Bx.alloc HX.out _) (by decide))
        have b2 : Below w.heap.size w w2 := hg.below (bal hb _) (fun k hk => by have := (HO1.out.lt k hk).1; omega)
        have HG := Lib.hid (show w2.ownsRow (w.heap.size + 1 + 1) 2 1 (.slice A2 (j + 1) c2) (j + 1) ((xs.take j ++ [y]).map (Value.int .i64)) from hg.1)
        have d2 : ∀ i, w2.cell? ⟨w.heap.size + 1, i, none⟩ = _ := Bx.cell Y2
        have f2 : ∀ i, w2.frozen? ⟨w.heap.size + 1, i, none⟩ = false := Bx.frozen Y2
        have p2 := Y2.lt
        clear d1 hg
        go_wp2
        refine ⟨⟨j + 1, A2, c2, by omega, rfl, bsc b2 (by simp) _, Lib.hid (Bx.far X2 (by simp) _), Lib.hid (by simpa using Y2.set_ 4 (.slice A2 (j + 1) c2)), ?_, by simp [World.setCell]; omega⟩, ?_⟩
        · rw [← HST.out]; exact Lib.hid (own_drop HG.out Y2 (by decide) _)
        · simp only [intOf]; omega
      · obtain rfl : j = n := by omega
        have d1 : ∀ i, wr.cell? ⟨w.heap.size + 1, i, none⟩ = _ := Bx.cell HY.out
        have d0 : ∀ i, wr.cell? ⟨w.heap.size, i, none⟩ = _ := Bx.cell HX.out
        have f0 : ∀ i, wr.frozen? ⟨w.heap.size, i, none⟩ = false := Bx.frozen HX.out
        have p0 := HX.out.lt
        go_wp2
        refine retAE (B := w.heap.size) rfl rfl rfl rfl (Bx.set5 HX.out _ _ _ _ _) ?_
        have ht : xs.take j = xs := by rw [← HL.out]; exact List.take_length
        have hO := HO.out
        rw [ht] at hO
        obtain ⟨_, _, hv, hS, _⟩ := Sl.of_own hO
        cases hv
        exact RetA.mk HR.out.symm (hS.past5 _ _ _ _ _ fun b o e => own_ne' hO HX.out (by decide) e) (fun b o s e => by have := New.of_own' hO b o s e; omega) (below_set5 hb (Nat.le_refl _) _ _ _ _ _)
set_option maxHeartbeats 2000000 in
theorem vec_rune (k : Int) (A : Option Addr) (n c : Nat) (xs : List Int) (R : Arr × Int) (w : World) (hs : Sr w A n c xs) (hbd : ∀ j, j < n → -9223372036854775808 ≤ xs.getD j 0 ∧ xs.getD j 0 ≤ 9223372036854775807) (h : sVec k xs = R) :
    Calls Tryd.prog 50 #[.int .i64 k, .slice A n c] w (RetA w R) := by
  unfold sVec at h
  have hl := hs.1
  have hcap : n ≤ c := hs.2.1
  have hmost : c ≤ 9223372036854775807 := by have := hs.2.2.1; unfold maxLen at this; omega
  rw [hl] at h
  have HS := Lib.hid hs
  have HL := Lib.hid hl
  clear hs hl
  by_cases h4 : 400 < n
  · rw [if_pos h4] at h
    have HR := Lib.hid h
    have h4' : (400 : Int) < (n : Int) := by omega
    clear h
    go_enter Tryd.func50, Tryd.ntmps50
    go_wp2
    refine retAE (B := w.heap.size) rfl rfl rfl rfl (Bx.new _ _ _) ?_
    exact RetA.mk HR.out.symm (Sl.nil _) (fun _ _ _ h => by cases h) (below1 _ _)
  · rw [if_neg h4] at h
    have HR := Lib.hid h
    have h4' : ¬ (400 : Int) < (n : Int) := by omega
    clear h
    go_enter Tryd.func50, Tryd.ntmps50
    go_wp2_with fail
    go_loopw [20, 8] (fun i x wr => ∃ (j : Nat) (V : Option Addr) (vc : Nat), j ≤ n ∧ i = .int .i64 j ∧ Below w.heap.size w wr ∧ Hid (Bx wr w.heap.size #[.int .i64 0, .int .i64 0, .int .i64 0, .int .i64 0, .slice none 0 0] 25) ∧ Hid (Bx wr (w.heap.size + 1) #[.int .i64 k, .int .i64 1, .int .i64 n, .int .i64 0, .slice V j vc] 25) ∧ Hid (wr.ownsRow (w.heap.size + 1 + 1) 2 1 (.slice V j vc) j ((xs.take j).map (Value.int .i64))) ∧ w.heap.size + 1 + 1 ≤ wr.heap.size) (fun i _ _ => n - (intOf i).toNat)
    case atStart => exact ⟨0, none, 0, Nat.zero_le _, rfl, below2 _ _ _, Lib.hid ((Bx.new _ _ _).alloc _), Lib.hid (by have := Bx.new (w.alloc (.cells #[.int .i64 0, .int .i64 0, .int .i64 0, .int .i64 0, .slice none 0 0] 25)) #[.int .i64 k, .int .i64 1, .int .i64 n, .int .i64 0, .slice none 0 0] 25; rwa [World.size_alloc] at this), Lib.hid (by simpa using World.ownsRow_nil _ _ _ _), by simp⟩
    case round =>
      obtain ⟨j, V, vc, hj, rfl, hb, HX, HY, HO, hz⟩ := hrel
      by_cases hlt : j < n
      · obtain ⟨b, o, rfl, hbl, hx0⟩ := HS.out.at_ hlt
        have hx := (hb.cell (p := ⟨b, o + j, none⟩) hbl).trans hx0
        have hbx : -9223372036854775808 ≤ xs.getD j 0 ∧ xs.getD j 0 ≤ 9223372036854775807 := hbd j (by omega)
        have hst : xs.take j ++ [xs.getD j 0] = xs.take (j + 1) := by
          have hj2 : j < xs.length := by rw [HL.out]; exact hlt
          rw [getD_get hj2]
          exact (List.take_succ_eq_append_getElem hj2).symm
        clear hx0
        generalize xs.getD j 0 = y at hx hst hbx
        have HST := Lib.hid hst
        have HO1 := Lib.hid (HO.out.alloc (.cells #[.int .i64 y] 2))
        have HS1 := Lib.hid (slOne wr y)
        have hj1 : (j : Int) < (n : Int) := by omega
        have hj0 : (0 : Int) ≤ (j : Int) := by omega
        have d1 : ∀ i, wr.cell? ⟨w.heap.size + 1, i, none⟩ = _ := Bx.cell HY.out
        have p1 := HY.out.lt
        have HZ := Lib.hid (show w.heap.size + 1 + 1 ≤ (wr.alloc (.cells #[.int .i64 y] 2)).heap.size by simp; omega)
        have ewy : IntKind.i64.wrap y = y := IntWalk.i64_in _ hbx
        clear hst
        go_wp2_with (at_builtin; refine wpList_append_sl rfl _ _ rfl rfl (w.heap.size + 1 + 1) _ j (xs.take j) rfl HO1.out (some ⟨wr.heap.size, 0, none⟩) 1 1 [y] rfl HS1.out (by omega) HZ.out ?_)
        intro A2 c2 w2 hg
        have Y2 : Bx w2 (w.heap.size + 1) #[.int .i64 k, .int .i64 1, .int .i64 n, .int .i64 0, .slice V j vc] 25 := Bx.grown (Bx.alloc HY.out _) hg.2.2 (own_row_ne HO1.out (Bx.alloc HY.out _) (by decide))
        have X2 : Bx w2 w.heap.size #[.int .i64 0, .int .i64 0, .int .i64 0, .int .i64 0, .slice none 0 0] 25 := Bx.grown (Bx.alloc HX.out _) hg.2.2 (own_row_ne HO1.out (Bx.alloc HX.out _) (by decide))
        have b2 : Below w.heap.size w w2 := hg.below (bal hb _) (fun k hk => by have := (HO1.out.lt k hk).1; omega)
        have HG := Lib.hid (show w2.ownsRow (w.heap.size + 1 + 1) 2 1 (.slice A2 (j + 1) c2) (j + 1) ((xs.take j ++ [y]).map (Value.int .i64)) from hg.1)
        have d2 : ∀ i, w2.cell? ⟨w.heap.size + 1, i, none⟩ = _ := Bx.cell Y2
        have f2 : ∀ i, w2.frozen? ⟨w.heap.size + 1, i, none⟩ = false := Bx.frozen Y2
        have p2 := Y2.lt
        clear d1 hg
        go_wp2
        refine ⟨⟨j + 1, A2, c2, by omega, rfl, bsc b2 (by simp) _, Lib.hid (Bx.far X2 (by simp) _), Lib.hid (by simpa using Y2.set_ 4 (.slice A2 (j + 1) c2)), ?_, by simp [World.setCell]; omega⟩, ?_⟩
        · rw [← HST.out]; exact Lib.hid (own_drop HG.out Y2 (by decide) _)
        · simp only [intOf]; omega
      · obtain rfl : j = n := by omega
        have d1 : ∀ i, wr.cell? ⟨w.heap.size + 1, i, none⟩ = _ := Bx.cell HY.out
        have d0 : ∀ i, wr.cell? ⟨w.heap.size, i, none⟩ = _ := Bx.cell HX.out
        have f0 : ∀ i, wr.frozen? ⟨w.heap.size, i, none⟩ = false := Bx.frozen HX.out
        have p0 := HX.out.lt
        go_wp2
        refine retAE (B := w.heap.size) rfl rfl rfl rfl (Bx.set5 HX.out _ _ _ _ _) ?_
        have ht : xs.take j = xs := by rw [← HL.out]; exact List.take_length
        have hO := HO.out
        rw [ht] at hO
        obtain ⟨_, _, hv, hS, _⟩ := Sl.of_own hO
        cases hv
        exact RetA.mk HR.out.symm (hS.past5 _ _ _ _ _ fun b o e => own_ne' hO HX.out (by decide) e) (fun b o s e => by have := New.of_own' hO b o s e; omega) (below_set5 hb (Nat.le_refl _) _ _ _ _ _)

set_option maxHeartbeats 1000000 in
theorem aInts_any (A : Option Addr) (n c : Nat) (xs : List Int) (R : Arr × Int) (w : World) (hs : Sl w A n c xs) (h : sVec 1 xs = R) :
    Calls Tryd.prog 17 #[.slice A n c] w (RetA w R) := by
  have HS := Lib.hid hs
  have HR := Lib.hid h
  clear hs h
  go_enter Tryd.func17, Tryd.ntmps17
  go_wp2_with fail
  refine (vec_i64 1 A n c xs R _ (HS.out.step (below1 _ _)) HR.out).mono ?_
  intro e w1 hR
  obtain ⟨⟨k, r, l0, l1, ys⟩, ec⟩ := R
  obtain ⟨A1, n1, c1, rfl, hS, hN, hb⟩ := RetA.flat hR
  clear hR
  obtain ⟨X0, b1⟩ := after1 hb
  have d0 : ∀ i, w1.cell? ⟨w.heap.size, i, none⟩ = _ := Bx.cell X0
  have f0 : ∀ i, w1.frozen? ⟨w.heap.size, i, none⟩ = false := Bx.frozen X0
  have p0 := Bx.lt X0
  have HS1 := Lib.hid hS
  clear hS hb
  go_wp2
  refine retAE (B := w.heap.size) rfl rfl rfl rfl (Bx.set5 X0 _ _ _ _ _) ?_
  exact RetA.mk rfl (HS1.out.past5 _ _ _ _ _ fun b o e => by have := hN b o none e; simp at this; omega) (hN.mono (by simp)) (below_set5 b1 (Nat.le_refl _) _ _ _ _ _)
set_option maxHeartbeats 1000000 in
theorem rInts_any (A : Option Addr) (n c : Nat) (xs : List Int) (R : Arr × Int) (w : World) (hs : Sl w A n c xs) (h : sVec 1 xs = R) :
    Calls Tryd.prog 18 #[.slice A n c] w (RetA w R) := by
  unfold sVec at h
  have hl := hs.len
  rw [hl] at h
  have HS := Lib.hid hs
  clear hs hl
  by_cases h4 : 400 < n
  · rw [if_pos h4] at h
    have HR := Lib.hid h
    have h4' : (400 : Int) < (n : Int) := by omega
    clear h
    go_enter Tryd.func18, Tryd.ntmps18
    go_wp2
    refine retAE (B := w.heap.size) rfl rfl rfl rfl (Bx.new _ _ _) ?_
    exact RetA.mk HR.out.symm (Sl.nil _) (fun _ _ _ h => by cases h) (below1 _ _)
  · rw [if_neg h4] at h
    have HR := Lib.hid h
    have h4' : ¬ (400 : Int) < (n : Int) := by omega
    clear h
    go_enter Tryd.func18, Tryd.ntmps18
    go_wp2_with (at_builtin; refine wpList_append_sl rfl _ _ rfl rfl (w.heap.size + 1) _ 0 [] rfl (ownEmpty (w.alloc (.cells #[.int .i64 0, .int .i64 0, .int .i64 0, .int .i64 0, .slice none 0 0] 25)) (w.heap.size + 1) (w.heap.size + 1) (by simp) (by simp)) A n c xs rfl (HS.out.step (below2 _ _ _)) (by omega) (by simp) ?_)
    intro A' c' w1 hg
    have X0 := Bx.grown (Bx.alloc (Bx.new w #[.int .i64 0, .int .i64 0, .int .i64 0, .int .i64 0, .slice none 0 0] 25) (.cells #[] 2)) hg.2.2 (by simp [Value.ownBlock])
    have b1 := hg.below (below2 w (.cells #[.int .i64 0, .int .i64 0, .int .i64 0, .int .i64 0, .slice none 0 0] 25) (.cells #[] 2)) (by simp [Value.ownBlock])
    have HF := hg.from
    have HN : New w A' := fun b o s e => by have := HF b o s e; omega
    have HS1 := Lib.hid (show Sl w1 A' n c' xs by simpa using hg.2.1)
    clear hg
    have g0 := X0.cell
    have f0 := X0.frozen
    have p0 := X0.lt
    go_wp2
    refine retAE (B := w.heap.size) rfl rfl rfl rfl (X0.set5 _ _ _ _ _) ?_
    exact RetA.mk HR.out.symm (HS1.out.past5 _ _ _ _ _ (fun b o e => by have := HF b o none e; omega)) HN (below_set5 b1 (Nat.le_refl _) _ _ _ _ _)
end Go.Proofs.YtimpdfafodaadaaDoor

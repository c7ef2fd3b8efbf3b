/-
  arrays.With and the reference's.
-/
import Derived.Test.YtimpdfafodaadaaDoorAt
import Derived.Test.YtimpdfafodaadaaDoorMk
import Derived.Test.YtimpdfafodaadaaDoorMblk
import Derived.OneCell
namespace Go.Proofs.YtimpdfafodaadaaDoor
open Go.RowKit
attribute [local go_sem] Oper.semAt_some

theorem own_block {w : World} {base n c : Nat} {A : Option Addr} {xs : List Int} (h : w.ownsRow base 2 1 (.slice A n c) n (xs.map (Value.int .i64))) (hn : 0 < n) :
    ∃ g, A = some ⟨g, 0, none⟩ ∧ base ≤ g ∧ Bf w g n (fun j => xs.getD j 0) ∧ n ≤ c ∧ c ≤ maxLen := by
  obtain ⟨_, _, hv, hS, _⟩ := Sl.of_own h
  cases hv
  rcases h.2 with ⟨h1, _⟩ | ⟨g, cap, cur, h1, hb, hg, hnc, hm, hs, ht⟩
  · simp only [Value.slice.injEq] at h1
    omega
  · simp only [Value.slice.injEq] at h1
    obtain ⟨rfl, _, rfl⟩ := h1
    exact ⟨g, rfl, hb, Bf.of_own h, hS.cap, hS.2.2.1⟩
theorem set_getD {xs : List Int} {p : Nat} {v : Int} (j : Nat) (hj : j < xs.length) : (xs.set p v).getD j 0 = if j = p then v else xs.getD j 0 := by
  by_cases e : j = p
  · subst e
    simp [hj]
  · have e2 : ¬ p = j := fun h => e h.symm
    simp [List.getD, e, e2]
theorem Bf.put {w : World} {g n c : Nat} {xs : List Int} (h : Bf w g n (fun j => xs.getD j 0)) (hl : xs.length = n) (hc : n ≤ c) (hm : c ≤ maxLen) (p : Nat) (v : Int) :
    Sl (w.setCell ⟨g, p, none⟩ (.int .i64 v)) (some ⟨g, 0, none⟩) n c (xs.set p v) :=
  Bf.sl ((h.set p v).congr fun j hj => (set_getD j (by omega)).symm) (by simpa using hl) hc hm
theorem Bf.far {w : World} {g n : Nat} {f : Nat → Int} (h : Bf w g n f) {p : Addr} (hp : g ≠ p.block) (u : Value) : Bf (w.setCell p u) g n f := h.block (Below.heap_setCell w p u g hp)

theorem with_spec {k r l0 l1 : Int} {xs : List Int} {x0 x1 p v e0 : Int} {R : Arr × Int} (hpe : sAtP ⟨k, r, l0, l1, xs⟩ x0 x1 = (p, e0)) (h : sWith ⟨k, r, l0, l1, xs⟩ x0 x1 v = R) :
    (e0 ≠ 0 ∧ R = (⟨0, 0, 0, 0, []⟩, e0)) ∨ (e0 = 0 ∧ rightB k v = false ∧ R = (⟨0, 0, 0, 0, []⟩, 7)) ∨ (e0 = 0 ∧ rightB k v = true ∧ R = (⟨k, r, l0, l1, xs.set p.toNat v⟩, 0)) := by
  unfold sWith at h
  rw [hpe] at h
  simp only at h
  by_cases he : e0 = 0
  · subst he
    rw [if_neg (by simp)] at h
    by_cases hr : rightB k v = false
    · rw [if_pos hr] at h
      exact .inr (.inl ⟨rfl, hr, h.symm⟩)
    · rw [if_neg hr] at h
      exact .inr (.inr ⟨rfl, by simpa using hr, h.symm⟩)
  · rw [if_pos he] at h
    exact .inl ⟨he, h.symm⟩
set_option maxHeartbeats 2000000 in
theorem aWith_any (k r l0 l1 : Int) (A : Option Addr) (n c : Nat) (xs : List Int) (x0 x1 v : Int) (R : Arr × Int) (w : World) (hs : Sl w A n c xs) (h : sWith ⟨k, r, l0, l1, xs⟩ x0 x1 v = R) :
    Calls Tryd.prog 28 #[.agg #[.int .i64 k, .int .i64 r, .int .i64 l0, .int .i64 l1, .slice A n c], .agg #[.int .i64 x0, .int .i64 x1], .int .i64 v] w (RetA w R) := by
  obtain ⟨⟨p, e0⟩, hpe⟩ : ∃ R, sAtP ⟨k, r, l0, l1, xs⟩ x0 x1 = R := ⟨_, rfl⟩
  have HPE := Lib.hid hpe
  have HS := Lib.hid hs
  rcases with_spec hpe h with ⟨he, hR⟩ | ⟨rfl, hr, hR⟩ | ⟨rfl, hr, hR⟩
  · have HR := Lib.hid hR
    have hne : (e0 != 0) = true := by simpa using he
    clear hpe hs h he hR
    go_enter Tryd.func28, Tryd.ntmps28
    go_wp2_with fail
    refine (at_any w.heap.size k r l0 l1 _ n c xs x0 x1 p e0 _ (((Bx.new _ _ _).alloc _).alloc _) (HS.out.step (below3 _ _ _ _)) HPE.out).mono ?_
    rintro e w1 ⟨rfl, hb1⟩
    obtain ⟨X0, X1, X2, b1⟩ := after3 hb1
    clear hb1
    have c0 : ∀ i, w1.cell? ⟨w.heap.size, i, none⟩ = _ := Bx.cell X0
    have f2 : ∀ i, w1.frozen? ⟨w.heap.size + 1 + 1, i, none⟩ = false := Bx.frozen X2
    have c2 : ∀ i, w1.cell? ⟨w.heap.size + 1 + 1, i, none⟩ = _ := Bx.cell X2
    have q2 := Bx.lt X2
    go_wp2
    refine retAE (B := w.heap.size + 1 + 1) rfl rfl rfl rfl (Bx.set5 X2 _ _ _ _ _) ?_
    exact RetA.mk HR.out (Sl.nil _) (fun b o s e => by cases e) (below_set5 b1 (by omega) _ _ _ _ _)
  · have HR := Lib.hid hR
    have HT := Lib.hid hr
    clear hpe hs h hR hr
    go_enter Tryd.func28, Tryd.ntmps28
    go_wp2_with fail
    refine (at_any w.heap.size k r l0 l1 _ n c xs x0 x1 p 0 _ (((Bx.new _ _ _).alloc _).alloc _) (HS.out.step (below3 _ _ _ _)) HPE.out).mono ?_
    rintro e w1 ⟨rfl, hb1⟩
    obtain ⟨X0, X1, X2, b1⟩ := after3 hb1
    clear hb1
    have c0 : ∀ i, w1.cell? ⟨w.heap.size, i, none⟩ = _ := Bx.cell X0
    go_wp2_with fail
    refine (right_any k v _).mono ?_
    rintro e w2 ⟨rfl, hb2⟩
    rw [HT.out]
    have Y2 := Bx.step X2 hb2
    have b2 := bst b1 hb2
    clear c0
    have f2 : ∀ i, w2.frozen? ⟨w.heap.size + 1 + 1, i, none⟩ = false := Bx.frozen Y2
    have c2 : ∀ i, w2.cell? ⟨w.heap.size + 1 + 1, i, none⟩ = _ := Bx.cell Y2
    have q2 := Bx.lt Y2
    go_wp2
    refine retAE (B := w.heap.size + 1 + 1) rfl rfl rfl rfl (Bx.set5 Y2 _ _ _ _ _) ?_
    exact RetA.mk HR.out (Sl.nil _) (fun b o s e => by cases e) (below_set5 b2 (by omega) _ _ _ _ _)
  · have HR := Lib.hid hR
    have HT := Lib.hid hr
    obtain ⟨hp0, hp1, hp2⟩ := atP_bounds hpe
    obtain ⟨pn, rfl⟩ : ∃ pn : Nat, p = pn := ⟨p.toNat, by omega⟩
    rw [Int.toNat_natCast] at hR
    replace HR := Lib.hid hR
    have hl := hs.len
    have hpn : pn < n := by omega
    have hn5 : n ≤ 1000000 := by omega
    have hpn' : (pn : Int) < (n : Int) := by omega
    have HL := Lib.hid hl
    clear hpe hs h hR hr hp1 hp2 hl
    go_enter Tryd.func28, Tryd.ntmps28
    go_wp2_with fail
    refine (at_any w.heap.size k r l0 l1 _ n c xs x0 x1 pn 0 _ (((Bx.new _ _ _).alloc _).alloc _) (HS.out.step (below3 _ _ _ _)) HPE.out).mono ?_
    rintro e w1 ⟨rfl, hb1⟩
    obtain ⟨X0, X1, X2, b1⟩ := after3 hb1
    clear hb1
    have c0 : ∀ i, w1.cell? ⟨w.heap.size, i, none⟩ = _ := Bx.cell X0
    go_wp2_with fail
    refine (right_any k v _).mono ?_
    rintro e w2 ⟨rfl, hb2⟩
    rw [HT.out]
    have Y0 := Bx.step X0 hb2
    have Y2 := Bx.step X2 hb2
    have b2 := bst b1 hb2
    clear c0
    have c0 : ∀ i, w2.cell? ⟨w.heap.size, i, none⟩ = _ := Bx.cell Y0
    go_wp2_with fail
    refine (clone_any A n c xs _ (HS.out.step b2) hn5).mono ?_
    rintro e w3 ⟨⟨A3, c3, rfl, hO, hS3, hN3⟩, hb3⟩
    obtain ⟨g, rfl, hg, hB, hcc, hcm⟩ := own_block hO (by omega)
    have Z0 := Bx.step Y0 hb3
    have Z2 := Bx.step Y2 hb3
    have b3 := bst b2 hb3
    have hw2 := b2.size
    have u0 := Bx.lt Y0
    have u2 := Bx.lt Y2
    have u3 := hB.lt
    clear c0 hO hS3 hN3
    have c0 : ∀ i, w3.cell? ⟨w.heap.size, i, none⟩ = _ := Bx.cell Z0
    have f0 : ∀ i, w3.frozen? ⟨w.heap.size, i, none⟩ = false := Bx.frozen Z0
    have c2 : ∀ i, w3.cell? ⟨w.heap.size + 1 + 1, i, none⟩ = _ := Bx.cell Z2
    have f2 : ∀ i, w3.frozen? ⟨w.heap.size + 1 + 1, i, none⟩ = false := Bx.frozen Z2
    have cg : w3.cell? ⟨g, pn, none⟩ = _ := hB.cell hpn
    have fg : ∀ i, w3.frozen? ⟨g, i, none⟩ = false := hB.frozen
    have n1 : g ≠ w.heap.size := by omega
    have n2 : g ≠ w.heap.size + 1 + 1 := by omega
    have hcc' : (pn : Int) < (c3 : Int) := by omega
    have hcm' : (c3 : Int) ≤ 9223372036854775807 := by unfold maxLen at hcm; omega
    go_wp2
    refine retAE (B := w.heap.size + 1 + 1) rfl rfl rfl rfl (Bx.set5 ((Z2.far (p := ⟨w.heap.size, 4, none⟩) (show w.heap.size + 1 + 1 ≠ w.heap.size by omega) _).far (p := ⟨g, pn, none⟩) n2.symm _) _ _ _ _ _) ?_
    refine RetA.mk HR.out (((hB.far (p := ⟨w.heap.size, 4, none⟩) n1 _).put HL.out hcc hcm pn v).past5 _ _ _ _ _ fun b o e => by cases e; exact n2) (fun b o s e => by cases e; omega) ?_
    exact below_set5 (bsc (bsc b3 (by simp) _) (by simp; omega) _) (by omega) _ _ _ _ _

theorem right_rune {k v : Int} (hk : k = 1 ∨ k = 2) {t : Bool} (h : rightB k v = t) : k = 1 ∧ t = true ∨ k = 2 ∧ isRune v = t := by
  rcases hk with rfl | rfl
  · left; exact ⟨rfl, by rw [← h]; rfl⟩
  · right; exact ⟨rfl, by rw [← h]; simp [rightB]⟩
set_option maxHeartbeats 2000000 in
theorem rWith_err (k r l0 l1 : Int) (A : Option Addr) (n c : Nat) (xs : List Int) (x0 x1 v : Int) (R : Arr × Int) (w : World) (hs : Sl w A n c xs) (h : sWith ⟨k, r, l0, l1, xs⟩ x0 x1 v = R) (hR0 : R.2 ≠ 0) :
    Calls Tryd.prog 29 #[.agg #[.int .i64 k, .int .i64 r, .int .i64 l0, .int .i64 l1, .slice A n c], .agg #[.int .i64 x0, .int .i64 x1], .int .i64 v] w (RetA w R) := by
  obtain ⟨⟨p, e0⟩, hpe⟩ : ∃ R, sAtP ⟨k, r, l0, l1, xs⟩ x0 x1 = R := ⟨_, rfl⟩
  obtain ⟨⟨y, e1⟩, hat⟩ : ∃ R, sAt ⟨k, r, l0, l1, xs⟩ x0 x1 = R := ⟨_, rfl⟩
  have he1 : e1 = e0 := by
    have h2 := hat
    unfold sAt at h2
    rw [hpe] at h2
    simp only at h2
    by_cases he : e0 = 0
    · rw [if_neg (by simp [he])] at h2
      rw [he]; exact (Prod.mk.inj h2).2.symm
    · rw [if_pos he] at h2
      exact (Prod.mk.inj h2).2.symm
  subst he1
  have HAT := Lib.hid hat
  have HS := Lib.hid hs
  rcases with_spec hpe h with ⟨he, hR⟩ | ⟨rfl, hr, hR⟩ | ⟨rfl, hr, hR⟩
  · have HR := Lib.hid hR
    have hne : (e1 != 0) = true := by simpa using he
    have hne' : (e1 == 0) = false := by simpa using he
    clear hpe hat hs h he hR hR0
    go_enter Tryd.func29, Tryd.ntmps29
    go_wp2_with fail
    refine (rAt_any k r l0 l1 _ n c xs x0 x1 y e1 _ (HS.out.step (below3 _ _ _ _)) HAT.out).mono ?_
    rintro e w1 ⟨rfl, hb1⟩
    obtain ⟨X0, X1, X2, b1⟩ := after3 hb1
    clear hb1
    have c0 : ∀ i, w1.cell? ⟨w.heap.size, i, none⟩ = _ := Bx.cell X0
    have c1 : ∀ i, w1.cell? ⟨w.heap.size + 1, i, none⟩ = _ := Bx.cell X1
    have c2 : ∀ i, w1.cell? ⟨w.heap.size + 1 + 1, i, none⟩ = _ := Bx.cell X2
    have f2 : ∀ i, w1.frozen? ⟨w.heap.size + 1 + 1, i, none⟩ = false := Bx.frozen X2
    have q2 := Bx.lt X2
    go_wp2
    refine retAE (B := w.heap.size + 1 + 1) rfl rfl rfl rfl (Bx.set5 X2 _ _ _ _ _) ?_
    exact RetA.mk HR.out (Sl.nil _) (fun b o s e => by cases e) (below_set5 b1 (by omega) _ _ _ _ _)
  · have HR := Lib.hid hR
    obtain ⟨hc, _⟩ := atP_ok hpe
    have hk : k = 1 ∨ k = 2 := (achk_ok hc).1
    rcases right_rune hk hr with ⟨rfl, ht⟩ | ⟨rfl, ht⟩
    · cases ht
    have HT := Lib.hid ht
    clear hpe hat hs h hR hr ht hc hR0 hk
    go_enter Tryd.func29, Tryd.ntmps29
    go_wp2_with fail
    refine (rAt_any 2 r l0 l1 _ n c xs x0 x1 y 0 _ (HS.out.step (below3 _ _ _ _)) HAT.out).mono ?_
    rintro e w1 ⟨rfl, hb1⟩
    obtain ⟨X0, X1, X2, b1⟩ := after3 hb1
    clear hb1
    have c0 : ∀ i, w1.cell? ⟨w.heap.size, i, none⟩ = _ := Bx.cell X0
    have c1 : ∀ i, w1.cell? ⟨w.heap.size + 1, i, none⟩ = _ := Bx.cell X1
    have c2 : ∀ i, w1.cell? ⟨w.heap.size + 1 + 1, i, none⟩ = _ := Bx.cell X2
    have f2 : ∀ i, w1.frozen? ⟨w.heap.size + 1 + 1, i, none⟩ = false := Bx.frozen X2
    have q2 := Bx.lt X2
    go_wp2_with fail
    refine (rune64_any v _).mono ?_
    rintro e w2 ⟨rfl, hb2⟩
    rw [HT.out]
    have Y2 := Bx.step X2 hb2
    have b2 := bst b1 hb2
    clear c0 c1 c2 f2 q2
    have f2 : ∀ i, w2.frozen? ⟨w.heap.size + 1 + 1, i, none⟩ = false := Bx.frozen Y2
    have c2 : ∀ i, w2.cell? ⟨w.heap.size + 1 + 1, i, none⟩ = _ := Bx.cell Y2
    have q2 := Bx.lt Y2
    go_wp2
    refine retAE (B := w.heap.size + 1 + 1) rfl rfl rfl rfl (Bx.set5 Y2 _ _ _ _ _) ?_
    exact RetA.mk HR.out (Sl.nil _) (fun b o s e => by cases e) (below_set5 b2 (by omega) _ _ _ _ _)
  · rw [hR] at hR0
    exact absurd rfl hR0
theorem own_set5 {w : World} {base n c B : Nat} {A : Option Addr} {xs : List Value} {cs : Array Value} {T : TypeId} (h : w.ownsRow base 2 1 (.slice A n c) n xs) (hx : Bx w B cs T) (hT : 2 ≠ T) (v0 v1 v2 v3 v4 : Value) :
    ((((((w.setCell ⟨B, 0, none⟩ v0).setCell ⟨B, 1, none⟩ v1).setCell ⟨B, 2, none⟩ v2).setCell ⟨B, 3, none⟩ v3).setCell ⟨B, 4, none⟩ v4)).ownsRow base 2 1 (.slice A n c) n xs := by
  have hne : (Value.slice A n c).ownBlock ≠ some B := by
    rcases h.2 with ⟨h1, _⟩ | ⟨g, cap, cur, h1, hb, hg, hn, hm, hs, ht⟩
    · rw [h1]; simp [Value.ownBlock]
    · rw [h1]
      simp only [Value.slice.injEq] at h1
      obtain ⟨rfl, _⟩ := h1
      simp only [Value.ownBlock, ne_eq, Option.some.injEq]
      exact own_ne h hx hT rfl
  exact ownsRow_setCell_other (ownsRow_setCell_other (ownsRow_setCell_other (ownsRow_setCell_other (ownsRow_setCell_other h hne _) hne _) hne _) hne _) hne _
set_option maxHeartbeats 4000000 in
theorem rWith_ok (k r l0 l1 : Int) (A : Option Addr) (n c : Nat) (xs : List Int) (x0 x1 v : Int) (pn : Nat) (w : World) (hs : Sl w A n c xs) (hpe : sAtP ⟨k, r, l0, l1, xs⟩ x0 x1 = ((pn : Int), 0)) (hr : rightB k v = true) :
    Calls Tryd.prog 29 #[.agg #[.int .i64 k, .int .i64 r, .int .i64 l0, .int .i64 l1, .slice A n c], .agg #[.int .i64 x0, .int .i64 x1], .int .i64 v] w (RetA w (⟨k, r, l0, l1, xs.set pn v⟩, 0)) := by
  obtain ⟨hc, hpl⟩ := atP_ok hpe
  have hk : k = 1 ∨ k = 2 := (achk_ok hc).1
  obtain ⟨hp0, hp1, hp2⟩ := atP_bounds hpe
  have hl := hs.len
  have hpn : pn < n := by omega
  have hn5 : n ≤ 1000000 := by omega
  have hpn' : (pn : Int) < (n : Int) := by omega
  obtain ⟨y, hat⟩ : ∃ y, sAt ⟨k, r, l0, l1, xs⟩ x0 x1 = (y, 0) := by
    unfold sAt
    rw [hpe]
    exact ⟨_, rfl⟩
  have HAT := Lib.hid hat
  have HS := Lib.hid hs
  have HL := Lib.hid hl
  have HPL := Lib.hid (show sPlace r l0 l1 x0 x1 = ((pn : Int), 0) from hpl)
  have HK := Lib.hid (right_rune hk hr)
  clear hpe hs hr hc hpl hk hp0 hp1 hp2 hl hat
  rcases HK.out with ⟨rfl, -⟩ | ⟨rfl, ht⟩
  · go_enter Tryd.func29, Tryd.ntmps29
    go_wp2_with fail
    refine (rAt_any 1 r l0 l1 _ n c xs x0 x1 y 0 _ (HS.out.step (below3 _ _ _ _)) HAT.out).mono ?_
    rintro e w1 ⟨rfl, hb1⟩
    obtain ⟨X0, X1, X2, b1⟩ := after3 hb1
    clear hb1
    have c0 : ∀ i, w1.cell? ⟨w.heap.size, i, none⟩ = _ := Bx.cell X0
    have c1 : ∀ i, w1.cell? ⟨w.heap.size + 1, i, none⟩ = _ := Bx.cell X1
    have c2 : ∀ i, w1.cell? ⟨w.heap.size + 1 + 1, i, none⟩ = _ := Bx.cell X2
    have f2 : ∀ i, w1.frozen? ⟨w.heap.size + 1 + 1, i, none⟩ = false := Bx.frozen X2
    have q2 := Bx.lt X2
    go_wp2_with fail
    refine (rplace_any r l0 l1 x0 x1 pn 0 _ HPL.out).mono ?_
    rintro e w2 ⟨rfl, hb2⟩
    have b2 := bst b1 hb2
    have Y0 := Bx.step X0 hb2
    have Y2 := Bx.step X2 hb2
    have HS2 := Lib.hid (HS.out.step b2)
    clear c0 c1
    have d0 : ∀ i, w2.cell? ⟨w.heap.size, i, none⟩ = _ := Bx.cell Y0
    have p0 := Y0.lt
    have p2 := Y2.lt
    go_wp2_with fail
    go_cut [12] from 44 to 54 (fun p wx => ∃ (B : Nat) (A' : Option Addr) (c' : Nat), p = .pointer (some ⟨B, 0, none⟩) ∧ Below w2.heap.size w2 wx ∧ Hid (Bx wx B #[.int .i64 1, .int .i64 r, .int .i64 l0, .int .i64 l1, .slice A' n c'] 25) ∧ Hid (wx.ownsRow w2.heap.size 2 1 (.slice A' n c') n (xs.map (Value.int .i64))) ∧ w2.heap.size ≤ B)
    case first =>
      clear d0
      have hS : ∀ u, Below w2.heap.size w2 u → ∀ i, u.cell? ⟨w.heap.size, i, none⟩ = #[.int .i64 1, .int .i64 r, .int .i64 l0, .int .i64 l1, .slice A n c][i]? := fun u h => Bx.cell (Bx.step Y0 h)
      have P0 : Below w2.heap.size w2 w2.drew := bdr (Below.refl _ _)
      have P1 : Below w2.heap.size w2 (w2.alloc (.cells #[.int .i64 0, .int .i64 0, .int .i64 0, .int .i64 0, .slice none 0 0] 25)).drew := bdr (bal (Below.refl _ _) _)
      have P2 : Below w2.heap.size w2 (w2.alloc (.cells #[] 2)).drew := bdr (bal (Below.refl _ _) _)
      have P3 : Below w2.heap.size w2 ((w2.alloc (.cells #[] 2)).alloc (.cells #[.int .i64 0, .int .i64 0, .int .i64 0, .int .i64 0, .slice none 0 0] 25)).drew := bdr (bal (bal (Below.refl _ _) _) _)
      have P4 : Below w2.heap.size w2 ((w2.alloc (.cells #[.int .i64 0, .int .i64 0, .int .i64 0, .int .i64 0, .slice none 0 0] 25)).alloc (.cells #[] 2)).drew := bdr (bal (bal (Below.refl _ _) _) _)
      have e1 : (w2.alloc (.cells #[.int .i64 0, .int .i64 0, .int .i64 0, .int .i64 0, .slice none 0 0] 25)).heap.size = w2.heap.size + 1 := by simp
      have e2 : (w2.alloc (.cells #[] 2)).heap.size = w2.heap.size + 1 := by simp
      have N3 : Bx ((w2.alloc (.cells #[] 2)).alloc (.cells #[.int .i64 0, .int .i64 0, .int .i64 0, .int .i64 0, .slice none 0 0] 25)).drew (w2.heap.size + 1) #[.int .i64 0, .int .i64 0, .int .i64 0, .int .i64 0, .slice none 0 0] 25 := by
        rw [← e2]
        exact Bx.new (w2.alloc (.cells #[] 2)) _ _
      have N4 : Bx ((w2.alloc (.cells #[.int .i64 0, .int .i64 0, .int .i64 0, .int .i64 0, .slice none 0 0] 25)).alloc (.cells #[] 2)).drew w2.heap.size #[.int .i64 0, .int .i64 0, .int .i64 0, .int .i64 0, .slice none 0 0] 25 := (Bx.new w2 _ _).alloc _
      have O2 := Lib.hid (show (w2.alloc (.cells #[] 2)).drew.ownsRow w2.heap.size 2 1 (.slice (some ⟨w2.heap.size, 0, none⟩) 0 0) 0 (([] : List Int).map (Value.int .i64)) from (ownEmpty w2 w2.heap.size w2.heap.size rfl (Nat.le_refl _)).drew)
      have O3 := Lib.hid (show ((w2.alloc (.cells #[] 2)).alloc (.cells #[.int .i64 0, .int .i64 0, .int .i64 0, .int .i64 0, .slice none 0 0] 25)).drew.ownsRow w2.heap.size 2 1 (.slice (some ⟨w2.heap.size, 0, none⟩) 0 0) 0 (([] : List Int).map (Value.int .i64)) from ((ownEmpty w2 w2.heap.size w2.heap.size rfl (Nat.le_refl _)).alloc _).drew)
      have O4 := Lib.hid (show ((w2.alloc (.cells #[.int .i64 0, .int .i64 0, .int .i64 0, .int .i64 0, .slice none 0 0] 25)).alloc (.cells #[] 2)).drew.ownsRow w2.heap.size 2 1 (.slice (some ⟨w2.heap.size + 1, 0, none⟩) 0 0) 0 (([] : List Int).map (Value.int .i64)) from (ownEmpty (w2.alloc (.cells #[.int .i64 0, .int .i64 0, .int .i64 0, .int .i64 0, .slice none 0 0] 25)) w2.heap.size (w2.heap.size + 1) e1 (by rw [e1]; omega)).drew)
      have S2 := Lib.hid (HS2.out.step P2)
      have S3 := Lib.hid (HS2.out.step P3)
      have S4 := Lib.hid (HS2.out.step P4)
      have z2 := P2.size
      have z3 := P3.size
      have z4 := P4.size
      clear e1 e2
      go_region_held3 (fun w' => ∀ i, w'.cell? ⟨w.heap.size, i, none⟩ = #[.int .i64 1, .int .i64 r, .int .i64 l0, .int .i64 l1, .slice A n c][i]?)
        (with_reducible first | exact hS _ P0 | exact hS _ P1 | exact hS _ P2 | exact hS _ P3 | exact hS _ P4 | exact hS _ P6 | exact hS _ (bal P6 _) | exact hS _ (below_set5' P6 (Nat.le_refl _) _ _ _ _ _) | exact hS _ (below_set5' P6 (Nat.le_succ _) _ _ _ _ _))
        (first
          | (refine step_append_sl rfl _ _ rfl rfl w2.heap.size (.slice (some ⟨w2.heap.size, 0, none⟩) 0 0) 0 [] rfl O2.out A n c xs rfl S2.out (by omega) z2 ?_; intro A6 c6 u6 hG; have P6 : Below w2.heap.size w2 u6 := hG.below P2 (fun k hk => (O2.out.lt k hk).1); have zz6 := P6.size; have HG := Lib.hid (show u6.ownsRow w2.heap.size 2 1 (.slice A6 n c6) n (xs.map (Value.int .i64)) by simpa using hG.1); clear hG)
          | (refine step_append_sl rfl _ _ rfl rfl w2.heap.size (.slice (some ⟨w2.heap.size, 0, none⟩) 0 0) 0 [] rfl O3.out A n c xs rfl S3.out (by omega) z3 ?_; intro A6 c6 u6 hG; have P6 : Below w2.heap.size w2 u6 := hG.below P3 (fun k hk => (O3.out.lt k hk).1); have zz6 := P6.size; have M1 : Bx u6 (w2.heap.size + 1) #[.int .i64 0, .int .i64 0, .int .i64 0, .int .i64 0, .slice none 0 0] 25 := N3.grown' hG.2.2 (by simp [Value.ownBlock]); have gB : ∀ i, u6.cell? ⟨w2.heap.size + 1, i, none⟩ = _ := Bx.cell M1; have kB : ∀ i, u6.frozen? ⟨w2.heap.size + 1, i, none⟩ = false := Bx.frozen M1; have HG := Lib.hid (show u6.ownsRow w2.heap.size 2 1 (.slice A6 n c6) n (xs.map (Value.int .i64)) by simpa using hG.1); clear hG)
          | (refine step_append_sl rfl _ _ rfl rfl w2.heap.size (.slice (some ⟨w2.heap.size + 1, 0, none⟩) 0 0) 0 [] rfl O4.out A n c xs rfl S4.out (by omega) z4 ?_; intro A6 c6 u6 hG; have P6 : Below w2.heap.size w2 u6 := hG.below P4 (fun k hk => (O4.out.lt k hk).1); have zz6 := P6.size; have M1 : Bx u6 w2.heap.size #[.int .i64 0, .int .i64 0, .int .i64 0, .int .i64 0, .slice none 0 0] 25 := N4.grown' hG.2.2 (by simp [Value.ownBlock]); have gB : ∀ i, u6.cell? ⟨w2.heap.size, i, none⟩ = _ := Bx.cell M1; have kB : ∀ i, u6.frozen? ⟨w2.heap.size, i, none⟩ = false := Bx.frozen M1; have HG := Lib.hid (show u6.ownsRow w2.heap.size 2 1 (.slice A6 n c6) n (xs.map (Value.int .i64)) by simpa using hG.1); clear hG))
      all_goals go_wp2_with fail
      all_goals go_meet
      · exact ⟨u6.heap.size, A6, c6, rfl, bal P6 _, Lib.hid (Bx.new u6 _ _), Lib.hid (HG.out.alloc _), P6.size⟩
      · exact ⟨w2.heap.size + 1, A6, c6, rfl, below_set5' P6 (Nat.le_succ _) _ _ _ _ _, Lib.hid (Bx.set5 M1 _ _ _ _ _), Lib.hid (own_set5 HG.out M1 (by decide) _ _ _ _ _), Nat.le_succ _⟩
      · exact ⟨w2.heap.size, A6, c6, rfl, below_set5' P6 (Nat.le_refl _) _ _ _ _ _, Lib.hid (Bx.set5 M1 _ _ _ _ _), Lib.hid (own_set5 HG.out M1 (by decide) _ _ _ _ _), Nat.le_refl _⟩
    case rest =>
      clear d0
      obtain ⟨B, A', c', rfl, hst, HX, HO, hB⟩ := hcut
      obtain ⟨w3, hw3⟩ : ∃ w3, wc = w3 := ⟨_, rfl⟩
      rw [hw3] at hst HX HO
      rw [hw3]
      clear hw3
      have b3 : Below w.heap.size w w3 := bst b2 hst
      have X3 := HX.out
      have Z2 := Y2.step hst
      obtain ⟨g, rfl, hg, hBf, hcc, hcm⟩ := own_block HO.out (by omega)
      have hgB : g ≠ B := own_ne HO.out X3 (by decide) rfl
      have hw2 := b2.size
      have c3 : ∀ i, w3.cell? ⟨B, i, none⟩ = _ := Bx.cell X3
      have c2 : ∀ i, w3.cell? ⟨w.heap.size + 1 + 1, i, none⟩ = _ := Bx.cell Z2
      have f2 : ∀ i, w3.frozen? ⟨w.heap.size + 1 + 1, i, none⟩ = false := Bx.frozen Z2
      have cg : w3.cell? ⟨g, pn, none⟩ = _ := hBf.cell hpn
      have fg : ∀ i, w3.frozen? ⟨g, i, none⟩ = false := hBf.frozen
      have n2 : g ≠ w.heap.size + 1 + 1 := by omega
      have n3 : B ≠ w.heap.size + 1 + 1 := by omega
      have u2 := Z2.lt
      clear HX
      go_wp2
      refine retAE (B := w.heap.size + 1 + 1) rfl rfl rfl rfl (Bx.set5 (Z2.far (p := ⟨g, pn, none⟩) n2.symm _) _ _ _ _ _) ?_
      refine RetA.mk rfl ((hBf.put HL.out hcc hcm pn v).past5 _ _ _ _ _ fun b o e => by cases e; exact n2) (fun b o s e => by cases e; omega) ?_
      exact below_set5 (bsc b3 (by simp; omega) _) (by omega) _ _ _ _ _
  · have HT := Lib.hid ht
    clear ht
    go_enter Tryd.func29, Tryd.ntmps29
    go_wp2_with fail
    refine (rAt_any 2 r l0 l1 _ n c xs x0 x1 y 0 _ (HS.out.step (below3 _ _ _ _)) HAT.out).mono ?_
    rintro e w1 ⟨rfl, hb1⟩
    obtain ⟨X0, X1, X2, b1⟩ := after3 hb1
    clear hb1
    have c0 : ∀ i, w1.cell? ⟨w.heap.size, i, none⟩ = _ := Bx.cell X0
    have c1 : ∀ i, w1.cell? ⟨w.heap.size + 1, i, none⟩ = _ := Bx.cell X1
    have c2 : ∀ i, w1.cell? ⟨w.heap.size + 1 + 1, i, none⟩ = _ := Bx.cell X2
    have f2 : ∀ i, w1.frozen? ⟨w.heap.size + 1 + 1, i, none⟩ = false := Bx.frozen X2
    have q2 := Bx.lt X2
    go_wp2_with fail
    refine (rune64_any v _).mono ?_
    rintro e u2 ⟨rfl, hb2⟩
    rw [HT.out]
    have b1 := bst b1 hb2
    have X0 := Bx.step X0 hb2
    have X1 := Bx.step X1 hb2
    have X2 := Bx.step X2 hb2
    clear c0 c1 c2 f2 q2
    have c0 : ∀ i, u2.cell? ⟨w.heap.size, i, none⟩ = _ := Bx.cell X0
    have c1 : ∀ i, u2.cell? ⟨w.heap.size + 1, i, none⟩ = _ := Bx.cell X1
    go_wp2_with fail
    refine (rplace_any r l0 l1 x0 x1 pn 0 _ HPL.out).mono ?_
    rintro e w2 ⟨rfl, hb2⟩
    have b2 := bst b1 hb2
    have Y0 := Bx.step X0 hb2
    have Y2 := Bx.step X2 hb2
    have HS2 := Lib.hid (HS.out.step b2)
    clear c0 c1
    have d0 : ∀ i, w2.cell? ⟨w.heap.size, i, none⟩ = _ := Bx.cell Y0
    have p0 := Y0.lt
    have p2 := Y2.lt
    go_wp2_with fail
    go_cut [12] from 44 to 54 (fun p wx => ∃ (B : Nat) (A' : Option Addr) (c' : Nat), p = .pointer (some ⟨B, 0, none⟩) ∧ Below w2.heap.size w2 wx ∧ Hid (Bx wx B #[.int .i64 2, .int .i64 r, .int .i64 l0, .int .i64 l1, .slice A' n c'] 25) ∧ Hid (wx.ownsRow w2.heap.size 2 1 (.slice A' n c') n (xs.map (Value.int .i64))) ∧ w2.heap.size ≤ B)
    case first =>
      clear d0
      have hS : ∀ u, Below w2.heap.size w2 u → ∀ i, u.cell? ⟨w.heap.size, i, none⟩ = #[.int .i64 2, .int .i64 r, .int .i64 l0, .int .i64 l1, .slice A n c][i]? := fun u h => Bx.cell (Bx.step Y0 h)
      have P0 : Below w2.heap.size w2 w2.drew := bdr (Below.refl _ _)
      have P1 : Below w2.heap.size w2 (w2.alloc (.cells #[.int .i64 0, .int .i64 0, .int .i64 0, .int .i64 0, .slice none 0 0] 25)).drew := bdr (bal (Below.refl _ _) _)
      have P2 : Below w2.heap.size w2 (w2.alloc (.cells #[] 2)).drew := bdr (bal (Below.refl _ _) _)
      have P3 : Below w2.heap.size w2 ((w2.alloc (.cells #[] 2)).alloc (.cells #[.int .i64 0, .int .i64 0, .int .i64 0, .int .i64 0, .slice none 0 0] 25)).drew := bdr (bal (bal (Below.refl _ _) _) _)
      have P4 : Below w2.heap.size w2 ((w2.alloc (.cells #[.int .i64 0, .int .i64 0, .int .i64 0, .int .i64 0, .slice none 0 0] 25)).alloc (.cells #[] 2)).drew := bdr (bal (bal (Below.refl _ _) _) _)
      have e1 : (w2.alloc (.cells #[.int .i64 0, .int .i64 0, .int .i64 0, .int .i64 0, .slice none 0 0] 25)).heap.size = w2.heap.size + 1 := by simp
      have e2 : (w2.alloc (.cells #[] 2)).heap.size = w2.heap.size + 1 := by simp
      have N3 : Bx ((w2.alloc (.cells #[] 2)).alloc (.cells #[.int .i64 0, .int .i64 0, .int .i64 0, .int .i64 0, .slice none 0 0] 25)).drew (w2.heap.size + 1) #[.int .i64 0, .int .i64 0, .int .i64 0, .int .i64 0, .slice none 0 0] 25 := by
        rw [← e2]
        exact Bx.new (w2.alloc (.cells #[] 2)) _ _
      have N4 : Bx ((w2.alloc (.cells #[.int .i64 0, .int .i64 0, .int .i64 0, .int .i64 0, .slice none 0 0] 25)).alloc (.cells #[] 2)).drew w2.heap.size #[.int .i64 0, .int .i64 0, .int .i64 0, .int .i64 0, .slice none 0 0] 25 := (Bx.new w2 _ _).alloc _
      have O2 := Lib.hid (show (w2.alloc (.cells #[] 2)).drew.ownsRow w2.heap.size 2 1 (.slice (some ⟨w2.heap.size, 0, none⟩) 0 0) 0 (([] : List Int).map (Value.int .i64)) from (ownEmpty w2 w2.heap.size w2.heap.size rfl (Nat.le_refl _)).drew)
      have O3 := Lib.hid (show ((w2.alloc (.cells #[] 2)).alloc (.cells #[.int .i64 0, .int .i64 0, .int .i64 0, .int .i64 0, .slice none 0 0] 25)).drew.ownsRow w2.heap.size 2 1 (.slice (some ⟨w2.heap.size, 0, none⟩) 0 0) 0 (([] : List Int).map (Value.int .i64)) from ((ownEmpty w2 w2.heap.size w2.heap.size rfl (Nat.le_refl _)).alloc _).drew)
      have O4 := Lib.hid (show ((w2.alloc (.cells #[.int .i64 0, .int .i64 0, .int .i64 0, .int .i64 0, .slice none 0 0] 25)).alloc (.cells #[] 2)).drew.ownsRow w2.heap.size 2 1 (.slice (some ⟨w2.heap.size + 1, 0, none⟩) 0 0) 0 (([] : List Int).map (Value.int .i64)) from (ownEmpty (w2.alloc (.cells #[.int .i64 0, .int .i64 0, .int .i64 0, .int .i64 0, .slice none 0 0] 25)) w2.heap.size (w2.heap.size + 1) e1 (by rw [e1]; omega)).drew)
      have S2 := Lib.hid (HS2.out.step P2)
      have S3 := Lib.hid (HS2.out.step P3)
      have S4 := Lib.hid (HS2.out.step P4)
      have z2 := P2.size
      have z3 := P3.size
      have z4 := P4.size
      clear e1 e2
      go_region_held3 (fun w' => ∀ i, w'.cell? ⟨w.heap.size, i, none⟩ = #[.int .i64 2, .int .i64 r, .int .i64 l0, .int .i64 l1, .slice A n c][i]?)
        (with_reducible first | exact hS _ P0 | exact hS _ P1 | exact hS _ P2 | exact hS _ P3 | exact hS _ P4 | exact hS _ P6 | exact hS _ (bal P6 _) | exact hS _ (below_set5' P6 (Nat.le_refl _) _ _ _ _ _) | exact hS _ (below_set5' P6 (Nat.le_succ _) _ _ _ _ _))
        (first
          | (refine step_append_sl rfl _ _ rfl rfl w2.heap.size (.slice (some ⟨w2.heap.size, 0, none⟩) 0 0) 0 [] rfl O2.out A n c xs rfl S2.out (by omega) z2 ?_; intro A6 c6 u6 hG; have P6 : Below w2.heap.size w2 u6 := hG.below P2 (fun k hk => (O2.out.lt k hk).1); have zz6 := P6.size; have HG := Lib.hid (show u6.ownsRow w2.heap.size 2 1 (.slice A6 n c6) n (xs.map (Value.int .i64)) by simpa using hG.1); clear hG)
          | (refine step_append_sl rfl _ _ rfl rfl w2.heap.size (.slice (some ⟨w2.heap.size, 0, none⟩) 0 0) 0 [] rfl O3.out A n c xs rfl S3.out (by omega) z3 ?_; intro A6 c6 u6 hG; have P6 : Below w2.heap.size w2 u6 := hG.below P3 (fun k hk => (O3.out.lt k hk).1); have zz6 := P6.size; have M1 : Bx u6 (w2.heap.size + 1) #[.int .i64 0, .int .i64 0, .int .i64 0, .int .i64 0, .slice none 0 0] 25 := N3.grown' hG.2.2 (by simp [Value.ownBlock]); have gB : ∀ i, u6.cell? ⟨w2.heap.size + 1, i, none⟩ = _ := Bx.cell M1; have kB : ∀ i, u6.frozen? ⟨w2.heap.size + 1, i, none⟩ = false := Bx.frozen M1; have HG := Lib.hid (show u6.ownsRow w2.heap.size 2 1 (.slice A6 n c6) n (xs.map (Value.int .i64)) by simpa using hG.1); clear hG)
          | (refine step_append_sl rfl _ _ rfl rfl w2.heap.size (.slice (some ⟨w2.heap.size + 1, 0, none⟩) 0 0) 0 [] rfl O4.out A n c xs rfl S4.out (by omega) z4 ?_; intro A6 c6 u6 hG; have P6 : Below w2.heap.size w2 u6 := hG.below P4 (fun k hk => (O4.out.lt k hk).1); have zz6 := P6.size; have M1 : Bx u6 w2.heap.size #[.int .i64 0, .int .i64 0, .int .i64 0, .int .i64 0, .slice none 0 0] 25 := N4.grown' hG.2.2 (by simp [Value.ownBlock]); have gB : ∀ i, u6.cell? ⟨w2.heap.size, i, none⟩ = _ := Bx.cell M1; have kB : ∀ i, u6.frozen? ⟨w2.heap.size, i, none⟩ = false := Bx.frozen M1; have HG := Lib.hid (show u6.ownsRow w2.heap.size 2 1 (.slice A6 n c6) n (xs.map (Value.int .i64)) by simpa using hG.1); clear hG))
      all_goals go_wp2_with fail
      all_goals go_meet
      · exact ⟨u6.heap.size, A6, c6, rfl, bal P6 _, Lib.hid (Bx.new u6 _ _), Lib.hid (HG.out.alloc _), P6.size⟩
      · exact ⟨w2.heap.size + 1, A6, c6, rfl, below_set5' P6 (Nat.le_succ _) _ _ _ _ _, Lib.hid (Bx.set5 M1 _ _ _ _ _), Lib.hid (own_set5 HG.out M1 (by decide) _ _ _ _ _), Nat.le_succ _⟩
      · exact ⟨w2.heap.size, A6, c6, rfl, below_set5' P6 (Nat.le_refl _) _ _ _ _ _, Lib.hid (Bx.set5 M1 _ _ _ _ _), Lib.hid (own_set5 HG.out M1 (by decide) _ _ _ _ _), Nat.le_refl _⟩
    case rest =>
      clear d0
      obtain ⟨B, A', c', rfl, hst, HX, HO, hB⟩ := hcut
      obtain ⟨w3, hw3⟩ : ∃ w3, wc = w3 := ⟨_, rfl⟩
      rw [hw3] at hst HX HO
      rw [hw3]
      clear hw3
      have b3 : Below w.heap.size w w3 := bst b2 hst
      have X3 := HX.out
      have Z2 := Y2.step hst
      obtain ⟨g, rfl, hg, hBf, hcc, hcm⟩ := own_block HO.out (by omega)
      have hgB : g ≠ B := own_ne HO.out X3 (by decide) rfl
      have hw2 := b2.size
      have c3 : ∀ i, w3.cell? ⟨B, i, none⟩ = _ := Bx.cell X3
      have c2 : ∀ i, w3.cell? ⟨w.heap.size + 1 + 1, i, none⟩ = _ := Bx.cell Z2
      have f2 : ∀ i, w3.frozen? ⟨w.heap.size + 1 + 1, i, none⟩ = false := Bx.frozen Z2
      have cg : w3.cell? ⟨g, pn, none⟩ = _ := hBf.cell hpn
      have fg : ∀ i, w3.frozen? ⟨g, i, none⟩ = false := hBf.frozen
      have n2 : g ≠ w.heap.size + 1 + 1 := by omega
      have n3 : B ≠ w.heap.size + 1 + 1 := by omega
      have u2 := Z2.lt
      clear HX
      go_wp2
      refine retAE (B := w.heap.size + 1 + 1) rfl rfl rfl rfl (Bx.set5 (Z2.far (p := ⟨g, pn, none⟩) n2.symm _) _ _ _ _ _) ?_
      refine RetA.mk rfl ((hBf.put HL.out hcc hcm pn v).past5 _ _ _ _ _ fun b o e => by cases e; exact n2) (fun b o s e => by cases e; omega) ?_
      exact below_set5 (bsc b3 (by simp; omega) _) (by omega) _ _ _ _ _
theorem rWith_any (k r l0 l1 : Int) (A : Option Addr) (n c : Nat) (xs : List Int) (x0 x1 v : Int) (R : Arr × Int) (w : World) (hs : Sl w A n c xs) (h : sWith ⟨k, r, l0, l1, xs⟩ x0 x1 v = R) :
    Calls Tryd.prog 29 #[.agg #[.int .i64 k, .int .i64 r, .int .i64 l0, .int .i64 l1, .slice A n c], .agg #[.int .i64 x0, .int .i64 x1], .int .i64 v] w (RetA w R) := by
  by_cases h0 : R.2 = 0
  · obtain ⟨⟨p, e0⟩, hpe⟩ : ∃ R, sAtP ⟨k, r, l0, l1, xs⟩ x0 x1 = R := ⟨_, rfl⟩
    rcases with_spec hpe h with ⟨he, hR⟩ | ⟨rfl, hr, hR⟩ | ⟨rfl, hr, hR⟩
    · rw [hR] at h0; exact absurd h0 he
    · rw [hR] at h0; cases h0
    · obtain ⟨hp0, hp1, hp2⟩ := atP_bounds hpe
      obtain ⟨pn, rfl⟩ : ∃ pn : Nat, p = pn := ⟨p.toNat, by omega⟩
      rw [Int.toNat_natCast] at hR
      rw [hR]
      exact rWith_ok k r l0 l1 A n c xs x0 x1 v pn w hs hpe hr
  · exact rWith_err k r l0 l1 A n c xs x0 x1 v R w hs h h0
end Go.Proofs.YtimpdfafodaadaaDoor

/-
  moves.Cat, where it fails.
-/
import Derived.Test.YtoapgknkenlcgaaMrev
import Derived.Test.YtoapgknkenlcgaaMfil
namespace Go.Proofs.Ytoapgknkenlcgaa
open Go.RowKit

theorem bx4 (w : World) (o0 o1 o2 : Obj) (cs : Array Value) (T : TypeId) : Bx ((((w.alloc o0).alloc o1).alloc o2).alloc (.cells cs T)) (w.heap.size + 1 + 1 + 1) cs T := by
  have := Bx.new (((w.alloc o0).alloc o1).alloc o2) cs T
  rwa [show (((w.alloc o0).alloc o1).alloc o2).heap.size = w.heap.size + 1 + 1 + 1 by simp] at this

/-- What the first arrays of Cat are asked, one after the other. -/
def catE (a b : Arr) : Int :=
  if orE (chkA a) (chkA b) ≠ 0 then orE (chkA a) (chkA b)
  else if a.k ≠ b.k then 21
  else if a.r ≠ b.r ∨ a.r = 0 then 22
  else if a.r = 2 ∧ a.l0 ≠ b.l0 then 11
  else if 400 < a.c.length + b.c.length ∨ 400 < colsN a + colsN b then 15
  else 0
theorem sCat_err {a b : Arr} (h : catE a b ≠ 0) : sCat a b = (zA, catE a b) := by
  unfold catE at h ⊢
  unfold sCat
  split
  · rfl
  split
  · rfl
  split
  · rfl
  split
  · rfl
  split
  · rfl
  rename_i h1 h2 h3 h4 h5
  exfalso
  rw [if_neg h1, if_neg h2, if_neg h3, if_neg h4, if_neg h5] at h
  exact h rfl

set_option maxHeartbeats 4000000 in
theorem mCat_early (k r l0 l1 : Int) (A : Option Addr) (n c : Nat) (xs : List Int) (k' r' l0' l1' : Int) (A' : Option Addr) (n' c' : Nat) (ys : List Int) (e1 e2 ec : Int) (R : Arr × Int) (w : World)
    (hs : Sl w A n c xs) (hs' : Sl w A' n' c' ys) (h1 : achk k r l0 l1 xs = e1) (h2 : achk k' r' l0' l1' ys = e2) (hor : orE e1 e2 = ec)
    (h : (ec ≠ 0 ∧ R = (zA, ec)) ∨ (ec = 0 ∧ k ≠ k' ∧ R = (zA, 21)) ∨ (ec = 0 ∧ k = k' ∧ (r ≠ r' ∨ r = 0) ∧ R = (zA, 22))) :
    Calls Try.prog 22 #[.agg #[.int .i64 k, .int .i64 r, .int .i64 l0, .int .i64 l1, .slice A n c], .agg #[.int .i64 k', .int .i64 r', .int .i64 l0', .int .i64 l1', .slice A' n' c']] w (RetA w R) := by
  have HS := Lib.hid hs
  have HS' := Lib.hid hs'
  have H1 := Lib.hid h1
  have H2 := Lib.hid h2
  have HOR := Lib.hid hor
  clear hs hs' h1 h2 hor
  rcases h with ⟨he, hR⟩ | ⟨rfl, hk, hR⟩ | ⟨rfl, rfl, hr, hR⟩
  · have hne : (ec != 0) = true := by simpa using he
    have HR := Lib.hid hR.symm
    clear he hR
    go_enter Try.func22, Try.ntmps22
    go_wp2_with fail
    refine (mcheck2 _ _ _ _ _ _ _ xs _ _ _ _ _ _ _ ys _ _ (w.heap.size + 1 + 1 + 1) _ (HS.out.step (below4 _ _ _ _ _)) (HS'.out.step (below4 _ _ _ _ _)) H1.out H2.out (bx4 _ _ _ _ _ _)).mono ?_
    rintro e w1 ⟨rfl, hb1⟩
    rw [HOR.out]
    obtain ⟨X0, X1, X2, X3, b1⟩ := after4 hb1
    clear hb1 X3
    have q2 := Bx.lt X2
    have c0 : ∀ i, w1.cell? ⟨w.heap.size, i, none⟩ = _ := Bx.cell X0
    have c1 : ∀ i, w1.cell? ⟨w.heap.size + 1, i, none⟩ = _ := Bx.cell X1
    have c2 : ∀ i, w1.cell? ⟨w.heap.size + 1 + 1, i, none⟩ = _ := Bx.cell X2
    have f2 : ∀ i, w1.frozen? ⟨w.heap.size + 1 + 1, i, none⟩ = false := Bx.frozen X2
    go_wp2
    refine retAE (B := w.heap.size + 1 + 1) rfl rfl rfl rfl (Bx.set5 X2 _ _ _ _ _) ?_
    exact RetA.mk HR.out.symm (Sl.nil _) (fun _ _ _ h => by cases h) (below_set5 b1 (by omega) _ _ _ _ _)
  · have hne : (k != k') = true := by simpa using hk
    have HR := Lib.hid hR.symm
    clear hk hR
    go_enter Try.func22, Try.ntmps22
    go_wp2_with fail
    refine (mcheck2 _ _ _ _ _ _ _ xs _ _ _ _ _ _ _ ys _ _ (w.heap.size + 1 + 1 + 1) _ (HS.out.step (below4 _ _ _ _ _)) (HS'.out.step (below4 _ _ _ _ _)) H1.out H2.out (bx4 _ _ _ _ _ _)).mono ?_
    rintro e w1 ⟨rfl, hb1⟩
    rw [HOR.out]
    obtain ⟨X0, X1, X2, X3, b1⟩ := after4 hb1
    clear hb1 X3
    have q2 := Bx.lt X2
    have c0 : ∀ i, w1.cell? ⟨w.heap.size, i, none⟩ = _ := Bx.cell X0
    have c1 : ∀ i, w1.cell? ⟨w.heap.size + 1, i, none⟩ = _ := Bx.cell X1
    have c2 : ∀ i, w1.cell? ⟨w.heap.size + 1 + 1, i, none⟩ = _ := Bx.cell X2
    have f2 : ∀ i, w1.frozen? ⟨w.heap.size + 1 + 1, i, none⟩ = false := Bx.frozen X2
    go_wp2
    refine retAE (B := w.heap.size + 1 + 1) rfl rfl rfl rfl (Bx.set5 X2 _ _ _ _ _) ?_
    exact RetA.mk HR.out.symm (Sl.nil _) (fun _ _ _ h => by cases h) (below_set5 b1 (by omega) _ _ _ _ _)
  · have HR := Lib.hid hR.symm
    clear hR
    by_cases hr1 : r = r'
    · subst hr1
      obtain rfl : r = 0 := hr.resolve_left (fun h => h rfl)
      clear hr
      go_enter Try.func22, Try.ntmps22
      go_wp2_with fail
      refine (mcheck2 _ _ _ _ _ _ _ xs _ _ _ _ _ _ _ ys _ _ (w.heap.size + 1 + 1 + 1) _ (HS.out.step (below4 _ _ _ _ _)) (HS'.out.step (below4 _ _ _ _ _)) H1.out H2.out (bx4 _ _ _ _ _ _)).mono ?_
      rintro e w1 ⟨rfl, hb1⟩
      rw [HOR.out]
      obtain ⟨X0, X1, X2, X3, b1⟩ := after4 hb1
      clear hb1 X3
      have q2 := Bx.lt X2
      have c0 : ∀ i, w1.cell? ⟨w.heap.size, i, none⟩ = _ := Bx.cell X0
      have c1 : ∀ i, w1.cell? ⟨w.heap.size + 1, i, none⟩ = _ := Bx.cell X1
      have c2 : ∀ i, w1.cell? ⟨w.heap.size + 1 + 1, i, none⟩ = _ := Bx.cell X2
      have f2 : ∀ i, w1.frozen? ⟨w.heap.size + 1 + 1, i, none⟩ = false := Bx.frozen X2
      go_wp2
      refine retAE (B := w.heap.size + 1 + 1) rfl rfl rfl rfl (Bx.set5 X2 _ _ _ _ _) ?_
      exact RetA.mk HR.out.symm (Sl.nil _) (fun _ _ _ h => by cases h) (below_set5 b1 (by omega) _ _ _ _ _)
    · have hne : (r != r') = true := by simpa using hr1
      clear hr hr1
      go_enter Try.func22, Try.ntmps22
      go_wp2_with fail
      refine (mcheck2 _ _ _ _ _ _ _ xs _ _ _ _ _ _ _ ys _ _ (w.heap.size + 1 + 1 + 1) _ (HS.out.step (below4 _ _ _ _ _)) (HS'.out.step (below4 _ _ _ _ _)) H1.out H2.out (bx4 _ _ _ _ _ _)).mono ?_
      rintro e w1 ⟨rfl, hb1⟩
      rw [HOR.out]
      obtain ⟨X0, X1, X2, X3, b1⟩ := after4 hb1
      clear hb1 X3
      have q2 := Bx.lt X2
      have c0 : ∀ i, w1.cell? ⟨w.heap.size, i, none⟩ = _ := Bx.cell X0
      have c1 : ∀ i, w1.cell? ⟨w.heap.size + 1, i, none⟩ = _ := Bx.cell X1
      have c2 : ∀ i, w1.cell? ⟨w.heap.size + 1 + 1, i, none⟩ = _ := Bx.cell X2
      have f2 : ∀ i, w1.frozen? ⟨w.heap.size + 1 + 1, i, none⟩ = false := Bx.frozen X2
      go_wp2
      refine retAE (B := w.heap.size + 1 + 1) rfl rfl rfl rfl (Bx.set5 X2 _ _ _ _ _) ?_
      exact RetA.mk HR.out.symm (Sl.nil _) (fun _ _ _ h => by cases h) (below_set5 b1 (by omega) _ _ _ _ _)
set_option maxHeartbeats 4000000 in
theorem mCat_high (k r l0 l1 : Int) (A : Option Addr) (n c : Nat) (xs : List Int) (l0' l1' : Int) (A' : Option Addr) (n' c' : Nat) (ys : List Int) (m m' : Int) (R : Arr × Int) (w : World)
    (hs : Sl w A n c xs) (hs' : Sl w A' n' c' ys) (h1 : achk k r l0 l1 xs = 0) (h2 : achk k r l0' l1' ys = 0)
    (ha : ∀ W, Calls Try.prog 48 #[.agg #[.int .i64 k, .int .i64 r, .int .i64 l0, .int .i64 l1, .slice A n c]] W fun e w' => e = .returned (.int .i64 m) ∧ Below W.heap.size W w')
    (hb : ∀ W, Calls Try.prog 48 #[.agg #[.int .i64 k, .int .i64 r, .int .i64 l0', .int .i64 l1', .slice A' n' c']] W fun e w' => e = .returned (.int .i64 m') ∧ Below W.heap.size W w')
    (hr : (r == 0) = false) (hm : (m != m') = true) (h : R = (zA, 11)) :
    Calls Try.prog 22 #[.agg #[.int .i64 k, .int .i64 r, .int .i64 l0, .int .i64 l1, .slice A n c], .agg #[.int .i64 k, .int .i64 r, .int .i64 l0', .int .i64 l1', .slice A' n' c']] w (RetA w R) := by
  have HS := Lib.hid hs
  have HS' := Lib.hid hs'
  have H1 := Lib.hid h1
  have H2 := Lib.hid h2
  have HOR := Lib.hid (show orE 0 0 = 0 from rfl)
  have HR := Lib.hid h.symm
  clear hs hs' h1 h2 h
  go_enter Try.func22, Try.ntmps22
  go_wp2_with fail
  refine (mcheck2 _ _ _ _ _ _ _ xs _ _ _ _ _ _ _ ys _ _ (w.heap.size + 1 + 1 + 1) _ (HS.out.step (below4 _ _ _ _ _)) (HS'.out.step (below4 _ _ _ _ _)) H1.out H2.out (bx4 _ _ _ _ _ _)).mono ?_
  rintro e w1 ⟨rfl, hb1⟩
  rw [HOR.out]
  obtain ⟨X0, X1, X2, X3, b1⟩ := after4 hb1
  clear hb1 X3
  have q2 := Bx.lt X2
  have c0 : ∀ i, w1.cell? ⟨w.heap.size, i, none⟩ = _ := Bx.cell X0
  have c1 : ∀ i, w1.cell? ⟨w.heap.size + 1, i, none⟩ = _ := Bx.cell X1
  have c2 : ∀ i, w1.cell? ⟨w.heap.size + 1 + 1, i, none⟩ = _ := Bx.cell X2
  have f2 : ∀ i, w1.frozen? ⟨w.heap.size + 1 + 1, i, none⟩ = false := Bx.frozen X2
  go_wp2_with fail
  clear c0 c1 c2 f2
  have c0 : ∀ i, w1.drew.cell? ⟨w.heap.size, i, none⟩ = _ := Bx.cell X0
  have c1 : ∀ i, w1.drew.cell? ⟨w.heap.size + 1, i, none⟩ = _ := Bx.cell X1
  have b5 : Below w1.heap.size w1 w1.drew := bdr (Below.refl _ _)
  go_region_held3 (fun w' => (∀ i, w'.cell? ⟨w.heap.size, i, none⟩ = #[.int .i64 k, .int .i64 r, .int .i64 l0, .int .i64 l1, .slice A n c][i]?) ∧ (∀ i, w'.cell? ⟨w.heap.size + 1, i, none⟩ = #[.int .i64 k, .int .i64 r, .int .i64 l0', .int .i64 l1', .slice A' n' c'][i]?))
    (with_reducible exact ⟨c0, c1⟩)
    (first
      | (go_at_call 48; (with_reducible refine (ha _).mono ?_); rintro e w5 ⟨rfl, hb5⟩; have b5 := bst b5 hb5; have c0 : ∀ i, w5.cell? ⟨w.heap.size, i, none⟩ = _ := (Bx.step X0 b5).cell; have c1 : ∀ i, w5.cell? ⟨w.heap.size + 1, i, none⟩ = _ := (Bx.step X1 b5).cell)
      | (go_at_call 48; (with_reducible refine (hb _).mono ?_); rintro e w5 ⟨rfl, hb5⟩; have b5 := bst b5 hb5; have c0 : ∀ i, w5.cell? ⟨w.heap.size, i, none⟩ = _ := (Bx.step X0 b5).cell; have c1 : ∀ i, w5.cell? ⟨w.heap.size + 1, i, none⟩ = _ := (Bx.step X1 b5).cell))
  all_goals
    have c2 : ∀ i, w5.cell? ⟨w.heap.size + 1 + 1, i, none⟩ = _ := (Bx.step X2 b5).cell
    have f2 : ∀ i, w5.frozen? ⟨w.heap.size + 1 + 1, i, none⟩ = false := (Bx.step X2 b5).frozen
    go_wp2
    refine retAE (B := w.heap.size + 1 + 1) rfl rfl rfl rfl ((Bx.step X2 b5).set5 _ _ _ _ _) ?_
    exact RetA.mk HR.out.symm (Sl.nil _) (fun _ _ _ h => by cases h) (below_set5 (bst b1 b5) (by omega) _ _ _ _ _)

set_option maxHeartbeats 8000000 in
theorem mCat_big (k r l0 l1 : Int) (A : Option Addr) (n c : Nat) (xs : List Int) (l0' l1' : Int) (A' : Option Addr) (n' c' : Nat) (ys : List Int) (m : Int) (q q' : Nat) (R : Arr × Int) (w : World)
    (hs : Sl w A n c xs) (hs' : Sl w A' n' c' ys) (h1 : achk k r l0 l1 xs = 0) (h2 : achk k r l0' l1' ys = 0)
    (ha : ∀ W, Calls Try.prog 48 #[.agg #[.int .i64 k, .int .i64 r, .int .i64 l0, .int .i64 l1, .slice A n c]] W fun e w' => e = .returned (.int .i64 m) ∧ Below W.heap.size W w')
    (hb : ∀ W, Calls Try.prog 48 #[.agg #[.int .i64 k, .int .i64 r, .int .i64 l0', .int .i64 l1', .slice A' n' c']] W fun e w' => e = .returned (.int .i64 m) ∧ Below W.heap.size W w')
    (hca : ∀ W, Calls Try.prog 49 #[.agg #[.int .i64 k, .int .i64 r, .int .i64 l0, .int .i64 l1, .slice A n c]] W fun e w' => e = .returned (.int .i64 q) ∧ Below W.heap.size W w')
    (hcb : ∀ W, Calls Try.prog 49 #[.agg #[.int .i64 k, .int .i64 r, .int .i64 l0', .int .i64 l1', .slice A' n' c']] W fun e w' => e = .returned (.int .i64 q') ∧ Below W.heap.size W w')
    (hn : n ≤ 1000) (hn' : n' ≤ 1000) (hq : q ≤ 1000) (hq' : q' ≤ 1000)
    (hr : (r == 0) = false) (hbig : 400 < n + n' ∨ (n + n' ≤ 400 ∧ 400 < q + q')) (h : R = (zA, 15)) :
    Calls Try.prog 22 #[.agg #[.int .i64 k, .int .i64 r, .int .i64 l0, .int .i64 l1, .slice A n c], .agg #[.int .i64 k, .int .i64 r, .int .i64 l0', .int .i64 l1', .slice A' n' c']] w (RetA w R) := by
  have HS := Lib.hid hs
  have HS' := Lib.hid hs'
  have H1 := Lib.hid h1
  have H2 := Lib.hid h2
  have HOR := Lib.hid (show orE 0 0 = 0 from rfl)
  have HR := Lib.hid h.symm
  have e1 : IntKind.i64.wrap ((n : Int) + (n' : Int)) = (n : Int) + (n' : Int) := IntWalk.i64_in _ (by omega)
  have e2 : IntKind.i64.wrap ((q : Int) + (q' : Int)) = (q : Int) + (q' : Int) := IntWalk.i64_in _ (by omega)
  clear hs hs' h1 h2 h
  rcases hbig with hbig | ⟨hsm, hbig⟩
  · have hd : decide ((400 : Int) < (n : Int) + (n' : Int)) = true := decide_eq_true (by omega)
    go_enter Try.func22, Try.ntmps22
    go_wp2_with fail
    refine (mcheck2 _ _ _ _ _ _ _ xs _ _ _ _ _ _ _ ys _ _ (w.heap.size + 1 + 1 + 1) _ (HS.out.step (below4 _ _ _ _ _)) (HS'.out.step (below4 _ _ _ _ _)) H1.out H2.out (bx4 _ _ _ _ _ _)).mono ?_
    rintro e w1 ⟨rfl, hb1⟩
    rw [HOR.out]
    obtain ⟨X0, X1, X2, X3, b1⟩ := after4 hb1
    clear hb1 X3
    have q2 := Bx.lt X2
    have c0 : ∀ i, w1.cell? ⟨w.heap.size, i, none⟩ = _ := Bx.cell X0
    have c1 : ∀ i, w1.cell? ⟨w.heap.size + 1, i, none⟩ = _ := Bx.cell X1
    have c2 : ∀ i, w1.cell? ⟨w.heap.size + 1 + 1, i, none⟩ = _ := Bx.cell X2
    have f2 : ∀ i, w1.frozen? ⟨w.heap.size + 1 + 1, i, none⟩ = false := Bx.frozen X2
    go_wp2_with fail
    clear c0 c1 c2 f2
    have c0 : ∀ i, w1.drew.cell? ⟨w.heap.size, i, none⟩ = _ := Bx.cell X0
    have c1 : ∀ i, w1.drew.cell? ⟨w.heap.size + 1, i, none⟩ = _ := Bx.cell X1
    have b5 : Below w1.heap.size w1 w1.drew := bdr (Below.refl _ _)
    go_region_held3 (fun w' => (∀ i, w'.cell? ⟨w.heap.size, i, none⟩ = #[.int .i64 k, .int .i64 r, .int .i64 l0, .int .i64 l1, .slice A n c][i]?) ∧ (∀ i, w'.cell? ⟨w.heap.size + 1, i, none⟩ = #[.int .i64 k, .int .i64 r, .int .i64 l0', .int .i64 l1', .slice A' n' c'][i]?))
      (with_reducible exact ⟨c0, c1⟩)
      (first
        | (go_at_call 48; (with_reducible refine (ha _).mono ?_); rintro e w5 ⟨rfl, hb5⟩; have b5 := bst b5 hb5; have c0 : ∀ i, w5.cell? ⟨w.heap.size, i, none⟩ = _ := (Bx.step X0 b5).cell; have c1 : ∀ i, w5.cell? ⟨w.heap.size + 1, i, none⟩ = _ := (Bx.step X1 b5).cell)
        | (go_at_call 48; (with_reducible refine (hb _).mono ?_); rintro e w5 ⟨rfl, hb5⟩; have b5 := bst b5 hb5; have c0 : ∀ i, w5.cell? ⟨w.heap.size, i, none⟩ = _ := (Bx.step X0 b5).cell; have c1 : ∀ i, w5.cell? ⟨w.heap.size + 1, i, none⟩ = _ := (Bx.step X1 b5).cell))
    all_goals
      obtain ⟨w2, hw2⟩ : ∃ w2, w5 = w2 := ⟨_, rfl⟩
      rw [hw2]
      have Y0 : Bx w2 w.heap.size #[.int .i64 k, .int .i64 r, .int .i64 l0, .int .i64 l1, .slice A n c] 25 := hw2 ▸ Bx.step X0 b5
      have Y1 : Bx w2 (w.heap.size + 1) #[.int .i64 k, .int .i64 r, .int .i64 l0', .int .i64 l1', .slice A' n' c'] 25 := hw2 ▸ Bx.step X1 b5
      have Y2 : Bx w2 (w.heap.size + 1 + 1) #[.int .i64 0, .int .i64 0, .int .i64 0, .int .i64 0, .slice none 0 0] 25 := hw2 ▸ Bx.step X2 b5
      have b2 : Below w.heap.size w w2 := hw2 ▸ bst b1 b5
      have s2 : w1.heap.size ≤ w2.heap.size := hw2 ▸ b5.size
      clear hw2
      have c0 : ∀ i, w2.cell? ⟨w.heap.size, i, none⟩ = _ := Y0.cell
      have c1 : ∀ i, w2.cell? ⟨w.heap.size + 1, i, none⟩ = _ := Y1.cell
      have c2 : ∀ i, w2.cell? ⟨w.heap.size + 1 + 1, i, none⟩ = _ := Y2.cell
      have f2 : ∀ i, w2.frozen? ⟨w.heap.size + 1 + 1, i, none⟩ = false := Y2.frozen
      go_wp2
      go_quiet (fail)
      go_wp2
      refine retAE (B := w.heap.size + 1 + 1) rfl rfl rfl rfl (Bx.set5 (w := w2.drewN nq) Y2 _ _ _ _ _) ?_
      exact RetA.mk HR.out.symm (Sl.nil _) (fun _ _ _ h => by cases h) (below_set5 (bdn b2 _) (by omega) _ _ _ _ _)
  · have hd : decide ((400 : Int) < (n : Int) + (n' : Int)) = false := decide_eq_false (by omega)
    have hd2 : decide ((400 : Int) < (q : Int) + (q' : Int)) = true := decide_eq_true (by omega)
    go_enter Try.func22, Try.ntmps22
    go_wp2_with fail
    refine (mcheck2 _ _ _ _ _ _ _ xs _ _ _ _ _ _ _ ys _ _ (w.heap.size + 1 + 1 + 1) _ (HS.out.step (below4 _ _ _ _ _)) (HS'.out.step (below4 _ _ _ _ _)) H1.out H2.out (bx4 _ _ _ _ _ _)).mono ?_
    rintro e w1 ⟨rfl, hb1⟩
    rw [HOR.out]
    obtain ⟨X0, X1, X2, X3, b1⟩ := after4 hb1
    clear hb1 X3
    have q2 := Bx.lt X2
    have c0 : ∀ i, w1.cell? ⟨w.heap.size, i, none⟩ = _ := Bx.cell X0
    have c1 : ∀ i, w1.cell? ⟨w.heap.size + 1, i, none⟩ = _ := Bx.cell X1
    have c2 : ∀ i, w1.cell? ⟨w.heap.size + 1 + 1, i, none⟩ = _ := Bx.cell X2
    have f2 : ∀ i, w1.frozen? ⟨w.heap.size + 1 + 1, i, none⟩ = false := Bx.frozen X2
    go_wp2_with fail
    clear c0 c1 c2 f2
    have c0 : ∀ i, w1.drew.cell? ⟨w.heap.size, i, none⟩ = _ := Bx.cell X0
    have c1 : ∀ i, w1.drew.cell? ⟨w.heap.size + 1, i, none⟩ = _ := Bx.cell X1
    have b5 : Below w1.heap.size w1 w1.drew := bdr (Below.refl _ _)
    go_region_held3 (fun w' => (∀ i, w'.cell? ⟨w.heap.size, i, none⟩ = #[.int .i64 k, .int .i64 r, .int .i64 l0, .int .i64 l1, .slice A n c][i]?) ∧ (∀ i, w'.cell? ⟨w.heap.size + 1, i, none⟩ = #[.int .i64 k, .int .i64 r, .int .i64 l0', .int .i64 l1', .slice A' n' c'][i]?))
      (with_reducible exact ⟨c0, c1⟩)
      (first
        | (go_at_call 48; (with_reducible refine (ha _).mono ?_); rintro e w5 ⟨rfl, hb5⟩; have b5 := bst b5 hb5; have c0 : ∀ i, w5.cell? ⟨w.heap.size, i, none⟩ = _ := (Bx.step X0 b5).cell; have c1 : ∀ i, w5.cell? ⟨w.heap.size + 1, i, none⟩ = _ := (Bx.step X1 b5).cell)
        | (go_at_call 48; (with_reducible refine (hb _).mono ?_); rintro e w5 ⟨rfl, hb5⟩; have b5 := bst b5 hb5; have c0 : ∀ i, w5.cell? ⟨w.heap.size, i, none⟩ = _ := (Bx.step X0 b5).cell; have c1 : ∀ i, w5.cell? ⟨w.heap.size + 1, i, none⟩ = _ := (Bx.step X1 b5).cell))
    all_goals
      obtain ⟨w2, hw2⟩ : ∃ w2, w5 = w2 := ⟨_, rfl⟩
      rw [hw2]
      have Y0 : Bx w2 w.heap.size #[.int .i64 k, .int .i64 r, .int .i64 l0, .int .i64 l1, .slice A n c] 25 := hw2 ▸ Bx.step X0 b5
      have Y1 : Bx w2 (w.heap.size + 1) #[.int .i64 k, .int .i64 r, .int .i64 l0', .int .i64 l1', .slice A' n' c'] 25 := hw2 ▸ Bx.step X1 b5
      have Y2 : Bx w2 (w.heap.size + 1 + 1) #[.int .i64 0, .int .i64 0, .int .i64 0, .int .i64 0, .slice none 0 0] 25 := hw2 ▸ Bx.step X2 b5
      have b2 : Below w.heap.size w w2 := hw2 ▸ bst b1 b5
      have s2 : w1.heap.size ≤ w2.heap.size := hw2 ▸ b5.size
      clear hw2
      have c0 : ∀ i, w2.cell? ⟨w.heap.size, i, none⟩ = _ := Y0.cell
      have c1 : ∀ i, w2.cell? ⟨w.heap.size + 1, i, none⟩ = _ := Y1.cell
      go_wp2
      clear c0 c1
      have c0 : ∀ i, w2.drew.cell? ⟨w.heap.size, i, none⟩ = _ := Bx.cell Y0
      have c1 : ∀ i, w2.drew.cell? ⟨w.heap.size + 1, i, none⟩ = _ := Bx.cell Y1
      have b5 : Below w2.heap.size w2 w2.drew := bdr (Below.refl _ _)
      go_region_held3 (fun w' => (∀ i, w'.cell? ⟨w.heap.size, i, none⟩ = #[.int .i64 k, .int .i64 r, .int .i64 l0, .int .i64 l1, .slice A n c][i]?) ∧ (∀ i, w'.cell? ⟨w.heap.size + 1, i, none⟩ = #[.int .i64 k, .int .i64 r, .int .i64 l0', .int .i64 l1', .slice A' n' c'][i]?))
        (with_reducible exact ⟨c0, c1⟩)
        (first
          | (go_at_call 49; (with_reducible refine (hca _).mono ?_); rintro e w5 ⟨rfl, hb5⟩; have b5 := bst b5 hb5; have c0 : ∀ i, w5.cell? ⟨w.heap.size, i, none⟩ = _ := (Bx.step Y0 b5).cell; have c1 : ∀ i, w5.cell? ⟨w.heap.size + 1, i, none⟩ = _ := (Bx.step Y1 b5).cell)
          | (go_at_call 49; (with_reducible refine (hcb _).mono ?_); rintro e w5 ⟨rfl, hb5⟩; have b5 := bst b5 hb5; have c0 : ∀ i, w5.cell? ⟨w.heap.size, i, none⟩ = _ := (Bx.step Y0 b5).cell; have c1 : ∀ i, w5.cell? ⟨w.heap.size + 1, i, none⟩ = _ := (Bx.step Y1 b5).cell))
      have c2 : ∀ i, w5.cell? ⟨w.heap.size + 1 + 1, i, none⟩ = _ := (Bx.step Y2 b5).cell
      have f2 : ∀ i, w5.frozen? ⟨w.heap.size + 1 + 1, i, none⟩ = false := (Bx.step Y2 b5).frozen
      go_wp2
      refine retAE (B := w.heap.size + 1 + 1) rfl rfl rfl rfl ((Bx.step Y2 b5).set5 _ _ _ _ _) ?_
      exact RetA.mk HR.out.symm (Sl.nil _) (fun _ _ _ h => by cases h) (below_set5 (bst b2 b5) (by omega) _ _ _ _ _)

theorem mCat_err (k r l0 l1 : Int) (A : Option Addr) (n c : Nat) (xs : List Int) (k' r' l0' l1' : Int) (A' : Option Addr) (n' c' : Nat) (ys : List Int) (R : Arr × Int) (w : World)
    (hs : Sl w A n c xs) (hs' : Sl w A' n' c' ys) (h : sCat ⟨k, r, l0, l1, xs⟩ ⟨k', r', l0', l1', ys⟩ = R) (he : catE ⟨k, r, l0, l1, xs⟩ ⟨k', r', l0', l1', ys⟩ ≠ 0) :
    Calls Try.prog 22 #[.agg #[.int .i64 k, .int .i64 r, .int .i64 l0, .int .i64 l1, .slice A n c], .agg #[.int .i64 k', .int .i64 r', .int .i64 l0', .int .i64 l1', .slice A' n' c']] w (RetA w R) := by
  rw [sCat_err he] at h
  unfold catE at h he
  simp only [chkA] at h he
  obtain ⟨e1, h1⟩ : ∃ e1, achk k r l0 l1 xs = e1 := ⟨_, rfl⟩
  obtain ⟨e2, h2⟩ : ∃ e2, achk k' r' l0' l1' ys = e2 := ⟨_, rfl⟩
  obtain ⟨ec, hec⟩ : ∃ ec, orE e1 e2 = ec := ⟨_, rfl⟩
  rw [h1, h2, hec] at h he
  by_cases h0 : ec = 0
  · rw [if_neg (fun h' => h' h0)] at h he
    by_cases hk : k = k'
    · rw [if_neg (fun h' => h' hk)] at h he
      by_cases hr : r ≠ r' ∨ r = 0
      · rw [if_pos hr] at h
        exact mCat_early k r l0 l1 A n c xs k' r' l0' l1' A' n' c' ys e1 e2 ec R w hs hs' h1 h2 hec (.inr (.inr ⟨h0, hk, hr, h.symm⟩))
      · rw [if_neg hr] at h he
        obtain rfl := hk
        obtain rfl : r = r' := by
          by_cases e : r = r'
          · exact e
          · exact absurd (.inl e) hr
        have hr0 : r ≠ 0 := fun e => hr (.inr e)
        have hrb : (r == 0) = false := by simpa using hr0
        have z1 : e1 = 0 := by
          unfold orE at hec
          by_cases z : e1 = 0
          · exact z
          · rw [if_neg z] at hec; omega
        have z2 : e2 = 0 := by
          unfold orE at hec
          rw [if_pos z1] at hec; omega
        rw [z1] at h1
        rw [z2] at h2
        obtain ⟨m, q, hl, hm, hq, hc⟩ := rows_len h1 hr0
        obtain ⟨m', q', hl', hm', hq', hc'⟩ := rows_len h2 hr0
        have hn : n ≤ 1000 := by have := achk_len h1; have := hs.len; omega
        have hn' : n' ≤ 1000 := by have := achk_len h2; have := hs'.len; omega
        have hxl := hs.len
        have hyl := hs'.len
        rcases hc with ⟨rfl, rfl, rfl, rfl⟩ | ⟨rfl, rfl, rfl⟩
        · rcases hc' with ⟨_, rfl, rfl, rfl⟩ | ⟨h5, _⟩
          · rw [if_neg (by simp)] at h he
            by_cases hb : 400 < xs.length + ys.length ∨ 400 < colsN ⟨k, 1, q, 0, xs⟩ + colsN ⟨k, 1, q', 0, ys⟩
            · rw [if_pos hb] at h
              refine mCat_big k 1 q 0 A n c xs q' 0 A' n' c' ys 1 q q' R w hs hs' h1 h2 (fun W => height1 _ _ _ _ _ _ _) (fun W => height1 _ _ _ _ _ _ _) (fun W => columns1 _ _ _ _ _ _ _) (fun W => columns1 _ _ _ _ _ _ _) hn hn' (by omega) (by omega) hrb ?_ h.symm
              simp [colsN] at hb
              omega
            · rw [if_neg hb] at he
              exact absurd rfl he
          · cases h5
        · rcases hc' with ⟨h5, _⟩ | ⟨_, rfl, rfl⟩
          · cases h5
          · by_cases hmm : (m : Int) = (m' : Int)
            · rw [if_neg (fun h' => h'.2 hmm)] at h he
              obtain rfl : m = m' := by omega
              by_cases hb : 400 < xs.length + ys.length ∨ 400 < colsN ⟨k, 2, m, q, xs⟩ + colsN ⟨k, 2, m, q', ys⟩
              · rw [if_pos hb] at h
                refine mCat_big k 2 m q A n c xs m q' A' n' c' ys m q q' R w hs hs' h1 h2 (fun W => height2 _ _ _ _ _ _ _) (fun W => height2 _ _ _ _ _ _ _) (fun W => columns2 _ _ _ _ _ _ _) (fun W => columns2 _ _ _ _ _ _ _) hn hn' (by omega) (by omega) hrb ?_ h.symm
                simp [colsN] at hb
                omega
              · rw [if_neg hb] at he
                exact absurd rfl he
            · rw [if_pos ⟨rfl, hmm⟩] at h
              have hmb : ((m : Int) != (m' : Int)) = true := by simpa using hmm
              exact mCat_high k 2 m q A n c xs m' q' A' n' c' ys m m' R w hs hs' h1 h2 (fun W => height2 _ _ _ _ _ _ _) (fun W => height2 _ _ _ _ _ _ _) hrb hmb h.symm
    · rw [if_pos hk] at h
      exact mCat_early k r l0 l1 A n c xs k' r' l0' l1' A' n' c' ys e1 e2 ec R w hs hs' h1 h2 hec (.inr (.inl ⟨h0, hk, h.symm⟩))
  · rw [if_pos h0] at h
    exact mCat_early k r l0 l1 A n c xs k' r' l0' l1' A' n' c' ys e1 e2 ec R w hs hs' h1 h2 hec (.inl ⟨h0, h.symm⟩)
end Go.Proofs.Ytoapgknkenlcgaa

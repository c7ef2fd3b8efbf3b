/-
  moves.Reverse.
-/
import Derived.Test.YtoapgknkenlcgaaMrng
import Derived.Test.YtoapgknkenlcgaaSrev
import Derived.Test.YtoapgknkenlcgaaMrows
import Derived.Test.YtoapgknkenlcgaaRvec
namespace Go.Proofs.Ytoapgknkenlcgaa
open Go.RowKit Go.Shelf
attribute [local go_sem] Oper.semAt_some

set_option maxHeartbeats 400000 in
theorem srev_zero (A : Option Addr) (c : Nat) (w : World) :
    Calls Try.prog 55 #[.slice A 0 c] w fun e w' => (∃ v, e = .returned v) ∧ w' = w := by
  go_enter Try.func55, Try.ntmps55
  go_wp2
  go_loopw [2, 3] (fun i j wr => i = .int .i64 0 ∧ j = .int .i64 (-1) ∧ wr = w) (fun _ _ _ => 0)
  case atStart => exact ⟨rfl, rfl, rfl⟩
  case round =>
    obtain ⟨rfl, rfl, rfl⟩ := hrel
    go_wp2
    go_end0
    exact ⟨⟨_, rfl⟩, rfl⟩

/-- Some rows of q cells, each turned round. -/
def revAll (q : Nat) (js : List Nat) (f : Nat → Int) : Nat → Int := js.foldl (fun f i => fun p => if i * q ≤ p ∧ p < i * q + q then f (i * q + (i * q + q - 1 - p)) else f p) f
theorem revAll_snoc (q : Nat) (js : List Nat) (i : Nat) (f : Nat → Int) : revAll q (js ++ [i]) f = fun p => if i * q ≤ p ∧ p < i * q + q then revAll q js f (i * q + (i * q + q - 1 - p)) else revAll q js f p := by
  simp [revAll]
theorem revAll_range {xs : List Int} {m q : Nat} (hl : xs.length = m * q) : ∀ j, j ≤ m → ∀ p, revAll q (List.range j) (fun p => xs.getD p 0) p = ((List.range j).flatMap (fun i => ((xs.drop (i * q)).take q).reverse) ++ xs.drop (j * q)).getD p 0 := by
  intro j
  induction j with
  | zero => intro _ p; simp [revAll]
  | succ j ih =>
    intro hj p
    have hr : ∀ i, i < m → (((xs.drop (i * q)).take q).reverse).length = q := fun i hi => by rw [List.length_reverse]; exact rowOf_len hl hi
    have hP := flat_len (m := j) (q := q) (g := fun i => ((xs.drop (i * q)).take q).reverse) (fun i hi => hr i (by omega))
    have hM : ((xs.drop (j * q)).take q).length = q := rowOf_len hl (by omega)
    rw [List.range_succ, revAll_snoc, List.flatMap_append]
    simp only [ih (by omega)]
    rw [drop_row xs q j, rev_part hP hM p]
    simp
theorem revAll_end {xs : List Int} {m q : Nat} (hl : xs.length = m * q) (p : Nat) : revAll q (List.range m) (fun p => xs.getD p 0) p = ((List.range m).flatMap (fun i => ((xs.drop (i * q)).take q).reverse)).getD p 0 := by
  rw [revAll_range hl m (Nat.le_refl _), ← hl, List.drop_length, List.append_nil]


set_option maxHeartbeats 4000000 in
theorem mReverse_err (k r l0 l1 : Int) (A : Option Addr) (n c : Nat) (xs : List Int) (R : Arr × Int) (w : World)
    (hs : Sl w A n c xs) (h : sReverse ⟨k, r, l0, l1, xs⟩ = R) (he : achk k r l0 l1 xs ≠ 0 ∨ r = 0) :
    Calls Try.prog 25 #[.agg #[.int .i64 k, .int .i64 r, .int .i64 l0, .int .i64 l1, .slice A n c]] w (RetA w R) := by
  have HS := Lib.hid hs
  by_cases h0 : achk k r l0 l1 xs = 0
  · obtain rfl : r = 0 := he.resolve_left (fun h => h h0)
    have hR : (zA, 22) = R := by rw [← h]; unfold sReverse chkA; rw [if_neg (fun h' => h' h0)]; rfl
    have HR := Lib.hid hR
    have H0 := Lib.hid h0
    clear h h0 hs hR he
    go_enter Try.func25, Try.ntmps25
    go_wp2_with fail
    refine (mcheck1 _ _ _ _ _ _ _ xs _ (w.heap.size + 1 + 1) _ (HS.out.step (below3 _ _ _ _)) H0.out (bx3 _ _ _ _ _)).mono ?_
    rintro e w1 ⟨rfl, hb1⟩
    obtain ⟨X0, X1, X2, b1⟩ := after3 hb1
    clear hb1 X2
    have q1 := Bx.lt X1
    have c0 : ∀ i, w1.cell? ⟨w.heap.size, i, none⟩ = _ := Bx.cell X0
    have c1 : ∀ i, w1.cell? ⟨w.heap.size + 1, i, none⟩ = _ := Bx.cell X1
    have f1 : ∀ i, w1.frozen? ⟨w.heap.size + 1, i, none⟩ = false := Bx.frozen X1
    go_wp2
    refine retAE (B := w.heap.size + 1) rfl rfl rfl rfl (Bx.set5 X1 _ _ _ _ _) ?_
    exact RetA.mk HR.out.symm (Sl.nil _) (fun _ _ _ h => by cases h) (below_set5 b1 (by omega) _ _ _ _ _)
  · have he : (zA, achk k r l0 l1 xs) = R := by
      rw [← h]; exact (if_pos h0).symm
    obtain ⟨ec, hec⟩ : ∃ ec, achk k r l0 l1 xs = ec := ⟨_, rfl⟩
    rw [hec] at h0 he
    have HEC := Lib.hid hec
    have HR := Lib.hid he
    have hne : (ec != 0) = true := by simpa using h0
    clear hec h0 he h hs
    go_enter Try.func25, Try.ntmps25
    go_wp2_with fail
    refine (mcheck1 _ _ _ _ _ _ _ xs _ (w.heap.size + 1 + 1) _ (HS.out.step (below3 _ _ _ _)) HEC.out (bx3 _ _ _ _ _)).mono ?_
    rintro e w1 ⟨rfl, hb1⟩
    obtain ⟨X0, X1, X2, b1⟩ := after3 hb1
    clear hb1 X2
    have q1 := Bx.lt X1
    have c0 : ∀ i, w1.cell? ⟨w.heap.size, i, none⟩ = _ := Bx.cell X0
    have c1 : ∀ i, w1.cell? ⟨w.heap.size + 1, i, none⟩ = _ := Bx.cell X1
    have f1 : ∀ i, w1.frozen? ⟨w.heap.size + 1, i, none⟩ = false := Bx.frozen X1
    go_wp2
    refine retAE (B := w.heap.size + 1) rfl rfl rfl rfl (Bx.set5 X1 _ _ _ _ _) ?_
    exact RetA.mk HR.out.symm (Sl.nil _) (fun _ _ _ h => by cases h) (below_set5 b1 (by omega) _ _ _ _ _)

set_option maxRecDepth 100000 in
set_option maxHeartbeats 4000000 in
theorem mReverse_ok (k r l0 l1 : Int) (A : Option Addr) (n c q m : Nat) (xs : List Int) (w : World)
    (hs : Sl w A n c xs) (h0 : achk k r l0 l1 xs = 0) (hr : (r == 0) = false) (hn : n = m * q) (hm : m ≤ 400) (hq : q ≤ 400)
    (hcol : ∀ A c W, Calls Try.prog 49 #[.agg #[.int .i64 k, .int .i64 r, .int .i64 l0, .int .i64 l1, .slice A n c]] W fun e w' => e = .returned (.int .i64 q) ∧ Below W.heap.size W w')
    (hhei : ∀ A c W, Calls Try.prog 48 #[.agg #[.int .i64 k, .int .i64 r, .int .i64 l0, .int .i64 l1, .slice A n c]] W fun e w' => e = .returned (.int .i64 m) ∧ Below W.heap.size W w') :
    Calls Try.prog 25 #[.agg #[.int .i64 k, .int .i64 r, .int .i64 l0, .int .i64 l1, .slice A n c]] w (RetA w (⟨k, r, l0, l1, (List.range m).flatMap (fun i => ((xs.drop (i * q)).take q).reverse)⟩, 0)) := by
  have hnb : n ≤ 1000000 := by
    have : m * q ≤ 400 * 400 := Nat.mul_le_mul hm hq
    omega
  have HS := Lib.hid hs
  have H0 := Lib.hid h0
  have HN := Lib.hid hn
  have hlen := Lib.hid hs.len
  clear hs h0 hn
  have hd : 1 ≤ 6 := by omega
  refine (callsIn_wide (n := 6)).1 ?_
  refine callsIn_of_wp_marks Try.func25 rfl trivial ?_ rfl
  simp only [Try.ntmps25, List.size_toArray, List.length_cons, List.length_nil, Nat.reduceAdd, Nat.reduceSub, Array.replicate_succ, Array.replicate_zero, List.push_toArray, List.append_toArray, List.nil_append, List.cons_append]
  gi_wp2_with fail
  refine ⟨trivial, (callsIn_wide.2 (mcheck1 _ _ _ _ _ _ _ xs _ (w.heap.size + 1 + 1) _ (HS.out.step (below3 _ _ _ _)) H0.out (bx3 _ _ _ _ _))).mono ?_⟩
  rintro e w1 ⟨rfl, hb1⟩
  obtain ⟨X0, X1, X2, b1⟩ := after3 hb1
  clear hb1 X2
  have q1 := Bx.lt X1
  have c0 : ∀ i, w1.cell? ⟨w.heap.size, i, none⟩ = _ := Bx.cell X0
  gi_wp2_with fail
  refine ⟨trivial, (callsIn_wide.2 (clone_any A n c xs _ (HS.out.step b1) hnb)).mono ?_⟩
  rintro e w2 ⟨⟨A', c', rfl, hown, hS, hN⟩, hb2⟩
  have Y0 := Bx.step X0 hb2
  have Y1 := Bx.step X1 hb2
  have b2 := bst b1 hb2
  clear c0 X0 X1
  have c0 : ∀ i, w2.cell? ⟨w.heap.size, i, none⟩ = _ := Bx.cell Y0
  have f0 : ∀ i, w2.frozen? ⟨w.heap.size, i, none⟩ = false := Bx.frozen Y0
  gi_wp2_with fail
  refine ⟨trivial, (callsIn_wide.2 (mrows_any _ _ _ _ _ _ _ _)).mono ?_⟩
  rintro e w3 ⟨rfl, hw3⟩
  have sz : (w2.setCell ⟨w.heap.size, 4, none⟩ (.slice A' n c')).heap.size = w2.heap.size := by simp [World.setCell]
  have Z0 : Bx w3 w.heap.size #[.int .i64 k, .int .i64 r, .int .i64 l0, .int .i64 l1, .slice A' n c'] 25 := by
    rw [hw3]
    have := Y0.set_ 4 (.slice A' n c')
    exact Bx.alloc (by simpa using this) _
  have Z1 : Bx w3 (w.heap.size + 1) #[.int .i64 0, .int .i64 0, .int .i64 0, .int .i64 0, .slice none 0 0] 25 := by
    rw [hw3]
    exact Bx.alloc (Y1.far (by simp) _) _
  have ZB : Bx w3 w2.heap.size #[.int .i64 k, .int .i64 r, .int .i64 l0, .int .i64 l1, .slice A' n c'] 25 := by
    rw [hw3, ← sz]
    exact Bx.new _ _ _
  have b3 : Below w.heap.size w w3 := by
    rw [hw3]
    exact bal (bsc b2 (Nat.le_refl _) _) _
  have s3 : w3.heap.size = w2.heap.size + 1 := by rw [hw3]; simp [sz]
  rw [sz]
  rcases Nat.eq_zero_or_pos n with h0 | hpos
  · have hq0 : ∀ x : Fin m, q = 0 := fun x => by
      have h1 := HN.out
      have h2 := x.isLt
      rw [h0] at h1
      rcases Nat.mul_eq_zero.1 h1.symm with h3 | h3
      · omega
      · exact h3
    have hrow : ∀ x : Fin m, rowV A' q x.val = .slice A' 0 0 := fun x => by
      unfold rowV
      rw [if_pos (hq0 x), hq0 x]
    have hmost := hS.most
    have hcap := hS.cap
    have hsz := b2.size
    have hs12 := hb2.size
    have HZ := Lib.hid h0
    clear hw3 Y0 Y1 f0 c0 hS hown h0
    gi_wp2
    refine wpIn_rangeFunc_ownG rfl hd (gf := 59) (lb := #[.pointer (some ⟨w2.heap.size, 0, none⟩)]) rfl trivial (enters_of Try.func59 (by kernel_rfl) rfl)
      (rng_stops _ (by omega) w2.heap.size k r l0 l1 A' n c' q m (by rw [HN.out]; exact Nat.le_refl _) (by omega) hm hq (by omega) (hcol _ _) (hhei _ _) w3 ZB)
      (fun h k => k.trans h) (keepBox (by omega)) (Below.refl _ _) (fun _ => rfl)
      (fun pre W => (Bx W w.heap.size #[.int .i64 k, .int .i64 r, .int .i64 l0, .int .i64 l1, .slice A' n c'] 25 ∧ Bx W (w.heap.size + 1) #[.int .i64 0, .int .i64 0, .int .i64 0, .int .i64 0, .slice none 0 0] 25) ∧ Below w.heap.size w W)
      (fun _ _ _ => False)
      (OwnFrom.and (Own.from (fun s A B row hs hg hr => ⟨hs.1.keeps hg hr, hs.2.keeps hg hr⟩) _) (ownFrom_below (Nat.le_refl _) (by omega)))
      (fun _ _ _ _ _ hs _ _ => hs)
      ⟨⟨Z0, Z1⟩, b3⟩
      ?a1 ?assign ?body ?done ?stop
    case assign =>
      intro l x W K hK
      gi_wp2
      exact hK
    case body =>
      rintro l pre x W ⟨⟨e0, e1⟩, hB⟩ hlen
      have hx := hrow x
      gi_wp2_with fail
      refine ⟨trivial, (CallsIn.inRound l (callsIn_wide.2 (srev_zero A' 0 W))).mono ?_⟩
      rintro e w4 ⟨⟨v, rfl⟩, rfl⟩
      gi_wp2
      exact ⟨KeepsFrom.refl _ _, rfl, ⟨e0, e1⟩, hB⟩
    case done =>
      rintro D ys W hD hys ⟨⟨e0, e1⟩, hB⟩ hK
      have d0 : ∀ i, W.cell? ⟨w.heap.size, i, none⟩ = _ := e0.cell
      have d1 : ∀ i, W.cell? ⟨w.heap.size + 1, i, none⟩ = _ := e1.cell
      have f1 : ∀ i, W.frozen? ⟨w.heap.size + 1, i, none⟩ = false := e1.frozen
      gi_wp2
      have hK5 := (set5_heap W (w.heap.size + 1) (.int .i64 k) (.int .i64 r) (.int .i64 l0) (.int .i64 l1) (.slice A' n c') (b := D) (by omega)).trans hK
      refine retME (B := w.heap.size + 1) rfl rfl hK5 rfl rfl (e1.set5 _ _ _ _ _) ?_
      have hxl := hlen.out
      refine RetA.mk (A := A') (n := n) (c := c') rfl ?_ (hN.mono b1.size) ?_
      · have hfl : ((List.range m).flatMap (fun i => ((xs.drop (i * q)).take q).reverse)).length = 0 := by
          rw [flat_len (q := q)]
          · rw [← HN.out, HZ.out]
          · intro i hi
            rw [List.length_reverse]
            exact rowOf_len (hxl.trans HN.out) hi
        rw [List.eq_nil_of_length_eq_zero hfl]
        obtain rfl := HZ.out
        exact Sl.empty _ _ _ (by unfold maxLen; omega)
      · exact (below_set5 hB (by omega) _ _ _ _ _).trans (belowK_b (w := w) (Nat.le_refl _) _ D _ _ (by omega) hK5 rfl rfl)
    case stop =>
      rintro D c pre W _ _ h _
      exact h.elim
  · obtain ⟨g, rfl, hg1⟩ : ∃ g, A' = some ⟨g, 0, none⟩ ∧ w1.heap.size ≤ g := by
      obtain ⟨A2, c2, hv, _, h3⟩ := Sl.of_own hown
      cases hv
      exact h3 hpos
    have F2 := Bf.of_own hown
    have F3 : Bf w3 g n (fun p => xs.getD p 0) := by
      rw [hw3]
      exact (F2.block (Below.heap_setCell _ _ _ _ (by simp; omega))).block (Below.heap_alloc _ _ _ (by rw [sz]; exact F2.lt))
    have g2 := F2.lt
    have hcap := hS.cap
    have hmost := hS.most
    clear hw3 Y0 Y1 f0 c0 hS
    have hsz := b2.size
    have hq0 : q ≠ 0 := fun h => by have := HN.out; rw [h] at this; omega
    have hrow : ∀ i, rowV (some ⟨g, 0, none⟩) q i = .slice (some ⟨g, i * q, none⟩) q q := fun i => by unfold rowV; rw [if_neg hq0]; simp [Addr.add_lit]
    have hin : ∀ x : Fin m, x.val * q + q ≤ n := fun x => by
      have := Nat.mul_le_mul_right q (show x.val + 1 ≤ m from x.isLt)
      rw [Nat.succ_mul] at this
      have := HN.out
      omega
    gi_wp2
    refine wpIn_rangeFunc_ownG rfl hd (gf := 59) (lb := #[.pointer (some ⟨w2.heap.size, 0, none⟩)]) rfl trivial (enters_of Try.func59 (by kernel_rfl) rfl)
      (rng_stops _ (by omega) w2.heap.size k r l0 l1 (some ⟨g, 0, none⟩) n c' q m (by rw [HN.out]; exact Nat.le_refl _) (by omega) hm hq (by omega) (hcol _ _) (hhei _ _) w3 ZB)
      (fun h k => k.trans h) (keepBox (by omega)) (Below.refl _ _) (fun _ => rfl)
      (fun pre W => (Bx W w.heap.size #[.int .i64 k, .int .i64 r, .int .i64 l0, .int .i64 l1, .slice (some ⟨g, 0, none⟩) n c'] 25 ∧ Bx W (w.heap.size + 1) #[.int .i64 0, .int .i64 0, .int .i64 0, .int .i64 0, .slice none 0 0] 25 ∧ Bx W w2.heap.size #[.int .i64 k, .int .i64 r, .int .i64 l0, .int .i64 l1, .slice (some ⟨g, 0, none⟩) n c'] 25 ∧ Bf W g n (revAll q (pre.map Fin.val) (fun p => xs.getD p 0))) ∧ Below w.heap.size w W)
      (fun _ _ _ => False)
      (OwnFrom.and (Own.from (fun s A B row hs hg hr => ⟨hs.1.keeps hg hr, hs.2.1.keeps hg hr, hs.2.2.1.keeps hg hr, hs.2.2.2.keeps hg hr⟩) _) (ownFrom_below (Nat.le_refl _) (by omega)))
      (fun _ _ _ _ _ hs _ _ => hs)
      ⟨⟨Z0, Z1, ZB, F3⟩, b3⟩
      ?a1B ?assignB ?bodyB ?doneB ?stopB
    case assignB =>
      intro l x W K hK
      gi_wp2
      exact hK
    case bodyB =>
      rintro l pre x W ⟨⟨e0, e1, e2, hF⟩, hB⟩ hlen
      gi_wp2_with fail
      refine ⟨trivial, (CallsIn.inRound l (callsIn_wide.2 (srev_any g (x.val * q) q q n _ W hF (hin x) hnb))).mono ?_⟩
      rintro e w4 ⟨⟨v, rfl⟩, hF4, hg4⟩
      gi_wp2
      have hgW := hF.lt
      have n0 : g ≠ w.heap.size := by omega
      have n1 : g ≠ w.heap.size + 1 := by omega
      have n2 : g ≠ w2.heap.size := by omega
      refine ⟨KeepsFrom.of_grownBy hg4 (fun j e => by cases e; omega), hg4.block _ e2.lt (fun e => n2 (Option.some.inj e).symm), ⟨e0.grown hg4 (fun e => n0 (Option.some.inj e).symm), e1.grown hg4 (fun e => n1 (Option.some.inj e).symm), e2.grown hg4 (fun e => n2 (Option.some.inj e).symm), ?_⟩, hB.grown hg4 hB.size (fun j e => by cases e; omega)⟩
      rw [List.map_append, List.map_singleton, revAll_snoc]
      exact hF4
    case doneB =>
      rintro D ys W hD hys ⟨⟨e0, e1, e2, hF⟩, hB⟩ hK
      have d0 : ∀ i, W.cell? ⟨w.heap.size, i, none⟩ = _ := e0.cell
      have d1 : ∀ i, W.cell? ⟨w.heap.size + 1, i, none⟩ = _ := e1.cell
      have f1 : ∀ i, W.frozen? ⟨w.heap.size + 1, i, none⟩ = false := e1.frozen
      gi_wp2
      have hgW := hF.lt
      have n1 : g ≠ w.heap.size + 1 := by omega
      have hK5 := (set5_heap W (w.heap.size + 1) (.int .i64 k) (.int .i64 r) (.int .i64 l0) (.int .i64 l1) (.slice (some ⟨g, 0, none⟩) n c') (b := D) (by omega)).trans hK
      refine retME (B := w.heap.size + 1) rfl rfl hK5 rfl rfl (e1.set5 _ _ _ _ _) ?_
      have hxl := hlen.out
      have hF5 := (hF.block (set5_heap W (w.heap.size + 1) (.int .i64 k) (.int .i64 r) (.int .i64 l0) (.int .i64 l1) (.slice (some ⟨g, 0, none⟩) n c') n1)).putD hK5 (.deferred none)
      refine RetA.mk (A := some ⟨g, 0, none⟩) (n := n) (c := c') rfl ?_ (fun b o s e => by cases e; omega) ?_
      · refine Bf.sl (hF5.congr fun p hp => ?_) ?_ hcap (by unfold maxLen; omega)
        · rw [hys]
          exact revAll_end (hxl.trans HN.out) p
        · rw [flat_len (q := q)]
          · exact HN.out.symm
          · intro i hi
            rw [List.length_reverse]
            exact rowOf_len (hxl.trans HN.out) hi
      · exact (below_set5 hB (by omega) _ _ _ _ _).trans (belowK_b (w := w) (Nat.le_refl _) _ D _ _ (by omega) hK5 rfl rfl)
    case stopB =>
      rintro D c pre W _ _ h _
      exact h.elim

/-- A vector or a matrix: how many rows, and of how many cells. -/
theorem rows_len {k r l0 l1 : Int} {xs : List Int} (h : achk k r l0 l1 xs = 0) (hr : r ≠ 0) :
    ∃ m q : Nat, xs.length = m * q ∧ m ≤ 400 ∧ q ≤ 400 ∧ ((r = 1 ∧ m = 1 ∧ l0 = q ∧ l1 = 0) ∨ (r = 2 ∧ l0 = m ∧ l1 = q)) := by
  obtain ⟨_, hs, hl, _⟩ := achk_ok h
  rcases shp_ok hs with ⟨rfl, _⟩ | ⟨rfl, h0, h1, rfl⟩ | ⟨rfl, h0, h1, h2, h3, _⟩
  · exact absurd rfl hr
  · refine ⟨1, l0.toNat, ?_, by omega, by omega, .inl ⟨rfl, rfl, by omega, rfl⟩⟩
    simp [prodI] at hl
    omega
  · obtain ⟨m, rfl⟩ : ∃ m : Nat, l0 = m := ⟨l0.toNat, by omega⟩
    obtain ⟨q, rfl⟩ : ∃ q : Nat, l1 = q := ⟨l1.toNat, by omega⟩
    refine ⟨m, q, ?_, by omega, by omega, .inr ⟨rfl, rfl, rfl⟩⟩
    simp [prodI] at hl
    exact_mod_cast hl
theorem mReverse_any (k r l0 l1 : Int) (A : Option Addr) (n c : Nat) (xs : List Int) (R : Arr × Int) (w : World)
    (hs : Sl w A n c xs) (h : sReverse ⟨k, r, l0, l1, xs⟩ = R) :
    Calls Try.prog 25 #[.agg #[.int .i64 k, .int .i64 r, .int .i64 l0, .int .i64 l1, .slice A n c]] w (RetA w R) := by
  by_cases he : achk k r l0 l1 xs ≠ 0 ∨ r = 0
  · exact mReverse_err k r l0 l1 A n c xs R w hs h he
  · have h0 : achk k r l0 l1 xs = 0 := by
      by_cases h0 : achk k r l0 l1 xs = 0
      · exact h0
      · exact absurd (.inl h0) he
    have hr0 : r ≠ 0 := fun h => he (.inr h)
    have hrb : (r == 0) = false := by simpa using hr0
    unfold sReverse chkA at h
    simp only at h
    rw [if_neg (fun h' => h' h0), if_neg hr0] at h
    rw [← h]
    obtain ⟨m, q, hl, hm, hq, hc⟩ := rows_len h0 hr0
    have hn : n = m * q := hs.len.symm.trans hl
    rcases hc with ⟨rfl, rfl, rfl, rfl⟩ | ⟨rfl, rfl, rfl⟩
    · exact mReverse_ok k 1 q 0 A n c q 1 xs w hs h0 hrb hn hm hq (fun A c W => columns1 _ _ _ _ _ _ _) (fun A c W => height1 _ _ _ _ _ _ _)
    · exact mReverse_ok k 2 m q A n c q m xs w hs h0 hrb hn hm hq (fun A c W => columns2 _ _ _ _ _ _ _) (fun A c W => height2 _ _ _ _ _ _ _)
end Go.Proofs.Ytoapgknkenlcgaa

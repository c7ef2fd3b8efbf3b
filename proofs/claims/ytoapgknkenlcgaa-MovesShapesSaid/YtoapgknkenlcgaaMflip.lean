/-
  moves.Flip.
-/
import Derived.Test.YtoapgknkenlcgaaMrev
import Derived.Test.YtoapgknkenlcgaaMfil
namespace Go.Proofs.Ytoapgknkenlcgaa
open Go.RowKit Go.Shelf
attribute [local go_sem] Oper.semAt_some


set_option maxHeartbeats 4000000 in
theorem mFlip_err (k r l0 l1 : Int) (A : Option Addr) (n c : Nat) (xs : List Int) (R : Arr × Int) (w : World)
    (hs : Sl w A n c xs) (h : sFlip ⟨k, r, l0, l1, xs⟩ = R) (he : achk k r l0 l1 xs ≠ 0 ∨ r ≠ 2) :
    Calls Try.prog 28 #[.agg #[.int .i64 k, .int .i64 r, .int .i64 l0, .int .i64 l1, .slice A n c]] w (RetA w R) := by
  have HS := Lib.hid hs
  by_cases h0 : achk k r l0 l1 xs = 0
  · have hr2 : r ≠ 2 := he.resolve_left (fun h => h h0)
    have hR : (zA, 22) = R := by rw [← h]; unfold sFlip chkA; rw [if_neg (fun h' => h' h0)]; exact (if_pos hr2).symm
    have HR := Lib.hid hR
    have H0 := Lib.hid h0
    have hr : (r != 2) = true := by simpa using hr2
    clear h h0 hs hR he hr2
    go_enter Try.func28, Try.ntmps28
    go_wp2_with fail
    refine (mcheck1 _ _ _ _ _ _ _ xs _ (w.heap.size + 1 + 1) _ (HS.out.step (below3 _ _ _ _)) H0.out (bx3 _ _ _ _ _)).mono ?_
    rintro e w1 ⟨rfl, hb1⟩
    obtain ⟨X0, X1, X2, b1⟩ := after3 hb1
    clear hb1 X2
    have q1 := Bx.lt X1
    have c0 : ∀ i, w1.cell? ⟨w.heap.size, i, none⟩ = _ := Bx.cell X0
    have c1 : ∀ i, w1.cell? ⟨w.heap.size + 1, i, none⟩ = _ := Bx.cell X1
    have f1 : ∀ i, w1.frozen? ⟨w.heap.size + 1, i, none⟩ = false := Bx.frozen X1
    go_wp2
    refine retAE (B := w.heap.size + 1) rfl rfl rfl rfl (Bx.set5 X1 _ _ _ _ _) ?_
    exact RetA.mk HR.out.symm (Sl.nil _) (fun _ _ _ h => by cases h) (below_set5 b1 (by omega) _ _ _ _ _)
  · have he : (zA, achk k r l0 l1 xs) = R := by
      rw [← h]; exact (if_pos h0).symm
    obtain ⟨ec, hec⟩ : ∃ ec, achk k r l0 l1 xs = ec := ⟨_, rfl⟩
    rw [hec] at h0 he
    have HEC := Lib.hid hec
    have HR := Lib.hid he
    have hne : (ec != 0) = true := by simpa using h0
    clear hec h0 he h hs
    go_enter Try.func28, Try.ntmps28
    go_wp2_with fail
    refine (mcheck1 _ _ _ _ _ _ _ xs _ (w.heap.size + 1 + 1) _ (HS.out.step (below3 _ _ _ _)) HEC.out (bx3 _ _ _ _ _)).mono ?_
    rintro e w1 ⟨rfl, hb1⟩
    obtain ⟨X0, X1, X2, b1⟩ := after3 hb1
    clear hb1 X2
    have q1 := Bx.lt X1
    have c0 : ∀ i, w1.cell? ⟨w.heap.size, i, none⟩ = _ := Bx.cell X0
    have c1 : ∀ i, w1.cell? ⟨w.heap.size + 1, i, none⟩ = _ := Bx.cell X1
    have f1 : ∀ i, w1.frozen? ⟨w.heap.size + 1, i, none⟩ = false := Bx.frozen X1
    go_wp2
    refine retAE (B := w.heap.size + 1) rfl rfl rfl rfl (Bx.set5 X1 _ _ _ _ _) ?_
    exact RetA.mk HR.out.symm (Sl.nil _) (fun _ _ _ h => by cases h) (below_set5 b1 (by omega) _ _ _ _ _)

theorem place_inj {m a b c d : Nat} (hb : b < m) (hd : d < m) (h : a * m + b = c * m + d) : a = c ∧ b = d := by
  have h1 : (a * m + b) / m = a := by rw [Nat.mul_comm, Nat.mul_add_div (by omega), Nat.div_eq_of_lt hb, Nat.add_zero]
  have h2 : (c * m + d) / m = c := by rw [Nat.mul_comm, Nat.mul_add_div (by omega), Nat.div_eq_of_lt hd, Nat.add_zero]
  rw [h] at h1
  have h3 : a = c := h1.symm.trans h2
  subst h3
  exact ⟨rfl, by omega⟩
set_option maxRecDepth 100000 in
set_option maxHeartbeats 4000000 in
theorem mFlip_ok (k : Int) (A : Option Addr) (n c q m : Nat) (xs : List Int) (w : World)
    (hs : Sl w A n c xs) (h0 : achk k 2 m q xs = 0) (hn : n = m * q) (hm : m ≤ 400) (hq : q ≤ 400) :
    Calls Try.prog 28 #[.agg #[.int .i64 k, .int .i64 2, .int .i64 m, .int .i64 q, .slice A n c]] w (RetA w (⟨k, 2, q, m, (List.range q).flatMap fun j => (List.range m).map fun i => xs.getD (i * q + j) 0⟩, 0)) := by
  obtain ⟨i0, hi, hz0, hz1, hz2⟩ := info_parts infoI64
  have hnb : n ≤ 160000 := by rw [hn]; exact Nat.mul_le_mul hm hq
  have e2 : IntKind.i64.wrap ((m : Int) * (q : Int)) = (n : Int) := by
    have : (m : Int) * (q : Int) = (n : Int) := by rw [hn]; simp
    rw [this]
    exact IntWalk.i64_in _ (by omega)
  have HS := Lib.hid hs
  have H0 := Lib.hid h0
  have HN := Lib.hid hn
  have hcap := hs.cap
  have hmost := hs.most
  have hlen := Lib.hid hs.len
  clear hs h0 hn
  have hd : 1 ≤ 6 := by omega
  refine (callsIn_wide (n := 6)).1 ?_
  refine callsIn_of_wp_marks Try.func28 rfl trivial ?_ rfl
  simp only [Try.ntmps28, List.size_toArray, List.length_cons, List.length_nil, Nat.reduceAdd, Nat.reduceSub, Array.replicate_succ, Array.replicate_zero, List.push_toArray, List.append_toArray, List.nil_append, List.cons_append]
  gi_wp2_with fail
  refine ⟨trivial, (callsIn_wide.2 (mcheck1 _ _ _ _ _ _ _ xs _ (w.heap.size + 1 + 1) _ (HS.out.step (below3 _ _ _ _)) H0.out (bx3 _ _ _ _ _))).mono ?_⟩
  rintro e w1 ⟨rfl, hb1⟩
  obtain ⟨X0, X1, X2, b1⟩ := after3 hb1
  clear hb1 X2
  have q1 := Bx.lt X1
  have c0 : ∀ i, w1.cell? ⟨w.heap.size, i, none⟩ = _ := Bx.cell X0
  gi_wp2_with fail
  have c00 : ∀ i, ((w1.alloc (.cells #[.int .i64 0] 3)).drew).cell? ⟨w.heap.size, i, none⟩ = _ := (Bx.alloc X0 (.cells #[.int .i64 0] 3)).cell
  have c01 : ∀ i, ((w1.alloc (.cells #[.int .i64 m] 3)).drew).cell? ⟨w.heap.size, i, none⟩ = _ := (Bx.alloc X0 (.cells #[.int .i64 m] 3)).cell
  have c02 : ∀ i, w1.drew.cell? ⟨w.heap.size, i, none⟩ = _ := c0
  gi_region
  obtain ⟨w2, hw2⟩ : ∃ w2, (w1.alloc (.cells #[.int .i64 m] 3)).drew = w2 := ⟨_, rfl⟩
  rw [hw2]
  have Y0 : Bx w2 w.heap.size #[.int .i64 k, .int .i64 2, .int .i64 m, .int .i64 q, .slice A n c] 25 := by rw [← hw2]; exact Bx.alloc X0 _
  have Y1 : Bx w2 (w.heap.size + 1) #[.int .i64 0, .int .i64 0, .int .i64 0, .int .i64 0, .slice none 0 0] 25 := by rw [← hw2]; exact Bx.alloc X1 _
  have YM : Bx w2 w1.heap.size #[.int .i64 m] 3 := by rw [← hw2]; exact Bx.new _ _ _
  have b2 : Below w.heap.size w w2 := by rw [← hw2]; exact bdr (bal b1 _)
  have s2 : w2.heap.size = w1.heap.size + 1 := by rw [← hw2]; simp [World.drew]
  clear c00 c01 c02 c0 X0 X1 hw2
  have d0 : ∀ i, w2.cell? ⟨w.heap.size, i, none⟩ = _ := Y0.cell
  have dM : ∀ i, w2.cell? ⟨w1.heap.size, i, none⟩ = _ := YM.cell
  have D0 : ∀ i, ((w2.alloc (.cells (madeCells #[.int .i64 0] n) 2)).alloc (.cells #[.slice (some ⟨w1.heap.size + 1, 0, none⟩) n n] 23)).cell? ⟨w.heap.size, i, none⟩ = _ := ((Y0.alloc _).alloc _).cell
  gi_wp2_with (with_reducible refine wpListIn_make_row _ rfl _ _ 23 rfl 2 i0 (.int .i64 0) Try.underlying23 hi hz0 hz1 rfl .i64 .i64 n rfl rfl (by rw [hz2]; omega) (by omega) ?_)
  refine ⟨trivial, (callsIn_wide.2 (mrows_any _ _ _ _ _ _ _ _)).mono ?_⟩
  rintro e w3 ⟨rfl, hw3⟩
  have sz : ((w2.alloc (.cells (madeCells #[.int .i64 0] n) 2)).alloc (.cells #[.slice (some ⟨w1.heap.size + 1, 0, none⟩) n n] 23)).heap.size = w1.heap.size + 1 + 1 + 1 := by simp [s2]
  have sz1 : (w2.alloc (.cells (madeCells #[.int .i64 0] n) 2)).heap.size = w1.heap.size + 1 + 1 := by simp [s2]
  have Z0 : Bx w3 w.heap.size #[.int .i64 k, .int .i64 2, .int .i64 m, .int .i64 q, .slice A n c] 25 := by rw [hw3]; exact ((Y0.alloc _).alloc _).alloc _
  have Z1 : Bx w3 (w.heap.size + 1) #[.int .i64 0, .int .i64 0, .int .i64 0, .int .i64 0, .slice none 0 0] 25 := by rw [hw3]; exact ((Y1.alloc _).alloc _).alloc _
  have ZM : Bx w3 w1.heap.size #[.int .i64 m] 3 := by rw [hw3]; exact ((YM.alloc _).alloc _).alloc _
  have ZC : Bx w3 (w1.heap.size + 1 + 1) #[.slice (some ⟨w1.heap.size + 1, 0, none⟩) n n] 23 := by rw [hw3, ← sz1]; exact (Bx.new _ _ _).alloc _
  have ZR : Bx w3 (w1.heap.size + 1 + 1 + 1) #[.int .i64 k, .int .i64 2, .int .i64 m, .int .i64 q, .slice A n c] 25 := by rw [hw3, ← sz]; exact Bx.new _ _ _
  have F3 : Bf w3 (w1.heap.size + 1) n (fun _ => 0) := by
    rw [hw3, ← s2]
    have h1 := Bf.made w2 n
    exact (h1.block (Below.heap_alloc _ _ _ h1.lt)).block (Below.heap_alloc _ _ _ (by simp; omega))
  have b3 : Below w.heap.size w w3 := by rw [hw3]; exact bal (bal (bal b2 _) _) _
  have s3 : w3.heap.size = w1.heap.size + 1 + 1 + 1 + 1 := by rw [hw3]; simp [s2]
  rw [sz]
  have hsz := b1.size
  clear hw3 Y0 Y1 YM D0 d0 dM b2 s2 sz sz1
  gi_wp2
  refine wpIn_rangeFunc_ownG rfl hd (gf := 59) (lb := #[.pointer (some ⟨w1.heap.size + 1 + 1 + 1, 0, none⟩)]) rfl trivial (enters_of Try.func59 (by kernel_rfl) rfl)
    (rng_stops _ (by omega) (w1.heap.size + 1 + 1 + 1) k 2 m q A n c q m (by rw [HN.out]; exact Nat.le_refl _) hcap hm hq hmost (fun W => columns2 _ _ _ _ _ _ _) (fun W => height2 _ _ _ _ _ _ _) w3 ZR)
    (fun h k => k.trans h) (keepBox (by omega)) (Below.refl _ _) (fun _ => rfl)
    (fun pre W => (Bx W w.heap.size #[.int .i64 k, .int .i64 2, .int .i64 m, .int .i64 q, .slice A n c] 25 ∧ Bx W (w.heap.size + 1) #[.int .i64 0, .int .i64 0, .int .i64 0, .int .i64 0, .slice none 0 0] 25 ∧ Bx W w1.heap.size #[.int .i64 m] 3 ∧ Bx W (w1.heap.size + 1 + 1) #[.slice (some ⟨w1.heap.size + 1, 0, none⟩) n n] 23 ∧ Bx W (w1.heap.size + 1 + 1 + 1) #[.int .i64 k, .int .i64 2, .int .i64 m, .int .i64 q, .slice A n c] 25 ∧ ∃ f, Bf W (w1.heap.size + 1) n f ∧ ∀ i ∈ pre.map Fin.val, ∀ j, j < q → f (j * m + i) = xs.getD (i * q + j) 0) ∧ Below w.heap.size w W)
    (fun _ _ _ => False)
    (OwnFrom.and (Own.from (fun s A B row hs hg hr => ⟨hs.1.keeps hg hr, hs.2.1.keeps hg hr, hs.2.2.1.keeps hg hr, hs.2.2.2.1.keeps hg hr, hs.2.2.2.2.1.keeps hg hr, by obtain ⟨f, hF, hf⟩ := hs.2.2.2.2.2; exact ⟨f, hF.keeps hg hr, hf⟩⟩) _) (ownFrom_below (Nat.le_refl _) (by omega)))
    (fun _ _ _ _ _ hs _ _ => hs)
    ⟨⟨Z0, Z1, ZM, ZC, ZR, _, F3, fun i hi => by simp at hi⟩, b3⟩
    ?a1 ?assign ?body ?done ?stop
  case assign =>
    intro l x W K hK
    gi_wp2
    exact hK
  case body =>
    rintro l pre x W ⟨⟨e0, e1, eM, eC, eR, f, hF, hf⟩, hB⟩ hlen
    obtain ⟨V, hV, hSV⟩ := row_sl HS.out HN.out x.val x.isLt
    have HSV := Lib.hid hSV
    have HF := Lib.hid hf
    have hgW := e1.lt
    have hCW := hF.lt
    clear hSV hf
    gi_wp2
    gi_loopw [39] (fun e wr => ∃ j : Nat, j ≤ q ∧ e = .int .i64 j ∧ Hid (W.grownBy wr (some (w1.heap.size + 1))) ∧ Hid (∃ f', Bf wr (w1.heap.size + 1) n f' ∧ (∀ i ∈ pre.map Fin.val, ∀ j, j < q → f' (j * m + i) = xs.getD (i * q + j) 0) ∧ ∀ i, i < j → f' (i * m + x.val) = xs.getD (x.val * q + i) 0)) (fun e _ => q - (intOf e).toNat)
    case atStart => exact ⟨0, Nat.zero_le _, rfl, Lib.hid (World.grownBy.refl W _), Lib.hid ⟨f, hF, HF.out, fun i hi => absurd hi (Nat.not_lt_zero _)⟩⟩
    case round =>
      obtain ⟨j, hj, rfl, HG, HI⟩ := hrel
      have hg := HG.out
      have E0 := e0.grown hg (by simp; omega)
      have E1 := e1.grown hg (by simp; omega)
      have EM := eM.grown hg (by simp)
      have EC := eC.grown hg (by simp)
      have ER := eR.grown hg (by simp; omega)
      have hBr := hB.grown hg hB.size (fun j e => by cases e; omega)
      clear hg
      by_cases hlt : j < q
      · obtain ⟨b', o', rfl, hbl, hcy⟩ := HSV.out.at_ (k := j) hlt
        rw [getD_take hlt, getD_drop] at hcy
        obtain ⟨y, hy⟩ : ∃ y, xs.getD (x.val * q + j) 0 = y := ⟨_, rfl⟩
        rw [hy] at hcy
        have HY := Lib.hid hy
        have dy : wr.cell? ⟨b', o' + j, none⟩ = some (.int .i64 y) := (hBr.cell (p := ⟨b', o' + j, none⟩) hbl).trans hcy
        clear hy hcy
        obtain ⟨f', hF', hf1, hf2⟩ := HI.out
        have HF1 := Lib.hid hf1
        have HF2 := Lib.hid hf2
        obtain ⟨p, hp⟩ : ∃ p, j * m = p := ⟨_, rfl⟩
        obtain ⟨t, ht⟩ : ∃ t, p + x.val = t := ⟨_, rfl⟩
        have hpi : (j : Int) * (m : Int) = (p : Int) := by rw [← hp]; simp
        have htn : t < n := by
          have h1 := HN.out
          have h2 := x.isLt
          have h3 : (j + 1) * m ≤ q * m := Nat.mul_le_mul_right m hlt
          rw [Nat.succ_mul, Nat.mul_comm q m] at h3
          omega
        have e4 : IntKind.i64.wrap ((j : Int) * (m : Int)) = (p : Int) := by rw [hpi]; exact IntWalk.i64_in _ (by omega)
        have e5 : IntKind.i64.wrap ((p : Int) + ((x.val : Nat) : Int)) = (t : Int) := by
          have : (p : Int) + ((x.val : Nat) : Int) = (t : Int) := by omega
          rw [this]
          exact IntWalk.i64_in _ (by omega)
        have t0 : (0 : Int) ≤ (t : Int) := by omega
        have t1 : (t : Int) < (n : Int) := by omega
        have j0 : (0 : Int) ≤ (j : Int) := by omega
        have j1 : (j : Int) < (q : Int) := by omega
        have dM : ∀ i, wr.cell? ⟨w1.heap.size, i, none⟩ = _ := EM.cell
        have dC : ∀ i, wr.cell? ⟨w1.heap.size + 1 + 1, i, none⟩ = _ := EC.cell
        have dT := hF'.cell htn
        have fT := hF'.frozen t
        have HP := Lib.hid (show j * m + x.val = t by omega)
        clear hp ht hpi hf1 hf2
        gi_wp2
        go_roundw
        case rel =>
          refine ⟨j + 1, by omega, by simp, Lib.hid (grown_set HG.out _ _), Lib.hid ⟨_, hF'.set t y, ?_, ?_⟩⟩
          · intro i hi j' hj'
            have hi' : i < m := by
              obtain ⟨z, _, rfl⟩ := List.mem_map.1 hi
              exact z.isLt
            show (if j' * m + i = t then y else f' (j' * m + i)) = _
            by_cases e : j' * m + i = t
            · rw [if_pos e, ← HY.out]
              obtain ⟨h1, h2⟩ := place_inj hi' x.isLt (e.trans HP.out.symm)
              rw [h1, h2]
            · rw [if_neg e]
              exact HF1.out i hi j' hj'
          · intro i hi
            show (if i * m + x.val = t then y else f' (i * m + x.val)) = _
            by_cases e : i * m + x.val = t
            · rw [if_pos e, ← HY.out]
              obtain ⟨h1, _⟩ := place_inj x.isLt x.isLt (e.trans HP.out.symm)
              rw [h1]
            · rw [if_neg e]
              refine HF2.out i ?_
              rcases Nat.lt_or_ge i j with h | h
              · exact h
              · obtain rfl : i = j := by omega
                exact absurd HP.out e
        case measure => simp [intOf]; omega
      · obtain rfl : j = q := by omega
        gi_wp2
        obtain ⟨f', hF', hf1, hf2⟩ := HI.out
        refine ⟨KeepsFrom.of_grownBy HG.out (fun j e => by cases e; omega), HG.out.block _ eR.lt (by simp; omega), ⟨E0, E1, EM, EC, ER, f', hF', ?_⟩, hBr⟩
        intro i hi j' hj'
        rw [List.map_append, List.mem_append] at hi
        rcases hi with hi | hi
        · exact hf1 i hi j' hj'
        · obtain rfl : i = x.val := by simpa using hi
          exact hf2 j' hj'
  case done =>
    rintro D ys W hD hys ⟨⟨e0, e1, eM, eC, eR, f, hF, hf⟩, hB⟩ hK
    have d0 : ∀ i, W.cell? ⟨w.heap.size, i, none⟩ = _ := e0.cell
    have d1 : ∀ i, W.cell? ⟨w.heap.size + 1, i, none⟩ = _ := e1.cell
    have dM : ∀ i, W.cell? ⟨w1.heap.size, i, none⟩ = _ := eM.cell
    have dC : ∀ i, W.cell? ⟨w1.heap.size + 1 + 1, i, none⟩ = _ := eC.cell
    have hCD := hF.lt
    have hRD := eR.lt
    gi_wp2_with fail
    refine ⟨trivial, (callsIn_wide.2 (mmatrix_any k q m (some ⟨w1.heap.size + 1, 0, none⟩) n n _)).mono ?_⟩
    rintro e w4 ⟨rfl, hb4⟩
    have g1 : ∀ i, w4.cell? ⟨w.heap.size + 1, i, none⟩ = _ := (e1.step hb4).cell
    have k1 : ∀ i, w4.frozen? ⟨w.heap.size + 1, i, none⟩ = false := (e1.step hb4).frozen
    have hDW : D < W.heap.size := (Array.getElem?_eq_some_iff.1 hK).1
    have hK4 := (hb4.block D hDW).trans hK
    have hF4 := hF.step hb4
    have HF := Lib.hid hf
    have B4 := bst hB hb4
    clear hf
    gi_wp2
    have hK5 := (set5_heap w4 (w.heap.size + 1) (.int .i64 k) (.int .i64 2) (.int .i64 q) (.int .i64 m) (.slice (some ⟨w1.heap.size + 1, 0, none⟩) n n) (b := D) (by omega)).trans hK4
    refine retME (B := w.heap.size + 1) rfl rfl hK5 rfl rfl ((e1.step hb4).set5 _ _ _ _ _) ?_
    have hF5 := (hF4.block (set5_heap w4 (w.heap.size + 1) (.int .i64 k) (.int .i64 2) (.int .i64 q) (.int .i64 m) (.slice (some ⟨w1.heap.size + 1, 0, none⟩) n n) (by omega))).putD hK5 (.deferred none)
    have hfl : ((List.range q).flatMap fun j => (List.range m).map fun i => xs.getD (i * q + j) 0).length = n := by
      rw [flat_len (q := m) (by simp), HN.out, Nat.mul_comm]
    refine RetA.mk (A := some ⟨w1.heap.size + 1, 0, none⟩) (n := n) (c := n) rfl ?_ (fun b o s e => by cases e; omega) ?_
    · refine Bf.sl (hF5.congr fun p hp => ?_) hfl (Nat.le_refl _) (by unfold maxLen; omega)
      have hm0 : 0 < m := by
        rcases Nat.eq_zero_or_pos m with h | h
        · have := HN.out
          rw [h, Nat.zero_mul] at this
          omega
        · exact h
      have hp2 : p / m < q := by
        rw [Nat.div_lt_iff_lt_mul hm0, Nat.mul_comm, ← HN.out]
        exact hp
      have hp3 : p = p / m * m + p % m := (Nat.div_add_mod' p m).symm
      have hp4 : p % m < m := Nat.mod_lt _ hm0
      have h6 : p % m ∈ ys.map Fin.val := by rw [hys]; exact List.mem_range.2 hp4
      have h7 := HF.out (p % m) h6 (p / m) hp2
      rw [← hp3] at h7
      rw [h7]
      have h8 := flat_getD (m := q) (q := m) (g := fun j => (List.range m).map fun i => xs.getD (i * q + j) 0) (by simp) hp2 hp4
      rw [← hp3] at h8
      rw [h8]
      simp [List.getD, hp4]
    · exact (below_set5 B4 (by omega) _ _ _ _ _).trans (belowK_b (w := w) (Nat.le_refl _) _ D _ _ (by omega) hK5 rfl rfl)
  case stop =>
    rintro D c pre W _ _ h _
    exact h.elim
theorem mFlip_any (k r l0 l1 : Int) (A : Option Addr) (n c : Nat) (xs : List Int) (R : Arr × Int) (w : World)
    (hs : Sl w A n c xs) (h : sFlip ⟨k, r, l0, l1, xs⟩ = R) :
    Calls Try.prog 28 #[.agg #[.int .i64 k, .int .i64 r, .int .i64 l0, .int .i64 l1, .slice A n c]] w (RetA w R) := by
  by_cases he : achk k r l0 l1 xs ≠ 0 ∨ r ≠ 2
  · exact mFlip_err k r l0 l1 A n c xs R w hs h he
  · have h0 : achk k r l0 l1 xs = 0 := by
      by_cases h0 : achk k r l0 l1 xs = 0
      · exact h0
      · exact absurd (.inl h0) he
    have hr : r = 2 := by
      by_cases hr : r = 2
      · exact hr
      · exact absurd (.inr hr) he
    obtain ⟨m, q, hl, hm, hq, hc⟩ := rows_len h0 (by omega)
    rcases hc with ⟨h1, _⟩ | ⟨rfl, rfl, rfl⟩
    · omega
    unfold sFlip chkA at h
    simp only at h
    rw [if_neg (fun h' => h' h0), if_neg (fun h => h rfl)] at h
    rw [← h]
    exact mFlip_ok k A n c q m xs w hs h0 (hs.len.symm.trans hl) hm hq
end Go.Proofs.Ytoapgknkenlcgaa

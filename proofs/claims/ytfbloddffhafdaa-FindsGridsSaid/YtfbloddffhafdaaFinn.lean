/-
  finds.In: a map of what the vector has.
-/
import Derived.Test.YtfbloddffhafdaaFat
import Derived.Maps.Own
import Derived.Maps.OwnOps
import Derived.Maps.Views
namespace Go.Proofs.Ytfbloddffhafdaa
open Go.RowKit Go.Maps

def oneD : DataW Unit := .lit (.int .i64 1)
/-- The map of a list's numbers. -/
def mapD (l : List Int) : DataW Unit := l.foldl (fun m x => m.put (.int .i64 x) oneD) (.map [])
theorem mapD_snoc (l : List Int) (x : Int) : mapD (l ++ [x]) = (mapD l).put (.int .i64 x) oneD := by simp [mapD, List.foldl_append]
theorem fold_at (y : Int) (z : DataW Unit) : ∀ (l : List Int) (m : DataW Unit), IsMap m → (l.foldl (fun m x => m.put (.int .i64 x) oneD) m).atKey (.int .i64 y) z = if l.elem y then oneD else m.atKey (.int .i64 y) z := by
  intro l
  induction l with
  | nil => intro m _; simp
  | cons x l ih =>
    intro m hm
    rw [List.foldl_cons, ih _ (hm.put _ _)]
    by_cases e : y = x
    · subst e
      rw [atKey_put_same hm (by trivial), ite_self]
      simp
    · rw [atKey_put_other (by simpa using e)]
      simp [e]
theorem mapD_at {l : List Int} {y c : Int} (h : (mapD l).atKey (.int .i64 y) (.lit (.int .i64 0)) = .lit (.int .i64 c)) : c = isIn l y := by
  unfold mapD at h
  rw [fold_at y _ l _ isMap_empty] at h
  unfold isIn
  split at h
  · rename_i e
    rw [if_pos e]
    simp only [oneD, DataW.lit.injEq, Lit.int.injEq, true_and] at h
    exact h.symm
  · rename_i e
    rw [if_neg e]
    simpa [DataW.atKey] using h.symm
theorem keyI64 : Keyed Try.prog 2 := int_keyed Try.underlying2
theorem zeroI64 (w : World) : (zeroValue 2).run Try.prog w = .ok (.int .i64 0) w := by kernel_rfl
theorem below_grown {w w' : World} (h : Below w.heap.size w w') : w.grownBy w' none := ⟨h.os, h.tape, h.output, h.size, fun k hk _ => h.block k hk⟩
theorem wfI64 {x : Int} (h : -9223372036854775808 ≤ x ∧ x ≤ 9223372036854775807) : (Lit.int .i64 x).wf = true := WalkArith.wf_i64 (by omega)
abbrev OM (w : World) (B n : Nat) (D : DataW Unit) : Prop := w.ownsMap Try.prog 2 (plainElem Try.prog 2) B n D

set_option maxHeartbeats 1000000 in
theorem fin_any (k r l0 l1 : Int) (A : Option Addr) (n c : Nat) (xs : List Int) (k' r' l0' l1' : Int) (A' : Option Addr) (n' c' : Nat) (ys : List Int) (R : Arr × Int) (w : World)
    (hs : Sl w A n c xs) (hs' : Sl w A' n' c' ys) (hwx : ∀ x ∈ xs, -9223372036854775808 ≤ x ∧ x ≤ 9223372036854775807) (hwy : ∀ x ∈ ys, -9223372036854775808 ≤ x ∧ x ≤ 9223372036854775807)
    (h : sFIn ⟨k, r, l0, l1, xs⟩ ⟨k', r', l0', l1', ys⟩ = R) :
    Calls Try.prog 20 #[.agg #[.int .i64 k, .int .i64 r, .int .i64 l0, .int .i64 l1, .slice A n c], .agg #[.int .i64 k', .int .i64 r', .int .i64 l0', .int .i64 l1', .slice A' n' c']] w (RetA w R) := by
  obtain ⟨e1, he1⟩ : ∃ ec, achk k r l0 l1 xs = ec := ⟨_, rfl⟩
  obtain ⟨e2, he2⟩ : ∃ ec, achk k' r' l0' l1' ys = ec := ⟨_, rfl⟩
  unfold sFIn inE chkA at h
  simp only [he1, he2] at h
  have HE1 := Lib.hid he1
  have HE2 := Lib.hid he2
  have HS := Lib.hid hs
  have HS' := Lib.hid hs'
  have HWX := Lib.hid hwx
  have HWY := Lib.hid hwy
  have Z0 : Bx ((((w.alloc (.cells #[.int .i64 k, .int .i64 r, .int .i64 l0, .int .i64 l1, .slice A n c] 25)).alloc (.cells #[.int .i64 k', .int .i64 r', .int .i64 l0', .int .i64 l1', .slice A' n' c'] 25)).alloc (.cells #[.int .i64 0, .int .i64 0, .int .i64 0, .int .i64 0, .slice none 0 0] 25)).alloc (.cells #[.int .i64 k, .int .i64 r, .int .i64 l0, .int .i64 l1, .slice A n c, .int .i64 k', .int .i64 r', .int .i64 l0', .int .i64 l1', .slice A' n' c'] 25)) (w.heap.size + 1 + 1 + 1) #[.int .i64 k, .int .i64 r, .int .i64 l0, .int .i64 l1, .slice A n c, .int .i64 k', .int .i64 r', .int .i64 l0', .int .i64 l1', .slice A' n' c'] 25 := by
    have := Bx.new (((w.alloc (.cells #[.int .i64 k, .int .i64 r, .int .i64 l0, .int .i64 l1, .slice A n c] 25)).alloc (.cells #[.int .i64 k', .int .i64 r', .int .i64 l0', .int .i64 l1', .slice A' n' c'] 25)).alloc (.cells #[.int .i64 0, .int .i64 0, .int .i64 0, .int .i64 0, .slice none 0 0] 25)) #[.int .i64 k, .int .i64 r, .int .i64 l0, .int .i64 l1, .slice A n c, .int .i64 k', .int .i64 r', .int .i64 l0', .int .i64 l1', .slice A' n' c'] 25
    simpa [World.size_alloc] using this
  clear hs hs' hwx hwy
  obtain ⟨er, her⟩ : ∃ er, fE (k == k') (r' == 1) (orE e1 e2) = er := ⟨_, rfl⟩
  rw [her] at h
  by_cases h0 : er = 0
  · subst h0
    obtain ⟨he, hk, hr⟩ := fE_zero her
    obtain ⟨rfl, rfl⟩ := orE_zero he
    obtain rfl : k = k' := by simpa using hk
    obtain rfl : r' = 1 := by simpa using hr
    rw [if_neg (fun g => g rfl)] at h
    have hkk : (k == k) = true := by simp
    have hfo : fE true true (orE 0 0) = 0 := rfl
    have hn4 : n ≤ 400 := by rw [← HS.out.len]; exact achk_len he1
    have hn4' : n' ≤ 400 := by rw [← HS'.out.len]; exact achk_len he2
    have HR := Lib.hid h
    clear her hk he he1 he2 h hr
    have hmm := @run_makeMap Try.prog
    go_enter Try.func20, Try.ntmps20
    go_wp2_with fail
    refine (fcheck2 true true _ _ _ _ _ _ _ xs _ _ _ _ _ _ _ ys _ _ _ _ (HS.out.step (below4 _ _ _ _ _)) (HS'.out.step (below4 _ _ _ _ _)) HE1.out HE2.out Z0).mono ?_
    rintro e w1 ⟨rfl, hb1⟩
    obtain ⟨X0, X1, X2, X3, b1⟩ := after4 hb1
    clear hb1
    rw [hfo]
    have g2 : ∀ i, w1.cell? ⟨w.heap.size + 1 + 1, i, none⟩ = _ := Bx.cell X2
    have f2 : ∀ i, w1.frozen? ⟨w.heap.size + 1 + 1, i, none⟩ = false := Bx.frozen X2
    have q2 := Bx.lt X2
    clear g2 f2 Z0 hkk hfo
    have q0 := Bx.lt X0
    have q1 := Bx.lt X1
    have g0 : ∀ i, w1.cell? ⟨w.heap.size, i, none⟩ = _ := Bx.cell X0
    have g1 : ∀ i, w1.cell? ⟨w.heap.size + 1, i, none⟩ = _ := Bx.cell X1
    have HX0 := Lib.hid X0
    have HX2 := Lib.hid X2
    go_wp2
    go_loopw [9, 33] (fun _ i wr => ∃ j : Nat, i = .int .i64 j ∧ j ≤ n' ∧ Hid (OM wr w1.heap.size j (mapD (ys.take j))) ∧ Below w1.heap.size w1 wr) (fun _ i _ => n' - (intOf i).toNat)
    case atStart => exact ⟨0, rfl, Nat.zero_le _, Lib.hid (World.ownsMap_made _ _ _ _), below1 _ _⟩
    case round =>
      obtain ⟨j, rfl, hj, HOW, hb⟩ := hrel
      clear g0 g1
      by_cases hlt : j < n'
      · have k0 : (0 : Int) ≤ (j : Int) := by omega
        have k1 : (j : Int) < (n' : Int) := by omega
        obtain ⟨b, o, rfl, hbl, hc0⟩ := HS'.out.at_ hlt
        have hbn := bst b1 hb
        obtain ⟨y, hy⟩ : ∃ y, ys.getD j 0 = y := ⟨_, rfl⟩
        rw [hy] at hc0
        have HY := Lib.hid hy
        have hc1 := (hbn.cell (p := ⟨b, o + j, none⟩) hbl).trans hc0
        have hwy : -9223372036854775808 ≤ y ∧ y ≤ 9223372036854775807 := by rw [← hy]; exact HWY.out _ (getD_mem (by rw [HS'.out.len]; exact hlt))
        have HK := Lib.hid (keyOf_int_mk (P := Try.prog) Try.underlying2 (wfI64 hwy))
        clear hc0 hy hwy
        go_wp2_with (at_mapUpdate; refine wpList_mapUpdate_own _ rfl _ _ _ 47 rfl 2 2 keyI64 Try.underlying47 _ w1.heap.size j _ rfl HOW.out (by unfold maxLen; omega) _ _ _ rfl rfl HK.out _ [] (plainElem_int Try.underlying2 (by decide)) ?_; intro w2 hown2 hgrow2)
        refine ⟨⟨j + 1, rfl, by omega, ?_, hb.grown hgrow2 hb.size (fun j hj => by cases hj; exact Nat.le_refl _)⟩, ?_⟩
        · have hj2 : j < ys.length := by rw [HS'.out.len]; exact hlt
          rw [List.take_succ_eq_append_getElem hj2, mapD_snoc, ← getD_get hj2, HY.out]
          exact Lib.hid hown2
        · simp only [intOf]; omega
      · obtain rfl : j = n' := by omega
        have ht : ys.take j = ys := by rw [← HS'.out.len]; exact List.take_length
        have hbn := bst b1 hb
        have Y0 := Bx.step HX0.out hb
        have Y2 := Bx.step HX2.out hb
        have HOM : Hid (OM wr w1.heap.size j (mapD ys)) := by have := HOW.out; rw [ht] at this; exact Lib.hid this
        have zr := HOM.out.lt
        have zq := hb.size
        have g0 : ∀ i, wr.cell? ⟨w.heap.size, i, none⟩ = _ := Bx.cell Y0
        have hmk := fun W => run_make_row' (P := Try.prog) 23 2 (.int .i64 0) 8 Try.underlying23 infoI64 rfl .i64 .i64 n (by omega) (by omega) W
        have q0' := Bx.lt Y0
        go_upto_region 10 with fail
        go_cut [10] from 40 to 48 (fun t wx => ∃ D M, t = .pointer (some ⟨D, 0, none⟩) ∧ Below wr.heap.size wr wx ∧ wr.heap.size ≤ D ∧ wr.heap.size ≤ M ∧ M ≠ D ∧ Hid (Bx wx D #[.int .i64 1, .int .i64 r, .int .i64 l0, .int .i64 l1, .slice (some ⟨M, 0, none⟩) n n] 25) ∧ Hid (Bf wx M n (fun _ => 0)))
        case first =>
          go_region
          all_goals go_wp2_with fail
          all_goals go_meet
          all_goals first
            | exact ⟨wr.heap.size, wr.heap.size + 1, rfl, bdr (below2 _ _ _), Nat.le_refl _, by omega, by omega, Lib.hid ((Bx.new wr _ _).alloc _), Lib.hid (bf_made1 _ _ _)⟩
            | exact ⟨wr.heap.size + 1, wr.heap.size, rfl, bdr (below2 _ _ _), by omega, Nat.le_refl _, by omega, Lib.hid (bx_new1 _ _ _ _), Lib.hid (bf_made0 _ _ _)⟩
        case rest =>
          obtain ⟨D, M, rfl, hb2, hD, hM, hne, HD, HM⟩ := hcut
          obtain ⟨w2, hw2⟩ : ∃ w2, wc = w2 := ⟨_, rfl⟩
          rw [hw2] at hb2 HD HM
          rw [hw2]
          replace Y0 := Bx.step Y0 hb2
          replace Y2 := Bx.step Y2 hb2
          have b2 := bst hbn hb2
          have HO2 : Hid (OM w2 w1.heap.size j (mapD ys)) := Lib.hid (HOM.out.kept (below_grown hb2) (by simp))
          clear hw2 g0 hmk hb2
          have g1 : ∀ i, w2.cell? ⟨w.heap.size, i, none⟩ = _ := Bx.cell Y0
          have HY2 := Lib.hid Y2
          have hs0 := hbn.size
          have hs1 := b1.size
          clear Y0 Y2
          go_wp2
          go_loopw [11, 12, 52] (fun _ _ i wr => ∃ q : Nat, i = .int .i64 q ∧ q ≤ n ∧ Hid (Bf wr M n (fun p => if p < q then isIn ys (xs.getD p 0) else 0)) ∧ Below w.heap.size w wr ∧ Hid (Bx wr (w.heap.size + 1 + 1) #[.int .i64 0, .int .i64 0, .int .i64 0, .int .i64 0, .slice none 0 0] 25) ∧ Hid (Bx wr D #[.int .i64 1, .int .i64 r, .int .i64 l0, .int .i64 l1, .slice (some ⟨M, 0, none⟩) n n] 25) ∧ Hid (OM wr w1.heap.size j (mapD ys))) (fun _ _ i _ => n - (intOf i).toNat)
          case atStart => exact ⟨0, rfl, Nat.zero_le _, Lib.hid (HM.out.congr fun j _ => by simp), b2, HY2, HD, HO2⟩
          case round =>
            obtain ⟨q, rfl, hq, HF, hbq, Y2, YD, HOQ⟩ := hrel
            clear g1
            have dD : ∀ i, wr.cell? ⟨D, i, none⟩ = _ := Bx.cell YD.out
            by_cases hlt2 : q < n
            · have k2 : (0 : Int) ≤ (q : Int) := by omega
              have k3 : (q : Int) < (n : Int) := by omega
              obtain ⟨b, o, rfl, hbl, hc0⟩ := HS.out.at_ hlt2
              obtain ⟨x, hx⟩ : ∃ x, xs.getD q 0 = x := ⟨_, rfl⟩
              rw [hx] at hc0
              have HX := Lib.hid hx
              have hc1 := (hbq.cell (p := ⟨b, o + q, none⟩) hbl).trans hc0
              have hwx : -9223372036854775808 ≤ x ∧ x ≤ 9223372036854775807 := by rw [← hx]; exact HWX.out _ (getD_mem (by rw [HS.out.len]; exact hlt2))
              have HK := Lib.hid (keyOf_int_mk (P := Try.prog) Try.underlying2 (wfI64 hwx))
              have dj := HF.out.cell hlt2
              have fj := HF.out.frozen q
              clear hc0 hx hwx
              go_wp2_with (at_lookup; refine wpList_lookup_own_int _ rfl _ _ 47 rfl 2 2 .i64 keyI64 Try.underlying47 Try.underlying2 (zeroI64 _) w1.heap.size j _ rfl HOQ.out _ _ rfl HK.out ?_; intro c3 hat3 hwc3; have hc3 := Lib.hid (mapD_at hat3); clear hat3 hwc3)
              refine ⟨⟨q + 1, rfl, by omega, Lib.hid (HF.out.fill ?_), bsc hbq (by show _ ≤ M; omega) _, Lib.hid (Bx.far Y2.out (by show _ ≠ M; omega) _), Lib.hid (Bx.far YD.out (by show _ ≠ M; omega) _), Lib.hid (HOQ.out.kept (row := some M) (grown_set (World.grownBy.refl _ _) _ _) (by simp; omega))⟩, ?_⟩
              · rw [HX.out, hc3.out]
              · simp only [intOf]; omega
            · obtain rfl : q = n := by omega
              have f2 : ∀ i, wr.frozen? ⟨w.heap.size + 1 + 1, i, none⟩ = false := Bx.frozen Y2.out
              have d2 : ∀ i, wr.cell? ⟨w.heap.size + 1 + 1, i, none⟩ = _ := Bx.cell Y2.out
              go_wp2
              refine retAE (B := w.heap.size + 1 + 1) rfl rfl rfl rfl (Bx.set5 Y2.out _ _ _ _ _) ?_
              refine RetA.mk HR.out.symm (Sl.past5 (Bf.full (f := fun p => isIn ys (xs.getD p 0)) (xs := xs.map (isIn ys)) HF.out (by rw [List.length_map]; exact HS.out.len) (fun p hp => ?_) (Nat.le_refl _) (by unfold maxLen; omega)) _ _ _ _ _ (fun b o e => by cases e; omega)) (fun b o s e => by cases e; omega) (below_set5 hbq (by omega) _ _ _ _ _)
              have hp' : p < xs.length := by rw [HS.out.len]; exact hp
              simp [List.getD, hp']
  · rw [if_pos h0] at h
    have HR := Lib.hid h
    have hne : (er != 0) = true := by simpa using h0
    have HEC := Lib.hid her
    clear he1 he2 h h0 her
    go_enter Try.func20, Try.ntmps20
    go_wp2_with fail
    refine (fcheck2 (k == k') (r' == 1) _ _ _ _ _ _ _ xs _ _ _ _ _ _ _ ys _ _ _ _ (HS.out.step (below4 _ _ _ _ _)) (HS'.out.step (below4 _ _ _ _ _)) HE1.out HE2.out Z0).mono ?_
    rintro e w1 ⟨rfl, hb1⟩
    obtain ⟨X0, X1, X2, X3, b1⟩ := after4 hb1
    clear hb1
    rw [HEC.out]
    have g2 : ∀ i, w1.cell? ⟨w.heap.size + 1 + 1, i, none⟩ = _ := Bx.cell X2
    have f2 : ∀ i, w1.frozen? ⟨w.heap.size + 1 + 1, i, none⟩ = false := Bx.frozen X2
    have q2 := Bx.lt X2
    go_wp2
    refine retAE (B := w.heap.size + 1 + 1) rfl rfl rfl rfl (Bx.set5 X2 _ _ _ _ _) ?_
    exact RetA.mk HR.out.symm (Sl.nil _) (fun _ _ _ h => by cases h) (below_set5 b1 (by omega) _ _ _ _ _)
end Go.Proofs.Ytfbloddffhafdaa

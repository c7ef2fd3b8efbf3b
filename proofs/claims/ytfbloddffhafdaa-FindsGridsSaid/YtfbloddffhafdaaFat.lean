/-
  finds.At.
-/
import Derived.Test.YtfbloddffhafdaaFiot
import Derived.Deep.CutRange
import Derived.Deep.RegionHeld3
namespace Go.Proofs.Ytfbloddffhafdaa
open Go.RowKit

theorem bx_new1 (w : World) (o : Obj) (cs : Array Value) (T : TypeId) : Bx ((w.alloc o).alloc (.cells cs T)).drew (w.heap.size + 1) cs T := by
  have := Bx.new (w.alloc o) cs T
  rwa [World.size_alloc] at this
theorem bf_made1 (w : World) (o : Obj) (n : Nat) : Bf ((w.alloc o).alloc (Obj.cells (madeCells #[Value.int IntKind.i64 0] n) 2)).drew (w.heap.size + 1) n (fun _ => 0) := by
  have := bf_made (w.alloc o) n
  rwa [World.size_alloc] at this
theorem bf_made0 (w : World) (o : Obj) (n : Nat) : Bf ((w.alloc (Obj.cells (madeCells #[Value.int IntKind.i64 0] n) 2)).alloc o).drew w.heap.size n (fun _ => 0) := by
  obtain ⟨cur, h1, h2⟩ := bf_made w n
  exact ⟨cur, h1.alloc o, h2⟩
set_option maxHeartbeats 1000000 in
theorem fat_any (k r l0 l1 : Int) (A : Option Addr) (n c : Nat) (xs : List Int) (k' r' l0' l1' : Int) (A' : Option Addr) (n' c' : Nat) (ys : List Int) (R : Arr × Int) (w : World)
    (hs : Sl w A n c xs) (hs' : Sl w A' n' c' ys) (h : sFAt ⟨k, r, l0, l1, xs⟩ ⟨k', r', l0', l1', ys⟩ = R) :
    Calls Try.prog 18 #[.agg #[.int .i64 k, .int .i64 r, .int .i64 l0, .int .i64 l1, .slice A n c], .agg #[.int .i64 k', .int .i64 r', .int .i64 l0', .int .i64 l1', .slice A' n' c']] w (RetA w R) := by
  obtain ⟨e1, he1⟩ : ∃ ec, achk k r l0 l1 xs = ec := ⟨_, rfl⟩
  obtain ⟨e2, he2⟩ : ∃ ec, achk k' r' l0' l1' ys = ec := ⟨_, rfl⟩
  unfold sFAt atE chkA at h
  simp only [he1, he2] at h
  have HE1 := Lib.hid he1
  have HE2 := Lib.hid he2
  have HS := Lib.hid hs
  have HS' := Lib.hid hs'
  have Z0 : Bx ((((w.alloc (.cells #[.int .i64 k, .int .i64 r, .int .i64 l0, .int .i64 l1, .slice A n c] 25)).alloc (.cells #[.int .i64 k', .int .i64 r', .int .i64 l0', .int .i64 l1', .slice A' n' c'] 25)).alloc (.cells #[.int .i64 0, .int .i64 0, .int .i64 0, .int .i64 0, .slice none 0 0] 25)).alloc (.cells #[.int .i64 k, .int .i64 r, .int .i64 l0, .int .i64 l1, .slice A n c, .int .i64 k', .int .i64 r', .int .i64 l0', .int .i64 l1', .slice A' n' c'] 25)) (w.heap.size + 1 + 1 + 1) #[.int .i64 k, .int .i64 r, .int .i64 l0, .int .i64 l1, .slice A n c, .int .i64 k', .int .i64 r', .int .i64 l0', .int .i64 l1', .slice A' n' c'] 25 := by
    have := Bx.new (((w.alloc (.cells #[.int .i64 k, .int .i64 r, .int .i64 l0, .int .i64 l1, .slice A n c] 25)).alloc (.cells #[.int .i64 k', .int .i64 r', .int .i64 l0', .int .i64 l1', .slice A' n' c'] 25)).alloc (.cells #[.int .i64 0, .int .i64 0, .int .i64 0, .int .i64 0, .slice none 0 0] 25)) #[.int .i64 k, .int .i64 r, .int .i64 l0, .int .i64 l1, .slice A n c, .int .i64 k', .int .i64 r', .int .i64 l0', .int .i64 l1', .slice A' n' c'] 25
    simpa [World.size_alloc] using this
  clear hs hs'
  obtain ⟨er, her⟩ : ∃ er, fE (k' == 1) (r == 1 && decide (r' < 2)) (orE e1 e2) = er := ⟨_, rfl⟩
  rw [her] at h
  by_cases h0 : er = 0
  · subst h0
    obtain ⟨he, hk, hr⟩ := fE_zero her
    obtain ⟨rfl, rfl⟩ := orE_zero he
    obtain rfl : k' = 1 := by simpa using hk
    simp only [Bool.and_eq_true, beq_iff_eq, decide_eq_true_eq] at hr
    obtain ⟨rfl, hr2⟩ := hr
    rw [if_neg (fun g => g rfl)] at h
    have hfo : fE true true (orE 0 0) = 0 := rfl
    have hn4 : n ≤ 400 := by rw [← HS.out.len]; exact achk_len he1
    have hn4' : n' ≤ 400 := by rw [← HS'.out.len]; exact achk_len he2
    have HR := Lib.hid h
    clear her hk he he1 he2 h
    skip
    go_enter Try.func18, Try.ntmps18
    go_wp2_with fail
    refine (fcheck2 true true _ _ _ _ _ _ _ xs _ _ _ _ _ _ _ ys _ _ _ _ (HS.out.step (below4 _ _ _ _ _)) (HS'.out.step (below4 _ _ _ _ _)) HE1.out HE2.out Z0).mono ?_
    rintro e w1 ⟨rfl, hb1⟩
    obtain ⟨X0, X1, X2, X3, b1⟩ := after4 hb1
    clear hb1
    rw [hfo]
    have g2 : ∀ i, w1.cell? ⟨w.heap.size + 1 + 1, i, none⟩ = _ := Bx.cell X2
    have f2 : ∀ i, w1.frozen? ⟨w.heap.size + 1 + 1, i, none⟩ = false := Bx.frozen X2
    have q2 := Bx.lt X2
    clear g2 f2 Z0
    have g0 : ∀ i, w1.cell? ⟨w.heap.size, i, none⟩ = _ := Bx.cell X0
    have g1 : ∀ i, w1.cell? ⟨w.heap.size + 1, i, none⟩ = _ := Bx.cell X1
    have q0 := Bx.lt X0
    have q1 := Bx.lt X1
    have hmk := fun W => run_make_row' (P := Try.prog) 23 2 (.int .i64 0) 8 Try.underlying23 infoI64 rfl .i64 .i64 n' (by omega) (by omega) W
    go_upto_region 4 with fail
    go_cut [7] from 29 to 39 (fun t wx => ∃ D M, t = .pointer (some ⟨D, 0, none⟩) ∧ Below w1.heap.size w1 wx ∧ w1.heap.size ≤ D ∧ w1.heap.size ≤ M ∧ M ≠ D ∧ Hid (Bx wx D #[.int .i64 k, .int .i64 r', .int .i64 l0', .int .i64 l1', .slice (some ⟨M, 0, none⟩) n' n'] 25) ∧ Hid (Bf wx M n' (fun _ => 0)))
    case first =>
      go_region
      all_goals go_wp2_with fail
      all_goals go_meet
      all_goals first
        | exact ⟨w1.heap.size, w1.heap.size + 1, rfl, bdr (below2 _ _ _), Nat.le_refl _, by omega, by omega, Lib.hid ((Bx.new w1 _ _).alloc _), Lib.hid (bf_made1 _ _ _)⟩
        | exact ⟨w1.heap.size + 1, w1.heap.size, rfl, bdr (below2 _ _ _), by omega, Nat.le_refl _, by omega, Lib.hid (bx_new1 _ _ _ _), Lib.hid (bf_made0 _ _ _)⟩
    case rest =>
      obtain ⟨D, M, rfl, hb2, hD, hM, hne, HD, HM⟩ := hcut
      obtain ⟨w2, hw2⟩ : ∃ w2, wc = w2 := ⟨_, rfl⟩
      rw [hw2] at hb2 HD HM
      rw [hw2]
      replace X0 := Bx.step X0 hb2
      replace X1 := Bx.step X1 hb2
      replace X2 := Bx.step X2 hb2
      have b2 := bst b1 hb2
      clear hw2 g0 g1 hmk hb2 X3
      have HX0 := Lib.hid X0
      have HX2 := Lib.hid X2
      have g1 : ∀ i, w2.cell? ⟨w.heap.size + 1, i, none⟩ = _ := Bx.cell X1
      have hs0 := b1.size
      clear X0 X2
      go_wp2
      go_loopw [8, 9, 43] (fun _ _ i wr => ∃ j : Nat, i = .int .i64 j ∧ j ≤ n' ∧ Hid (∀ p, p < j → inR n (ys.getD p 0) = true) ∧ Hid (Bf wr M n' (fun p => if p < j then xs.getD (ys.getD p 0).toNat 0 else 0)) ∧ Below w.heap.size w wr ∧ Hid (Bx wr w.heap.size #[.int .i64 k, .int .i64 1, .int .i64 l0, .int .i64 l1, .slice A n c] 25) ∧ Hid (Bx wr (w.heap.size + 1 + 1) #[.int .i64 0, .int .i64 0, .int .i64 0, .int .i64 0, .slice none 0 0] 25) ∧ Hid (Bx wr D #[.int .i64 k, .int .i64 r', .int .i64 l0', .int .i64 l1', .slice (some ⟨M, 0, none⟩) n' n'] 25)) (fun _ _ i _ => n' - (intOf i).toNat)
      case atStart => exact ⟨0, rfl, Nat.zero_le _, Lib.hid (fun p hp => absurd hp (Nat.not_lt_zero _)), Lib.hid (HM.out.congr fun j _ => by simp), b2, HX0, HX2, HD⟩
      case round =>
        obtain ⟨j, rfl, hj, HI, HF, hb, Y0, Y2, YD⟩ := hrel
        by_cases hlt : j < n'
        · have k0 : (0 : Int) ≤ (j : Int) := by omega
          have k1 : (j : Int) < (n' : Int) := by omega
          obtain ⟨b, o, rfl, hbl, hc0⟩ := HS'.out.at_ hlt
          obtain ⟨y, hy⟩ : ∃ y, ys.getD j 0 = y := ⟨_, rfl⟩
          rw [hy] at hc0
          have HY := Lib.hid hy
          have hc1 := (hb.cell (p := ⟨b, o + j, none⟩) hbl).trans hc0
          have d0 : ∀ i, wr.cell? ⟨w.heap.size, i, none⟩ = _ := Bx.cell Y0.out
          clear hc0 hy g1
          by_cases hin : inR n y = true
          · have hin' := of_decide_eq_true hin
            obtain ⟨q, rfl⟩ : ∃ q : Nat, y = (q : Int) := ⟨y.toNat, by omega⟩
            have hq : q < n := by omega
            obtain ⟨b', o', rfl, hbl', hv0⟩ := HS.out.at_ hq
            obtain ⟨v, hv⟩ : ∃ v, xs.getD q 0 = v := ⟨_, rfl⟩
            rw [hv] at hv0
            have HV := Lib.hid hv
            have hv1 := (hb.cell (p := ⟨b', o' + q, none⟩) hbl').trans hv0
            have dD : ∀ i, wr.cell? ⟨D, i, none⟩ = _ := Bx.cell YD.out
            have dj := HF.out.cell hlt
            have fj := HF.out.frozen j
            have HIN := Lib.hid hin
            have q0' : ¬ (q : Int) < 0 := by omega
            have q1' : ¬ (n : Int) ≤ (q : Int) := by omega
            have q2' : (q : Int) < (n : Int) := by omega
            have q3' : (0 : Int) ≤ (q : Int) := by omega
            clear hv hv0 hin hin'
            go_wp2_with fail
            go_region
            go_wp2
            refine ⟨⟨j + 1, rfl, by omega, Lib.hid (fun p hp => ?_), Lib.hid ((HF.out.fill ?_).block rfl), bdr (bsc hb (by show _ ≤ M; omega) _), Lib.hid (Bx.far Y0.out (by show _ ≠ M; omega) _), Lib.hid (Bx.far Y2.out (by show _ ≠ M; omega) _), Lib.hid (Bx.far YD.out (by show _ ≠ M; omega) _)⟩, ?_⟩
            · by_cases e : p = j
              · subst e; rw [HY.out]; exact HIN.out
              · exact HI.out p (by omega)
            · rw [HY.out, Int.toNat_natCast, HV.out]
            · simp only [intOf]; omega
          · have hbad := eq_false_of_ne_true hin
            have HBAD := Lib.hid hbad
            have f2 : ∀ i, wr.frozen? ⟨w.heap.size + 1 + 1, i, none⟩ = false := Bx.frozen Y2.out
            have d2 : ∀ i, wr.cell? ⟨w.heap.size + 1 + 1, i, none⟩ = _ := Bx.cell Y2.out
            have hor : y < 0 ∨ (n : Int) ≤ y := by
              have := of_decide_eq_false hbad
              omega
            clear hin hbad
            rcases hor with hy0 | hy0
            · go_wp2
              refine retAE (B := w.heap.size + 1 + 1) rfl rfl rfl rfl (Bx.set5 Y2.out _ _ _ _ _) ?_
              have hall : ys.all (inR xs.length) = false := by
                rw [List.all_eq_false]
                have hjl : j < ys.length := by rw [HS'.out.len]; exact hlt
                refine ⟨ys[j], List.getElem_mem hjl, ?_⟩
                have := HBAD.out
                rw [← HY.out, getD_get hjl] at this
                rw [HS.out.len, this]
                decide
              have hr := HR.out
              rw [if_pos hall] at hr
              exact RetA.mk hr.symm (Sl.nil _) (fun _ _ _ h => by cases h) (below_set5 hb (by omega) _ _ _ _ _)
            · have hy1 : ¬ y < 0 := by omega
              go_wp2
              refine retAE (B := w.heap.size + 1 + 1) rfl rfl rfl rfl (Bx.set5 Y2.out _ _ _ _ _) ?_
              have hall : ys.all (inR xs.length) = false := by
                rw [List.all_eq_false]
                have hjl : j < ys.length := by rw [HS'.out.len]; exact hlt
                refine ⟨ys[j], List.getElem_mem hjl, ?_⟩
                have := HBAD.out
                rw [← HY.out, getD_get hjl] at this
                rw [HS.out.len, this]
                decide
              have hr := HR.out
              rw [if_pos hall] at hr
              exact RetA.mk hr.symm (Sl.nil _) (fun _ _ _ h => by cases h) (below_set5 hb (by omega) _ _ _ _ _)
        · obtain rfl : j = n' := by omega
          have f2 : ∀ i, wr.frozen? ⟨w.heap.size + 1 + 1, i, none⟩ = false := Bx.frozen Y2.out
          have d2 : ∀ i, wr.cell? ⟨w.heap.size + 1 + 1, i, none⟩ = _ := Bx.cell Y2.out
          have dD : ∀ i, wr.cell? ⟨D, i, none⟩ = _ := Bx.cell YD.out
          go_wp2
          refine retAE (B := w.heap.size + 1 + 1) rfl rfl rfl rfl (Bx.set5 Y2.out _ _ _ _ _) ?_
          have hall : ys.all (inR xs.length) = true := by
            rw [List.all_eq_true]
            intro x hx
            obtain ⟨p, hp, rfl⟩ := List.getElem_of_mem hx
            have := HI.out p (by rw [← HS'.out.len]; exact hp)
            rw [getD_get hp] at this
            rw [HS.out.len]
            exact this
          have hr := HR.out
          rw [if_neg (by rw [hall]; decide)] at hr
          refine RetA.mk hr.symm (Sl.past5 (Bf.full (f := fun p => xs.getD (ys.getD p 0).toNat 0) (xs := ys.map (fun x => xs.getD x.toNat 0)) HF.out (by rw [List.length_map]; exact HS'.out.len) (fun p hp => ?_) (Nat.le_refl _) (by unfold maxLen; omega)) _ _ _ _ _ (fun b o e => by cases e; omega)) (fun b o s e => by cases e; omega) (below_set5 hb (by omega) _ _ _ _ _)
          have hp' : p < ys.length := by rw [HS'.out.len]; exact hp
          simp [List.getD, hp']
  · rw [if_pos h0] at h
    have HR := Lib.hid h
    have hne : (er != 0) = true := by simpa using h0
    have HEC := Lib.hid her
    clear he1 he2 h h0
    by_cases hr : r = 1
    · subst hr
      by_cases hr2 : r' < 2
      · have HEC : Hid (fE (k' == 1) true (orE e1 e2) = er) := Lib.hid (by rw [← her]; simp [hr2])
        clear her
        go_enter Try.func18, Try.ntmps18
        go_wp2_with fail
        refine (fcheck2 (k' == 1) true _ _ _ _ _ _ _ xs _ _ _ _ _ _ _ ys _ _ _ _ (HS.out.step (below4 _ _ _ _ _)) (HS'.out.step (below4 _ _ _ _ _)) HE1.out HE2.out Z0).mono ?_
        rintro e w1 ⟨rfl, hb1⟩
        obtain ⟨X0, X1, X2, X3, b1⟩ := after4 hb1
        clear hb1
        rw [HEC.out]
        have g2 : ∀ i, w1.cell? ⟨w.heap.size + 1 + 1, i, none⟩ = _ := Bx.cell X2
        have f2 : ∀ i, w1.frozen? ⟨w.heap.size + 1 + 1, i, none⟩ = false := Bx.frozen X2
        have q2 := Bx.lt X2
        go_wp2
        refine retAE (B := w.heap.size + 1 + 1) rfl rfl rfl rfl (Bx.set5 X2 _ _ _ _ _) ?_
        exact RetA.mk HR.out.symm (Sl.nil _) (fun _ _ _ h => by cases h) (below_set5 b1 (by omega) _ _ _ _ _)
      · have HEC : Hid (fE (k' == 1) false (orE e1 e2) = er) := Lib.hid (by rw [← her]; simp [hr2])
        clear her
        go_enter Try.func18, Try.ntmps18
        go_wp2_with fail
        refine (fcheck2 (k' == 1) false _ _ _ _ _ _ _ xs _ _ _ _ _ _ _ ys _ _ _ _ (HS.out.step (below4 _ _ _ _ _)) (HS'.out.step (below4 _ _ _ _ _)) HE1.out HE2.out Z0).mono ?_
        rintro e w1 ⟨rfl, hb1⟩
        obtain ⟨X0, X1, X2, X3, b1⟩ := after4 hb1
        clear hb1
        rw [HEC.out]
        have g2 : ∀ i, w1.cell? ⟨w.heap.size + 1 + 1, i, none⟩ = _ := Bx.cell X2
        have f2 : ∀ i, w1.frozen? ⟨w.heap.size + 1 + 1, i, none⟩ = false := Bx.frozen X2
        have q2 := Bx.lt X2
        go_wp2
        refine retAE (B := w.heap.size + 1 + 1) rfl rfl rfl rfl (Bx.set5 X2 _ _ _ _ _) ?_
        exact RetA.mk HR.out.symm (Sl.nil _) (fun _ _ _ h => by cases h) (below_set5 b1 (by omega) _ _ _ _ _)
    · have hr1 : (r == 1) = false := by simpa using hr
      have HEC : Hid (fE (k' == 1) false (orE e1 e2) = er) := Lib.hid (by rw [← her, hr1]; rfl)
      clear her hr
      go_enter Try.func18, Try.ntmps18
      go_wp2_with fail
      refine (fcheck2 (k' == 1) false _ _ _ _ _ _ _ xs _ _ _ _ _ _ _ ys _ _ _ _ (HS.out.step (below4 _ _ _ _ _)) (HS'.out.step (below4 _ _ _ _ _)) HE1.out HE2.out Z0).mono ?_
      rintro e w1 ⟨rfl, hb1⟩
      obtain ⟨X0, X1, X2, X3, b1⟩ := after4 hb1
      clear hb1
      rw [HEC.out]
      have g2 : ∀ i, w1.cell? ⟨w.heap.size + 1 + 1, i, none⟩ = _ := Bx.cell X2
      have f2 : ∀ i, w1.frozen? ⟨w.heap.size + 1 + 1, i, none⟩ = false := Bx.frozen X2
      have q2 := Bx.lt X2
      go_wp2
      refine retAE (B := w.heap.size + 1 + 1) rfl rfl rfl rfl (Bx.set5 X2 _ _ _ _ _) ?_
      exact RetA.mk HR.out.symm (Sl.nil _) (fun _ _ _ h => by cases h) (below_set5 b1 (by omega) _ _ _ _ _)
end Go.Proofs.Ytfbloddffhafdaa

/-
  The reference's Matrix.
-/
import Derived.Test.YtimpdfafodaadaaDoorMat
import Derived.Deep.RegionHeld3
namespace Go.Proofs.YtimpdfafodaadaaDoor
open Go.RowKit
attribute [local go_sem] Oper.semAt_some

set_option maxHeartbeats 4000000 in
theorem rMatrix_any (A : Option Addr) (n c : Nat) (rs : List RowS) (R : Arr × Int) (w : World) (hs : SlR w A n c rs) (h : sMatrix (xsOf rs) = R) :
    Calls Tryd.prog 25 #[.slice A n c] w (RetA w R) := by
  have HS := Lib.hid hs
  have hcap := hs.2.1
  have hmost := hs.2.2.1
  have hmost' : c ≤ 9223372036854775807 := by unfold maxLen at hmost; omega
  have hl := hs.1
  unfold sMatrix at h
  rw [xsOf_len, xsOf_zero, hl] at h
  have HL := Lib.hid hl
  clear hs hmost hl
  by_cases h4 : 400 < n
  · rw [if_pos h4] at h
    have HR := Lib.hid h
    have h4' : (400 : Int) < (n : Int) := by omega
    clear h
    go_enter Tryd.func25, Tryd.ntmps25
    go_wp2
    refine retAE (B := w.heap.size) rfl rfl rfl rfl (Bx.new _ _ _) ?_
    exact RetA.mk HR.out.symm (Sl.nil _) (fun _ _ _ h => by cases h) (below1 _ _)
  rw [if_neg h4] at h
  have h4' : ¬ (400 : Int) < (n : Int) := by omega
  obtain ⟨q, hq⟩ : ∃ q, (rs.getD 0 rowS0).xs.length = q := ⟨_, rfl⟩
  rw [hq] at h
  have HR := Lib.hid h
  have HQ := Lib.hid hq
  clear h hq
  go_enter Tryd.func25, Tryd.ntmps25
  go_wp2
  go_loopw [5] (fun i wr => ∃ (k : Nat) (b : Int), k ≤ n ∧ i = .int .i64 k ∧ Below w.heap.size w wr ∧ Hid (Bx wr w.heap.size #[.int .i64 0, .int .i64 0, .int .i64 0, .int .i64 0, .slice none 0 0] 25) ∧ Hid (Bx wr (w.heap.size + 1) #[.int .i64 1, .int .i64 2, .int .i64 n, .int .i64 b, .slice none 0 0] 25) ∧ Hid (b = if k = 0 then 0 else (q : Int)) ∧ Hid (∀ j, j < k → (rs.getD j rowS0).xs.length = q)) (fun i _ => n - (intOf i).toNat)
  case atStart => exact ⟨0, 0, Nat.zero_le _, rfl, below2 _ _ _, Lib.hid ((Bx.new _ _ _).alloc _), Lib.hid (by have := Bx.new (w.alloc (.cells #[.int .i64 0, .int .i64 0, .int .i64 0, .int .i64 0, .slice none 0 0] 25)) #[.int .i64 1, .int .i64 2, .int .i64 n, .int .i64 0, .slice none 0 0] 25; rwa [World.size_alloc] at this), Lib.hid rfl, Lib.hid (fun j hj => absurd hj (Nat.not_lt_zero _))⟩
  case round =>
    obtain ⟨k, b, hk, rfl, hb, HX, HY, HBB, HP⟩ := hrel
    have hz := HY.out.lt
    by_cases hlt : k < n
    · obtain ⟨bb, o, hA, hbl, hx, hS⟩ := (HS.out.step hb).at_ hlt
      obtain ⟨bb', o', hA', hbl', hx0, hS0⟩ := (HS.out.step hb).at_ (show 0 < n by omega)
      subst hA
      cases hA'
      rw [HQ.out, Nat.add_zero] at hx0
      have hqc := hS0.cap
      have hqm := hS0.most
      rw [HQ.out] at hqc
      obtain ⟨l, hll⟩ : ∃ l, (rs.getD k rowS0).xs.length = l := ⟨_, rfl⟩
      rw [hll] at hx
      have hlc := hS.cap
      have hlm := hS.most
      rw [hll] at hlc
      have HLL := Lib.hid hll
      have hk1 : (k : Int) < (n : Int) := by omega
      have hk0 : (0 : Int) < (n : Int) := by omega
      have hk2 : (0 : Int) ≤ (k : Int) := by omega
      generalize (rs.getD k rowS0).a = ra at hx
      generalize (rs.getD k rowS0).c = rc at hx hlc hlm
      generalize (rs.getD 0 rowS0).a = ra0 at hx0
      generalize (rs.getD 0 rowS0).c = rc0 at hx0 hqc hqm
      clear hll hS hS0
      by_cases hlq : l = q
      · subst hlq
        have hll2 : ((l : Int) != (l : Int)) = false := by simp
        go_wp2
        go_quiet (fail)
        have HX2 := Lib.hid (HX.out.drewN nq)
        have HY2 := Lib.hid (HY.out.drewN nq)
        have hb2 := bdn hb nq
        have hx2 : (wr.drewN nq).cell? ⟨bb, o, none⟩ = _ := hx0
        obtain ⟨w2, hw2⟩ : ∃ w2, wr.drewN nq = w2 := ⟨_, rfl⟩
        rw [hw2] at HX2 HY2 hb2 hx2
        rw [hw2]
        have f1 : ∀ i, w2.frozen? ⟨w.heap.size + 1, i, none⟩ = false := Bx.frozen HY2.out
        have d1 : ∀ i, w2.cell? ⟨w.heap.size + 1, i, none⟩ = _ := Bx.cell HY2.out
        have p1 := HY2.out.lt
        clear hw2 hx hx0
        go_wp2
        refine ⟨⟨k + 1, l, by omega, rfl, bsc hb2 (by simp) _, Lib.hid (Bx.far HX2.out (by simp) _), Lib.hid ?_, Lib.hid (by simp), Lib.hid ?_⟩, ?_⟩
        · have := HY2.out.set_ 3 (.int .i64 (l : Int))
          simpa using this
        · intro j hj
          by_cases e : j = k
          · subst e; exact HLL.out
          · exact HP.out j (by omega)
        · simp only [intOf]; omega
      · have hr := HR.out
        rw [if_pos (any_off (by rw [HL.out]; exact hlt) (by rw [HLL.out]; exact hlq))] at hr
        subst hr
        have hne : ((l : Int) != (q : Int)) = true := by simp; omega
        clear HR hlq
        go_wp2
        go_quiet (fail)
        have HX2 := Lib.hid (HX.out.drewN nq)
        have hb2 := bdn hb nq
        obtain ⟨w2, hw2⟩ : ∃ w2, wr.drewN nq = w2 := ⟨_, rfl⟩
        rw [hw2] at HX2 hb2
        rw [hw2]
        have f0 : ∀ i, w2.frozen? ⟨w.heap.size, i, none⟩ = false := Bx.frozen HX2.out
        have d0 : ∀ i, w2.cell? ⟨w.heap.size, i, none⟩ = _ := Bx.cell HX2.out
        have p0 := HX2.out.lt
        clear hw2 hx hx0
        go_wp2
        refine retAE (B := w.heap.size) rfl rfl rfl rfl (HX2.out.set5 _ _ _ _ _) ?_
        exact RetA.mk rfl (Sl.nil _) (fun _ _ _ h => by cases h) (below_set5 hb2 (Nat.le_refl _) _ _ _ _ _)
    · obtain rfl : k = n := by omega
      have hr := HR.out
      rw [if_neg (by rw [all_on (fun j hj => HP.out j (by rw [HL.out] at hj; exact hj))]; simp)] at hr
      have hbq : b = q := by
        rw [HBB.out]
        by_cases h0 : k = 0
        · subst h0
          have hnil : rs = [] := List.eq_nil_of_length_eq_zero HL.out
          have := HQ.out
          rw [hnil] at this
          have hq0 : q = 0 := this.symm
          rw [if_pos rfl, hq0]; rfl
        · rw [if_neg h0]
      subst hbq
      have f1 : ∀ i, wr.frozen? ⟨w.heap.size + 1, i, none⟩ = false := Bx.frozen HY.out
      have d1 : ∀ i, wr.cell? ⟨w.heap.size + 1, i, none⟩ = _ := Bx.cell HY.out
      have f0 : ∀ i, wr.frozen? ⟨w.heap.size, i, none⟩ = false := Bx.frozen HX.out
      have d0 : ∀ i, wr.cell? ⟨w.heap.size, i, none⟩ = _ := Bx.cell HX.out
      have p0 := HX.out.lt
      clear HBB HR
      obtain ⟨P, hP⟩ : ∃ P, k * q = P := ⟨_, rfl⟩
      rw [hP] at hr
      by_cases hq4 : 400 < q
      · rw [if_pos (.inl hq4)] at hr
        have HR := Lib.hid hr
        have hq5 : (400 : Int) < (q : Int) := by omega
        clear hr hP
        go_wp2
        refine retAE (B := w.heap.size) rfl rfl rfl rfl (HX.out.set5 _ _ _ _ _) ?_
        exact RetA.mk HR.out.symm (Sl.nil _) (fun _ _ _ h => by cases h) (below_set5 hb (Nat.le_refl _) _ _ _ _ _)
      · have hq5 : ¬ (400 : Int) < (q : Int) := by omega
        have hPI : (k : Int) * (q : Int) = (P : Int) := by rw [← hP]; simp
        have hPb : P ≤ 160000 := by rw [← hP]; exact Nat.mul_le_mul (show k ≤ 400 by omega) (show q ≤ 400 by omega)
        have ew : IntKind.i64.wrap ((k : Int) * (q : Int)) = (P : Int) := by rw [hPI]; exact IntWalk.i64_in _ (by omega)
        have HPP := Lib.hid hP
        clear hP hPI
        by_cases hP4 : 400 < P
        · rw [if_pos (.inr hP4)] at hr
          have HR := Lib.hid hr
          have hP5 : (400 : Int) < (P : Int) := by omega
          clear hr
          go_wp2
          refine retAE (B := w.heap.size) rfl rfl rfl rfl (HX.out.set5 _ _ _ _ _) ?_
          exact RetA.mk HR.out.symm (Sl.nil _) (fun _ _ _ h => by cases h) (below_set5 hb (Nat.le_refl _) _ _ _ _ _)
        · rw [if_neg (by omega)] at hr
          have HR := Lib.hid hr
          have hP5 : ¬ (400 : Int) < (P : Int) := by omega
          have htot : totR rs = P := by
            rw [totR_all rs (fun j hj => HP.out j (by rw [HL.out] at hj; exact hj)), HL.out]
            exact HPP.out
          have HTT := Lib.hid htot
          clear hr htot d0 f0 d1 f1
          have d1 : ∀ i, wr.cell? ⟨w.heap.size + 1, i, none⟩ = _ := Bx.cell HY.out
          have HX0 := HX
          have HY0 := HY
          have hb0 := hb
          go_wp2
          clear d1
          go_loopw [6] (fun i wr => ∃ (j M : Nat) (V : Option Addr) (vc : Nat), j ≤ k ∧ i = .int .i64 j ∧ Below w.heap.size w wr ∧ M ≤ 400 ∧ Hid (Bx wr w.heap.size #[.int .i64 0, .int .i64 0, .int .i64 0, .int .i64 0, .slice none 0 0] 25) ∧ Hid (Bx wr (w.heap.size + 1) #[.int .i64 1, .int .i64 2, .int .i64 k, .int .i64 q, .slice V M vc] 25) ∧ Hid (M = totR (rs.take j)) ∧ Hid (wr.ownsRow (w.heap.size + 1 + 1) 2 1 (.slice V M vc) M ((flatR (rs.take j)).map (Value.int .i64)))) (fun i _ => k - (intOf i).toNat)
          case atStart => exact ⟨0, 0, none, 0, Nat.zero_le _, rfl, hb0, by omega, HX0, HY0, Lib.hid rfl, Lib.hid (World.ownsRow_nil _ _ _ _)⟩
          case round =>
            clear HX HY hb HX0 HY0 hb0
            obtain ⟨j, M, V, vc, hj, rfl, hb, hM, HX, HY, HM, HO⟩ := hrel
            by_cases hlt : j < k
            · obtain ⟨bb, o, rfl, hbl, hx0, hS0⟩ := HS.out.at_ hlt
              have hS := hS0.step (bdr hb)
              clear hS0
              have hst := totR_succ (rs := rs) (j := j) (by rw [HL.out]; exact hlt)
              have hfl := flatR_succ (rs := rs) (j := j) (by rw [HL.out]; exact hlt)
              have hle := totR_le (rs := rs) (j + 1)
              rw [← HM.out] at hst
              rw [HTT.out] at hle
              generalize rs.getD j rowS0 = R0 at hx0 hS hst hfl
              obtain ⟨Ra, Rc, Rxs⟩ := R0
              simp only at hx0 hS hst hfl
              obtain ⟨l, hll⟩ : ∃ q, Rxs.length = q := ⟨_, rfl⟩
              rw [hll] at hx0 hst hS
              have hx : wr.drew.cell? ⟨bb, o + j, none⟩ = some (.slice Ra l Rc) := ((bdr hb).cell (p := ⟨bb, o + j, none⟩) hbl).trans hx0
              clear hx0
              have HST := Lib.hid hst
              have HFL := Lib.hid hfl
              have HSS := Lib.hid hS
              have hbig : M + l ≤ 400 := by omega
              have hj1 : (j : Int) < (k : Int) := by omega
              have hj0 : (0 : Int) ≤ (j : Int) := by omega
              have HOd := Lib.hid HO.out.drew
              have HYd := Lib.hid (show Bx wr.drew (w.heap.size + 1) #[.int .i64 1, .int .i64 2, .int .i64 k, .int .i64 q, .slice V M vc] 25 from HY.out)
              have HXd := Lib.hid (show Bx wr.drew w.heap.size #[.int .i64 0, .int .i64 0, .int .i64 0, .int .i64 0, .slice none 0 0] 25 from HX.out)
              have hbd := bdr hb
              have hzz := HY.out.lt
              have HBZ := Lib.hid (show w.heap.size + 1 + 1 ≤ wr.drew.heap.size from hzz)
              have d1 : ∀ i, wr.drew.cell? ⟨w.heap.size + 1, i, none⟩ = _ := Bx.cell HYd.out
              clear hst hle hll hS hfl
              go_wp2_with fail
              go_region_law (refine step_append_sl rfl _ _ rfl rfl (w.heap.size + 1 + 1) (.slice V M vc) M (flatR (rs.take j)) rfl HOd.out Ra l Rc Rxs rfl HSS.out (by omega) HBZ.out ?_; intro A2 c2 w2 hg; have HG := Lib.hid hg.1; have b2 : Below w.heap.size w w2 := hg.below hbd (fun k hk => by have := (HOd.out.lt k hk).1; omega); have Y2 : Bx w2 (w.heap.size + 1) #[.int .i64 1, .int .i64 2, .int .i64 k, .int .i64 q, .slice V M vc] 25 := Bx.grown HYd.out hg.2.2 (own_row_ne HOd.out HYd.out (by decide)); have X2 : Bx w2 w.heap.size #[.int .i64 0, .int .i64 0, .int .i64 0, .int .i64 0, .slice none 0 0] 25 := Bx.grown HXd.out hg.2.2 (own_row_ne HOd.out HXd.out (by decide)); have d2 : ∀ i, w2.cell? ⟨w.heap.size + 1, i, none⟩ = _ := Bx.cell Y2; have f2 : ∀ i, w2.frozen? ⟨w.heap.size + 1, i, none⟩ = false := Bx.frozen Y2; have p2 := Y2.lt; clear hg)
              all_goals
                go_wp2
                refine ⟨⟨j + 1, M + l, A2, c2, by omega, rfl, bsc b2 (by simp) _, hbig, Lib.hid (Bx.far X2 (by simp) _), Lib.hid (by simpa using Y2.set_ 4 (.slice A2 (M + l) c2)), Lib.hid HST.out.symm, ?_⟩, ?_⟩
                · rw [HFL.out]; exact Lib.hid (own_drop HG.out Y2 (by decide) _)
                · simp only [intOf]; omega
            · obtain rfl : j = k := by omega
              have d1 : ∀ i, wr.cell? ⟨w.heap.size + 1, i, none⟩ = _ := Bx.cell HY.out
              have d0 : ∀ i, wr.cell? ⟨w.heap.size, i, none⟩ = _ := Bx.cell HX.out
              have f0 : ∀ i, wr.frozen? ⟨w.heap.size, i, none⟩ = false := Bx.frozen HX.out
              have p0 := HX.out.lt
              have ht2 : rs.take j = rs := by rw [← HL.out]; exact List.take_length
              have hO := HO.out
              rw [ht2] at hO
              have HOO := Lib.hid hO
              clear hO
              go_wp2
              refine retAE (B := w.heap.size) rfl rfl rfl rfl (HX.out.set5 _ _ _ _ _) ?_
              obtain ⟨_, _, hv, hS, _⟩ := Sl.of_own HOO.out
              cases hv
              exact RetA.mk (by rw [← HR.out, xsOf_flat]) (hS.past5 _ _ _ _ _ fun b o e => own_ne' HOO.out HX.out (by decide) e) (fun b o s e => by have := New.of_own' HOO.out b o s e; omega) (below_set5 hb (Nat.le_refl _) _ _ _ _ _)
end Go.Proofs.YtimpdfafodaadaaDoor

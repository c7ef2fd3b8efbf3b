/-
  arrays.Matrix and the reference's.
-/
import Derived.Test.YtimpdfafodaadaaDoorCon
import Derived.Test.YtimpdfafodaadaaDoorChk
import Derived.Deep.RegionLaw
namespace Go.Proofs.YtimpdfafodaadaaDoor
open Go.RowKit
attribute [local go_sem] Oper.semAt_some

theorem sl_far {w : World} {A : Option Addr} {n c : Nat} {xs : List Int} (h : Sl w A n c xs) {p : Addr} (u : Value) (hp : ∀ b o, A = some ⟨b, o, none⟩ → b ≠ p.block) : Sl (w.setCell p u) A n c xs := by
  obtain ⟨h1, h2, h3, h4⟩ := h
  refine ⟨h1, h2, h3, fun hn => ?_⟩
  obtain ⟨b, o, hA, hlt, hc⟩ := h4 hn
  exact ⟨b, o, hA, by simpa [World.setCell] using hlt, fun j hj => (World.cell?_of_block (w := w) (Below.heap_setCell w p u b (hp b o hA))).trans (hc j hj)⟩
def sMatrix (ls : List (List Int)) : Arr × Int :=
  if 400 < ls.length then (zA, 15)
  else if ls.any (fun l => l.length != (ls.getD 0 []).length) = true then (zA, 11)
  else if 400 < (ls.getD 0 []).length ∨ 400 < ls.length * (ls.getD 0 []).length then (zA, 15)
  else (⟨1, 2, ls.length, (ls.getD 0 []).length, ls.flatten⟩, 0)
def xsOf (rs : List RowS) : List (List Int) := rs.map fun r => r.xs
theorem xsOf_len (rs : List RowS) : (xsOf rs).length = rs.length := by simp [xsOf]
theorem xsOf_zero (rs : List RowS) : (xsOf rs).getD 0 [] = (rs.getD 0 rowS0).xs := by
  cases rs with
  | nil => rfl
  | cons r rs => rfl
theorem xsOf_flat (rs : List RowS) : (xsOf rs).flatten = flatR rs := by
  simp [xsOf, flatR, List.flatMap_def]
theorem any_off {rs : List RowS} {q j : Nat} (hj : j < rs.length) (h : (rs.getD j rowS0).xs.length ≠ q) : (xsOf rs).any (fun l => l.length != q) = true := by
  rw [List.any_eq_true]
  refine ⟨(rs.getD j rowS0).xs, ?_, by simpa using h⟩
  exact List.mem_map.2 ⟨_, getDR_mem hj, rfl⟩
theorem all_on {rs : List RowS} {q : Nat} (h : ∀ j, j < rs.length → (rs.getD j rowS0).xs.length = q) : (xsOf rs).any (fun l => l.length != q) = false := by
  rw [List.any_eq_false]
  intro l hl
  obtain ⟨r, hr, rfl⟩ := List.mem_map.1 hl
  obtain ⟨j, hj, rfl⟩ := List.mem_iff_getElem.1 hr
  have := h j hj
  rw [List.getD, List.getElem?_eq_getElem hj] at this
  simpa using this
theorem totR_all {q : Nat} : ∀ (rs : List RowS), (∀ j, j < rs.length → (rs.getD j rowS0).xs.length = q) → totR rs = rs.length * q := by
  intro rs
  induction rs with
  | nil => intro _; simp [totR]
  | cons r rs ih =>
    intro h
    have h0 : r.xs.length = q := h 0 (by simp)
    have h1 := ih fun j hj => h (j + 1) (by simpa using hj)
    have h2 : totR (r :: rs) = r.xs.length + totR rs := by simp [totR]
    rw [h2, h0, h1, List.length_cons, Nat.succ_mul, Nat.add_comm]
theorem shp_two (m q : Nat) (hm : m ≤ 400) : shp 2 m q = if 400 < q ∨ 400 < m * q then 15 else 0 := by
  have hp : prodI 2 (m : Int) (q : Int) = ((m * q : Nat) : Int) := by simp [prodI]
  unfold shp
  rw [hp, if_neg (by omega), if_neg (by omega), if_neg (by omega)]
  by_cases h : 400 < q ∨ 400 < m * q
  · rw [if_pos h, if_pos (by omega)]
  · rw [if_neg h, if_neg (by omega)]

set_option maxHeartbeats 4000000 in
theorem aMatrix_any (A : Option Addr) (n c : Nat) (rs : List RowS) (R : Arr × Int) (w : World) (hs : SlR w A n c rs) (h : sMatrix (xsOf rs) = R) :
    Calls Tryd.prog 24 #[.slice A n c] w (RetA w R) := by
  have HS := Lib.hid hs
  have hcap := hs.2.1
  have hmost := hs.2.2.1
  have hmost' : c ≤ 9223372036854775807 := by unfold maxLen at hmost; omega
  have hl := hs.1
  unfold sMatrix at h
  rw [xsOf_len, xsOf_zero, hl] at h
  have HL := Lib.hid hl
  clear hs hmost hl
  by_cases h4 : 400 < n
  · rw [if_pos h4] at h
    have HR := Lib.hid h
    have h4' : (400 : Int) < (n : Int) := by omega
    clear h
    go_enter Tryd.func24, Tryd.ntmps24
    go_wp2
    refine retAE (B := w.heap.size) rfl rfl rfl rfl (Bx.new _ _ _) ?_
    exact RetA.mk HR.out.symm (Sl.nil _) (fun _ _ _ h => by cases h) (below1 _ _)
  rw [if_neg h4] at h
  have h4' : ¬ (400 : Int) < (n : Int) := by omega
  obtain ⟨q, hq⟩ : ∃ q, (rs.getD 0 rowS0).xs.length = q := ⟨_, rfl⟩
  rw [hq] at h
  have HR := Lib.hid h
  have HQ := Lib.hid hq
  clear h hq
  go_enter Tryd.func24, Tryd.ntmps24
  go_wp2
  go_loopw [15, 5, 6] (fun i x y wr => ∃ (k : Nat) (a b : Int), k ≤ n ∧ i = .int .i64 k ∧ Below w.heap.size w wr ∧ Hid (Bx wr w.heap.size #[.int .i64 0, .int .i64 0, .int .i64 0, .int .i64 0, .slice none 0 0] 25) ∧ Hid (Bx wr (w.heap.size + 1) #[.int .i64 1, .int .i64 2, .int .i64 a, .int .i64 b, .slice none 0 0] 25) ∧ Hid (a = k) ∧ Hid (b = if k = 0 then 0 else (q : Int)) ∧ Hid (∀ j, j < k → (rs.getD j rowS0).xs.length = q)) (fun i _ _ _ => n - (intOf i).toNat)
  case atStart => exact ⟨0, 0, 0, Nat.zero_le _, rfl, below2 _ _ _, Lib.hid ((Bx.new _ _ _).alloc _), Lib.hid (by have := Bx.new (w.alloc (.cells #[.int .i64 0, .int .i64 0, .int .i64 0, .int .i64 0, .slice none 0 0] 25)) #[.int .i64 1, .int .i64 2, .int .i64 0, .int .i64 0, .slice none 0 0] 25; rwa [World.size_alloc] at this), Lib.hid rfl, Lib.hid rfl, Lib.hid (fun j hj => absurd hj (Nat.not_lt_zero _))⟩
  case round =>
    obtain ⟨k, a, b, hk, rfl, hb, HX, HY, HA, HBB, HP⟩ := hrel
    have hz := HY.out.lt
    by_cases hlt : k < n
    · obtain ⟨bb, o, hA, hbl, hx, hS⟩ := (HS.out.step hb).at_ hlt
      obtain ⟨bb', o', hA', hbl', hx0, hS0⟩ := (HS.out.step hb).at_ (show 0 < n by omega)
      subst hA
      cases hA'
      rw [HQ.out, Nat.add_zero] at hx0
      have hqc := hS0.cap
      have hqm := hS0.most
      rw [HQ.out] at hqc
      obtain ⟨l, hll⟩ : ∃ l, (rs.getD k rowS0).xs.length = l := ⟨_, rfl⟩
      rw [hll] at hx
      have hlc := hS.cap
      have hlm := hS.most
      rw [hll] at hlc
      have HLL := Lib.hid hll
      have hk1 : (k : Int) < (n : Int) := by omega
      have hk0 : (0 : Int) < (n : Int) := by omega
      have f1 : ∀ i, wr.frozen? ⟨w.heap.size + 1, i, none⟩ = false := Bx.frozen HY.out
      have d1 : ∀ i, wr.cell? ⟨w.heap.size + 1, i, none⟩ = _ := Bx.cell HY.out
      have f0 : ∀ i, wr.frozen? ⟨w.heap.size, i, none⟩ = false := Bx.frozen HX.out
      have d0 : ∀ i, wr.cell? ⟨w.heap.size, i, none⟩ = _ := Bx.cell HX.out
      generalize (rs.getD k rowS0).a = ra at hx
      generalize (rs.getD k rowS0).c = rc at hx hlc hlm
      generalize (rs.getD 0 rowS0).a = ra0 at hx0
      generalize (rs.getD 0 rowS0).c = rc0 at hx0 hqc hqm
      clear hll hS hS0
      by_cases hlq : l = q
      · subst hlq
        have hll2 : ((l : Int) != (l : Int)) = false := by simp
        go_wp2
        refine ⟨⟨k + 1, (k : Int) + 1, l, by omega, rfl, bsc (bsc hb (by simp) _) (by simp) _, Lib.hid (Bx.far (Bx.far HX.out (by simp) _) (by simp) _), Lib.hid ?_, Lib.hid rfl, Lib.hid (by simp), Lib.hid ?_⟩, ?_⟩
        · have := (HY.out.set_ 2 (.int .i64 ((k : Int) + 1))).set_ 3 (.int .i64 (l : Int))
          simpa using this
        · intro j hj
          by_cases e : j = k
          · subst e; exact HLL.out
          · exact HP.out j (by omega)
        · simp only [intOf]; omega
      · have hr := HR.out
        rw [if_pos (any_off (by rw [HL.out]; exact hlt) (by rw [HLL.out]; exact hlq))] at hr
        subst hr
        have hne : ((l : Int) != (q : Int)) = true := by simp; omega
        clear HR hlq
        go_wp2
        refine retAE (B := w.heap.size) rfl rfl rfl rfl (HX.out.set5 _ _ _ _ _) ?_
        exact RetA.mk rfl (Sl.nil _) (fun _ _ _ h => by cases h) (below_set5 hb (Nat.le_refl _) _ _ _ _ _)
    · obtain rfl : k = n := by omega
      have hr := HR.out
      rw [if_neg (by rw [all_on (fun j hj => HP.out j (by rw [HL.out] at hj; exact hj))]; simp)] at hr
      have hbq : b = q := by
        rw [HBB.out]
        by_cases h0 : k = 0
        · subst h0
          have hnil : rs = [] := List.eq_nil_of_length_eq_zero HL.out
          have := HQ.out
          rw [hnil] at this
          have hq0 : q = 0 := this.symm
          rw [if_pos rfl, hq0]; rfl
        · rw [if_neg h0]
      have haq := HA.out
      subst haq
      subst hbq
      have hsp := shp_two k q (by omega)
      have f1 : ∀ i, wr.frozen? ⟨w.heap.size + 1, i, none⟩ = false := Bx.frozen HY.out
      have d1 : ∀ i, wr.cell? ⟨w.heap.size + 1, i, none⟩ = _ := Bx.cell HY.out
      clear HA HBB HR
      by_cases hbad : 400 < q ∨ 400 < k * q
      · rw [if_pos hbad] at hr hsp
        have HSP := Lib.hid hsp
        have HR := Lib.hid hr
        have hk0 : 0 < k := by
          rcases Nat.eq_zero_or_pos k with h0 | h0
          · subst h0
            have hnil : rs = [] := List.eq_nil_of_length_eq_zero HL.out
            have := HQ.out
            rw [hnil] at this
            have hq0 : q = 0 := this.symm
            subst hq0
            simp at hbad
          · exact h0
        have hk0' : (0 : Int) < (k : Int) := by omega
        clear hsp hr hbad
        go_wp2_with fail
        refine (check_any 2 k q 15 _ HSP.out).mono ?_
        rintro e w1 ⟨rfl, hb1⟩
        have X1 := HX.out.step hb1
        have b1 := bst hb hb1
        have e0 : ∀ i, w1.cell? ⟨w.heap.size, i, none⟩ = _ := Bx.cell X1
        have g0 : ∀ i, w1.frozen? ⟨w.heap.size, i, none⟩ = false := Bx.frozen X1
        have p0 := X1.lt
        clear d1 f1
        go_wp2
        refine retAE (B := w.heap.size) rfl rfl rfl rfl (X1.set5 _ _ _ _ _) ?_
        exact RetA.mk HR.out.symm (Sl.nil _) (fun _ _ _ h => by cases h) (below_set5 b1 (Nat.le_refl _) _ _ _ _ _)
      · rw [if_neg hbad] at hr hsp
        have HSP := Lib.hid hsp
        have HR := Lib.hid hr
        have htot : totR rs ≤ 1000000 := by
          rw [totR_all rs (fun j hj => HP.out j (by rw [HL.out] at hj; exact hj)), HL.out]
          omega
        have HTT := Lib.hid htot
        have hk4 : k ≤ 1000000 := by omega
        clear hsp hr hbad htot
        go_wp2_with fail
        refine (check_any 2 k q 0 _ HSP.out).mono ?_
        rintro e w1 ⟨rfl, hb1⟩
        have X1 := HX.out.step hb1
        have Y1 := HY.out.step hb1
        have b1 := bst hb hb1
        clear d1 f1
        have hkk : (0 : Int) < (k : Int) ∨ ¬ (0 : Int) < (k : Int) := by omega
        rcases hkk with hkk | hkk
        all_goals
          go_wp2_with fail
          refine (concat_any A k c rs _ (HS.out.step b1) hk4 HTT.out).mono ?_
          rintro e w2 ⟨⟨A2, n2, c2, rfl, hS2, hO2⟩, hb2⟩
          have X2 := X1.step hb2
          have Y2 := Y1.step hb2
          have b2 := bst b1 hb2
          have e0 : ∀ i, w2.cell? ⟨w.heap.size, i, none⟩ = _ := Bx.cell X2
          have g0 : ∀ i, w2.frozen? ⟨w.heap.size, i, none⟩ = false := Bx.frozen X2
          have e1 : ∀ i, w2.cell? ⟨w.heap.size + 1, i, none⟩ = _ := Bx.cell Y2
          have g1 : ∀ i, w2.frozen? ⟨w.heap.size + 1, i, none⟩ = false := Bx.frozen Y2
          have p0 := X2.lt
          have p1 := Y2.lt
          have p2 := Y1.lt
          have HS2 := Lib.hid hS2
          have HN2 := Lib.hid (New.of_own (w0 := w1) hO2)
          clear hS2 hO2
          go_wp2
          refine retAE (B := w.heap.size) rfl rfl rfl rfl ((X2.far (p := ⟨w.heap.size + 1, 4, none⟩) (by simp) _).set5 _ _ _ _ _) ?_
          refine RetA.mk (by rw [← HR.out, xsOf_flat]) ((sl_far HS2.out (p := ⟨w.heap.size + 1, 4, none⟩) _ (fun b o e => by have := HN2.out b o none e; simp; omega)).past5 _ _ _ _ _ fun b o e => by have := HN2.out b o none e; omega) (HN2.out.mono b1.size) (below_set5 (bsc b2 (by simp) _) (Nat.le_refl _) _ _ _ _ _)
end Go.Proofs.YtimpdfafodaadaaDoor

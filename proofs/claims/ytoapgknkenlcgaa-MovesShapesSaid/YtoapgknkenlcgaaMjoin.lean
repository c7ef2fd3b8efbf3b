/-
  Plain laws of Cat: joined in either order; turned round. No program in sight.
-/
import Derived.Test.YtoapgknkenlcgaaMcatz
namespace Go.Proofs.Ytoapgknkenlcgaa
open Go.RowKit

theorem okA_one {a : Arr} {m q m' q' : Nat} (h : okA a m q) (h' : okA a m' q') : m = m' ∧ q = q' := by
  obtain ⟨_, _, _, _, h5⟩ := h
  obtain ⟨_, _, _, _, g5⟩ := h'
  rcases h5 with ⟨e1, e2, e3, e4⟩ | ⟨e1, e2, e3⟩ <;> rcases g5 with ⟨f1, f2, f3, f4⟩ | ⟨f1, f2, f3⟩ <;> omega
theorem catL_rows {xs ys : List Int} {m q q' : Nat} (hx : xs.length = m * q) (hy : ys.length = m * q') : ∀ i, i < m → ((xs.drop (i * q)).take q ++ (ys.drop (i * q')).take q').length = q + q' := fun i hi => by
  rw [List.length_append, rowOf_len hx hi, rowOf_len hy hi]
theorem catL_len {xs ys : List Int} {m q q' : Nat} (hx : xs.length = m * q) (hy : ys.length = m * q') : (catL xs ys q q' (List.range m)).length = m * (q + q') := flat_len (catL_rows hx hy)
theorem catL_row {xs ys : List Int} {m q q' i : Nat} (hx : xs.length = m * q) (hy : ys.length = m * q') (hi : i < m) : ((catL xs ys q q' (List.range m)).drop (i * (q + q'))).take (q + q') = (xs.drop (i * q)).take q ++ (ys.drop (i * q')).take q' :=
  flat_row (catL_rows hx hy) hi
theorem flat_congr {m : Nat} {f g : Nat → List Int} (h : ∀ i, i < m → f i = g i) : (List.range m).flatMap f = (List.range m).flatMap g := by
  induction m with
  | zero => rfl
  | succ m ih => rw [flat_succ, flat_succ, ih (fun i hi => h i (by omega)), h m (by omega)]
theorem catL_assoc {xs ys zs : List Int} {m q q' q2 : Nat} (hx : xs.length = m * q) (hy : ys.length = m * q') (hz : zs.length = m * q2) :
    catL (catL xs ys q q' (List.range m)) zs (q + q') q2 (List.range m) = catL xs (catL ys zs q' q2 (List.range m)) q (q' + q2) (List.range m) :=
  flat_congr fun i hi => by rw [catL_row hx hy hi, catL_row hy hz hi, List.append_assoc]
theorem rv_row {xs : List Int} {m q i : Nat} (hx : xs.length = m * q) (hi : i < m) : ((rv m q xs).drop (i * q)).take q = ((xs.drop (i * q)).take q).reverse := flat_row (rv_rows hx) hi
theorem catL_rev {xs ys : List Int} {m q q' : Nat} (hx : xs.length = m * q) (hy : ys.length = m * q') : catL (rv m q' ys) (rv m q xs) q' q (List.range m) = rv m (q + q') (catL xs ys q q' (List.range m)) :=
  flat_congr fun i hi => by rw [rv_row hx hi, rv_row hy hi, catL_row hx hy hi, List.reverse_append]
theorem catL_mem {xs ys : List Int} {q q' : Nat} {js : List Nat} {x : Int} (h : x ∈ catL xs ys q q' js) : x ∈ xs ∨ x ∈ ys := by
  unfold catL at h
  obtain ⟨i, _, h⟩ := List.mem_flatMap.1 h
  rcases List.mem_append.1 h with h | h
  · exact .inl (List.mem_of_mem_drop (List.mem_of_mem_take h))
  · exact .inr (List.mem_of_mem_drop (List.mem_of_mem_take h))
theorem catA_k {a b : Arr} {m q q' : Nat} : (catA a b m q q').k = a.k := by unfold catA; split <;> rfl
theorem catA_c {a b : Arr} {m q q' : Nat} : (catA a b m q q').c = catL a.c b.c q q' (List.range m) := by unfold catA; split <;> rfl
theorem catA_r {a b : Arr} {m q q' : Nat} (ha : okA a m q) : (catA a b m q q').r = a.r := by
  obtain ⟨_, _, _, _, h5⟩ := ha
  unfold catA
  rcases h5 with ⟨e1, _⟩ | ⟨e1, _⟩
  · rw [if_pos e1, e1]
  · rw [if_neg (by omega), e1]
theorem shp_vec {N : Nat} (h : N ≤ 400) : shp 1 (N : Int) 0 = 0 := by
  unfold shp prodI
  rw [if_neg (by omega), if_neg (by omega), if_neg (by omega), if_neg]
  rw [if_neg (by omega), if_pos rfl]
  omega
theorem shp_mat {m p q : Nat} (h1 : m ≤ 400) (h2 : p + q ≤ 400) (h3 : (m : Int) * ((p : Int) + (q : Int)) ≤ 400) : shp 2 (m : Int) ((p : Int) + (q : Int)) = 0 := by
  unfold shp prodI
  rw [if_neg (by omega), if_neg (by omega), if_neg (by omega), if_neg]
  rw [if_pos rfl]
  omega
theorem okA_cat {a b : Arr} {m q q' : Nat} (ha : okA a m q) (hb : okA b m q') (hk : a.k = b.k) (hr : a.r = b.r) (h1 : a.c.length + b.c.length ≤ 400) (h2 : q + q' ≤ 400) : okA (catA a b m q q') m (q + q') := by
  have hL := catL_len (xs := a.c) (ys := b.c) ha.2.1 hb.2.1
  have hmem : ∀ x ∈ catL a.c b.c q q' (List.range m), rightB a.k x = true := fun x hx => by
    rcases catL_mem hx with h | h
    · exact achk_all ha.1 x h
    · rw [hk]; exact achk_all hb.1 x h
  have hmq : m * (q + q') ≤ 400 := by rw [Nat.mul_add, ← ha.2.1, ← hb.2.1]; exact h1
  obtain ⟨ha1, ha2, ha3, ha4, ha5⟩ := ha
  obtain ⟨hb1, hb2, hb3, hb4, hb5⟩ := hb
  obtain ⟨hk1, _, _, _⟩ := achk_ok ha1
  refine ⟨?_, by rw [catA_c]; exact hL, ha3, h2, ?_⟩
  · unfold catA
    rcases ha5 with ⟨e1, e2, e3, e4⟩ | ⟨e1, e2, e3⟩
    · rw [if_pos e1]
      refine achk_mk hk1 ?_ ?_ hmem
      · exact shp_vec (by omega)
      · simp only
        rw [hL]
        simp [prodI]
    · rw [if_neg (by omega)]
      refine achk_mk hk1 ?_ ?_ hmem
      · have : (m : Int) * ((q : Int) + (q' : Int)) = ((m * (q + q') : Nat) : Int) := by simp
        exact shp_mat ha3 h2 (by rw [this]; omega)
      · simp only
        rw [hL]
        simp [prodI]
  · unfold catA
    rcases ha5 with ⟨e1, e2, e3, e4⟩ | ⟨e1, e2, e3⟩
    · rw [if_pos e1]
      exact .inl ⟨rfl, e2, by simp only; subst e2; simp, rfl⟩
    · rw [if_neg (by omega)]
      exact .inr ⟨rfl, rfl, by simp⟩
/-- An array turned round. -/
def revA (a : Arr) (m q : Nat) : Arr := ⟨a.k, a.r, a.l0, a.l1, rv m q a.c⟩
theorem okA_rev {a : Arr} {m q : Nat} (ha : okA a m q) : okA (revA a m q) m q :=
  ⟨rv_chk ha.1 ha.2.1, rv_len ha.2.1, ha.2.2.1, ha.2.2.2.1, ha.2.2.2.2⟩
theorem rev_ok {a : Arr} {m q : Nat} (ha : okA a m q) (hr0 : a.r ≠ 0) : sReverse a = (revA a m q, 0) := sReverse_ok ha.1 hr0 ha.2.2.2.2
/-- What Cat answers of an array that is joined already: too many cells, or their joint. -/
theorem sCat_two {a b : Arr} {m q q' : Nat} (ha : okA a m q) (hb : okA b m q') (hk : a.k = b.k) (hr : a.r = b.r) (hr0 : a.r ≠ 0) :
    sCat a b = if 400 < a.c.length + b.c.length ∨ 400 < q + q' then (zA, 15) else (catA a b m q q', 0) := by
  by_cases h : 400 < a.c.length + b.c.length ∨ 400 < q + q'
  · rw [if_pos h]
    have he : catE a b = 15 := by
      obtain ⟨ha1, ha2, ha3, ha4, ha5⟩ := ha
      obtain ⟨hb1, hb2, hb3, hb4, hb5⟩ := hb
      have ca : chkA a = 0 := ha1
      have cb : chkA b = 0 := hb1
      unfold catE
      rw [if_neg (by rw [ca, cb]; decide), if_neg (fun h => h hk), if_neg (fun h => h.elim (fun h => h hr) hr0)]
      have hcol : colsN a + colsN b = q + q' := by
        unfold colsN
        rcases ha5 with ⟨e1, e2, e3, e4⟩ | ⟨e1, e2, e3⟩ <;> rcases hb5 with ⟨f1, f2, f3, f4⟩ | ⟨f1, f2, f3⟩
        · rw [if_neg (by omega), if_neg (by omega)]; omega
        · omega
        · omega
        · rw [if_pos e1, if_pos f1]; omega
      rw [if_neg (by rcases ha5 with ⟨e1, e2, e3, e4⟩ | ⟨e1, e2, e3⟩ <;> rcases hb5 with ⟨f1, f2, f3, f4⟩ | ⟨f1, f2, f3⟩ <;> omega), hcol, if_pos h]
    rw [sCat_err (by rw [he]; decide), he]
  · rw [if_neg h]
    exact sCat_ok ha hb hk hr hr0 (by omega) (by omega)
theorem arr_ext {a b : Arr} (h1 : a.k = b.k) (h2 : a.r = b.r) (h3 : a.l0 = b.l0) (h4 : a.l1 = b.l1) (h5 : a.c = b.c) : a = b := by
  cases a; cases b; simp_all
theorem catA_assoc {a b d : Arr} {m q q' q2 : Nat} (ha : okA a m q) (hb : okA b m q') (hd : okA d m q2) (hr : a.r = b.r) :
    catA (catA a b m q q') d m (q + q') q2 = catA a (catA b d m q' q2) m q (q' + q2) := by
  have hr1 := catA_r (b := b) (q' := q') ha
  have h1 : catL (catA a b m q q').c d.c (q + q') q2 (List.range m) = catL a.c (catA b d m q' q2).c q (q' + q2) (List.range m) := by
    rw [catA_c, catA_c]
    exact catL_assoc ha.2.1 hb.2.1 hd.2.1
  unfold catA at h1 ⊢
  rcases ha.2.2.2.2 with ⟨e1, _⟩ | ⟨e1, _⟩
  · simp only [e1, if_true, hr ▸ e1] at h1 ⊢
    rw [h1]
    simp [Nat.add_assoc]
  · have e2 : ¬ a.r = 1 := by omega
    have e3 : ¬ b.r = 1 := by omega
    simp only [e2, e3, if_false] at h1 ⊢
    have e4 : ¬ ((2 : Int) = 1) := by decide
    simp only [e4, if_false] at h1 ⊢
    rw [h1]
    simp [Int.add_assoc]
/-- Cat joins in either order. -/
theorem sCat_assoc {a b d : Arr} {m q q' q2 : Nat} (ha : okA a m q) (hb : okA b m q') (hd : okA d m q2) (hk : a.k = b.k) (hr : a.r = b.r) (hk2 : b.k = d.k) (hr2 : b.r = d.r) (hr0 : a.r ≠ 0)
    (h1 : a.c.length + b.c.length ≤ 400) (h2 : q + q' ≤ 400) (h3 : b.c.length + d.c.length ≤ 400) (h4 : q' + q2 ≤ 400) : sCat (catA a b m q q') d = sCat a (catA b d m q' q2) := by
  have hab := okA_cat ha hb hk hr h1 h2
  have hbd := okA_cat hb hd hk2 hr2 h3 h4
  rw [sCat_two hab hd (by rw [catA_k]; exact hk.trans hk2) (by rw [catA_r ha]; exact hr.trans hr2) (by rw [catA_r ha]; exact hr0),
    sCat_two ha hbd (by rw [catA_k]; exact hk) (by rw [catA_r hb]; exact hr) hr0, catA_assoc ha hb hd hr]
  have e1 := hab.2.1
  have e2 := hbd.2.1
  rw [Nat.mul_add, ← ha.2.1, ← hb.2.1] at e1
  rw [Nat.mul_add, ← hb.2.1, ← hd.2.1] at e2
  rw [e1, e2]
  have e3 : (400 < a.c.length + b.c.length + d.c.length ∨ 400 < q + q' + q2) = (400 < a.c.length + (b.c.length + d.c.length) ∨ 400 < q + (q' + q2)) := by rw [Nat.add_assoc, Nat.add_assoc]
  simp only [e3]
/-- Reverse of Cat is Cat of the reverses in the other order. -/
theorem sCat_rev {a b : Arr} {m q q' : Nat} (ha : okA a m q) (hb : okA b m q') (hk : a.k = b.k) (hr : a.r = b.r) (hr0 : a.r ≠ 0) (h1 : a.c.length + b.c.length ≤ 400) (h2 : q + q' ≤ 400) :
    sCat (revA b m q') (revA a m q) = (revA (catA a b m q q') m (q + q'), 0) := by
  have la : (revA a m q).c.length = a.c.length := (rv_len ha.2.1).trans ha.2.1.symm
  have lb : (revA b m q').c.length = b.c.length := (rv_len hb.2.1).trans hb.2.1.symm
  rw [sCat_ok (okA_rev hb) (okA_rev ha) hk.symm hr.symm (show b.r ≠ 0 by rw [← hr]; exact hr0) (by rw [la, lb]; omega) (by omega)]
  congr 1
  have h3 := catL_rev (xs := a.c) (ys := b.c) ha.2.1 hb.2.1
  unfold catA revA
  simp only
  rcases ha.2.2.2.2 with ⟨e1, _⟩ | ⟨e1, _⟩
  · have e2 : b.r = 1 := by omega
    simp only [e1, e2, if_true]
    rw [h3, hk, Nat.add_comm q' q]
  · have e2 : ¬ a.r = 1 := by omega
    have e3 : ¬ b.r = 1 := by omega
    simp only [e2, e3, if_false]
    rw [h3, hk, Int.add_comm]
end Go.Proofs.Ytoapgknkenlcgaa

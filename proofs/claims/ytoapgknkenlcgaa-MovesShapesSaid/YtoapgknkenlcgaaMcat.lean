/-
  moves.Cat, where it does not fail.
-/
import Derived.Test.YtoapgknkenlcgaaMcate
import Derived.Test.YtoapgknkenlcgaaMrng
import Derived.Test.YtoapgknkenlcgaaApp2
import Derived.Test.YtoapgknkenlcgaaRound
import Derived.Test.YtoapgknkenlcgaaLback
namespace Go.Proofs.Ytoapgknkenlcgaa
open Go.RowKit Go.Shelf
attribute [local go_sem] Oper.semAt_some

theorem runAppendSl (w : World) (base : Nat) (v : Value) (n : Nat) (xs : List Int) (hown : w.ownsRow base 2 1 v n (xs.map (Value.int .i64)))
    (A : Option Addr) (m c : Nat) (ys : List Int) (hr : Sl w A m c ys) (hbig : n + m ≤ 10000000) (hbase : base ≤ w.heap.size) :
    ∃ A' c' w', (Builtin.append_ #[23, 23] 23 #[v, .slice A m c]).run Try.prog w = .ok (.slice A' (n + m) c') w' ∧ Grew w w' base v (n + m) (xs ++ ys) A' c' := by
  obtain ⟨i0, hi, hz0, hz1, hz2⟩ := info_parts infoI64
  cases A with
  | none =>
    have h0 : m = 0 := by
      rcases Nat.eq_zero_or_pos m with h | h
      · exact h
      · obtain ⟨b, o, hA, _⟩ := hr.at_ h
        cases hA
    subst h0
    obtain rfl : ys = [] := List.eq_nil_of_length_eq_zero hr.len
    have hrun := runAppendNil w base n _ v c hown
    obtain ⟨A', c', rfl, hS, _⟩ := Sl.of_own hown
    exact ⟨A', c', w, hrun, by simpa using hown, by simpa using hS, World.grownBy.refl w _⟩
  | some ad =>
    obtain ⟨v', w', hrun, hown', hg, _⟩ := run_append_own (P := Try.prog) w base 23 23 2 i0 (.int .i64 0) 1 8 Try.underlying23 hi hz0 hz1 hz2 rfl (by decide) v n _ hown ad m c (ys.map (Value.int .i64)) (by simpa using hr.len) (by
      intro j u hj
      have hjn : j < m := by
        have := (List.getElem?_eq_some_iff.1 hj).1
        simp at this
        rw [hr.len] at this
        exact this
      obtain ⟨b, o, hA, hlt, hc⟩ := hr.at_ hjn
      simp only [Option.some.injEq] at hA
      subst hA
      rw [map_getD (by rw [hr.len]; exact hjn)] at hj
      rw [Addr.add_lit, hc, hj]) (ints_oneCell _ _) (by unfold maxLen; omega) (by omega) hbase
    have hown2 : w'.ownsRow base 2 1 v' (n + m) ((xs ++ ys).map (Value.int .i64)) := by simpa using hown'
    obtain ⟨A', c', rfl, hS, _⟩ := Sl.of_own hown2
    exact ⟨A', c', w', hrun, hown2, hS, hg⟩

/-- Some rows of two lists, side by side. -/
def catL (xs ys : List Int) (q q' : Nat) (js : List Nat) : List Int := js.flatMap fun i => (xs.drop (i * q)).take q ++ (ys.drop (i * q')).take q'
theorem catL_snoc (xs ys : List Int) (q q' : Nat) (js : List Nat) (i : Nat) : catL xs ys q q' (js ++ [i]) = catL xs ys q q' js ++ (xs.drop (i * q)).take q ++ (ys.drop (i * q')).take q' := by
  simp [catL]
theorem Sl.putD {w : World} {A : Option Addr} {n c D : Nat} {xs : List Int} (h : Sl w A n c xs) {o : Option (List Deferred)} (hK : w.heap[D]? = some (.deferred o)) (o' : Obj) : Sl (w.putObj D o') A n c xs := by
  obtain ⟨h1, h2, h3, h4⟩ := h
  refine ⟨h1, h2, h3, fun hn => ?_⟩
  obtain ⟨b, o2, hA, hlt, hc⟩ := h4 hn
  have hbD : b ≠ D := fun e => by
    have h0 := hc 0 hn
    rw [e] at h0
    simp [World.cell?, hK] at h0
  exact ⟨b, o2, hA, by simpa using hlt, fun j hj => (World.cell?_of_block (w := w) (a := ⟨b, o2 + j, none⟩) (World.putObj_heap_other hbD)).trans (hc j hj)⟩
theorem own_new {w w0 : World} {base n c : Nat} {A : Option Addr} {xs : List Value} (h : w.ownsRow base 2 1 (.slice A n c) n xs) (hb : w0.heap.size ≤ base) : New w0 A := by
  intro b o s hA
  subst hA
  rcases h.2 with ⟨h1, _⟩ | ⟨g, cap, cur, h1, hg, _⟩
  · cases h1
  · simp only [Value.slice.injEq, Option.some.injEq, Addr.mk.injEq] at h1
    omega
theorem own_keeps {w w' : World} {base n : Nat} {v : Value} {xs : List Value} {row : Option Nat} (h : w.ownsRow base 2 1 v n xs) (hg : w.grownBy w' row) (hr : ∀ r, row = some r → ∃ o : Obj, w.heap[r]? = some o ∧ o.isCells = false) : w'.ownsRow base 2 1 v n xs := by
  rcases h.2 with ⟨rfl, rfl⟩ | ⟨g, cap, cur, rfl, _, hb, _⟩
  · exact h.kept hg (.inl rfl)
  · refine h.kept hg (.inr fun e => ?_)
    obtain ⟨o, ho, hc⟩ := hr g e.symm
    rw [hb] at ho
    cases ho
    cases hc
/-- A row of integers does not lie in a box of another type. -/
theorem own_ne {w : World} {base n B : Nat} {v : Value} {xs : List Value} {cs : Array Value} {T : TypeId} (h : w.ownsRow base 2 1 v n xs) (hB : Bx w B cs T) (hT : T ≠ 2) : some B ≠ v.ownBlock := by
  rcases h.2 with ⟨rfl, rfl⟩ | ⟨g, cap, cur, rfl, _, hb, _⟩
  · intro e; cases e
  · intro e
    simp only [Value.ownBlock, Option.some.injEq] at e
    subst e
    have h' : w.heap[B]? = some (.cells cs T (0, 0)) := hB
    rw [h'] at hb
    simp only [Option.some.injEq, Obj.cells.injEq] at hb
    exact hT hb.2.1
theorem own_others {w w' : World} {base n : Nat} {v : Value} {xs : List Value} (h : w.ownsRow base 2 1 v n xs) (hg : w.grownBy w' v.ownBlock) : KeepsOthers w w' := by
  refine ⟨hg.size, fun k o hk hc => ?_⟩
  refine (hg.block k (Array.getElem?_eq_some_iff.1 hk).1 fun e => ?_).trans hk
  rcases h.2 with ⟨rfl, rfl⟩ | ⟨g, cap, cur, rfl, _, hb, _⟩
  · cases e
  · simp only [Value.ownBlock, Option.some.injEq] at e
    subst e
    rw [hb] at hk
    cases hk
    cases hc

set_option maxRecDepth 100000 in
set_option maxHeartbeats 8000000 in
theorem mCat_ok (k r l0 l1 : Int) (A : Option Addr) (n c : Nat) (xs : List Int) (l0' l1' : Int) (A' : Option Addr) (n' c' : Nat) (ys : List Int) (m q q' : Nat) (R : Arr × Int) (w : World)
    (hs : Sl w A n c xs) (hs' : Sl w A' n' c' ys) (h1 : achk k r l0 l1 xs = 0) (h2 : achk k r l0' l1' ys = 0)
    (ha : ∀ W, Calls Try.prog 48 #[.agg #[.int .i64 k, .int .i64 r, .int .i64 l0, .int .i64 l1, .slice A n c]] W fun e w' => e = .returned (.int .i64 m) ∧ Below W.heap.size W w')
    (hb : ∀ W, Calls Try.prog 48 #[.agg #[.int .i64 k, .int .i64 r, .int .i64 l0', .int .i64 l1', .slice A' n' c']] W fun e w' => e = .returned (.int .i64 m) ∧ Below W.heap.size W w')
    (hca : ∀ W, Calls Try.prog 49 #[.agg #[.int .i64 k, .int .i64 r, .int .i64 l0, .int .i64 l1, .slice A n c]] W fun e w' => e = .returned (.int .i64 q) ∧ Below W.heap.size W w')
    (hcb : ∀ W, Calls Try.prog 49 #[.agg #[.int .i64 k, .int .i64 r, .int .i64 l0', .int .i64 l1', .slice A' n' c']] W fun e w' => e = .returned (.int .i64 q') ∧ Below W.heap.size W w')
    (hn : n = m * q) (hn' : n' = m * q') (hm : m ≤ 400) (hq : q ≤ 400) (hq' : q' ≤ 400) (hsm : n + n' ≤ 400) (hqq : q + q' ≤ 400)
    (hr : (r == 0) = false)
    (hR : (r = 1 ∧ R = (⟨k, 1, ((m * (q + q') : Nat) : Int), 0, catL xs ys q q' (List.range m)⟩, 0)) ∨ (r = 2 ∧ R = (⟨k, 2, m, (q : Int) + (q' : Int), catL xs ys q q' (List.range m)⟩, 0))) :
    Calls Try.prog 22 #[.agg #[.int .i64 k, .int .i64 r, .int .i64 l0, .int .i64 l1, .slice A n c], .agg #[.int .i64 k, .int .i64 r, .int .i64 l0', .int .i64 l1', .slice A' n' c']] w (RetA w R) := by
  obtain ⟨i0, hi, hz0, hz1, hz2⟩ := info_parts infoI64
  have HS := Lib.hid hs
  have HS' := Lib.hid hs'
  have H1 := Lib.hid h1
  have H2 := Lib.hid h2
  have HOR := Lib.hid (show orE 0 0 = 0 from rfl)
  have HN := Lib.hid hn
  have HN' := Lib.hid hn'
  have e1 : IntKind.i64.wrap ((n : Int) + (n' : Int)) = ((n + n' : Nat) : Int) := IntWalk.i64_in _ (by omega)
  have e2 : IntKind.i64.wrap ((q : Int) + (q' : Int)) = (q : Int) + (q' : Int) := IntWalk.i64_in _ (by omega)
  have hcap := hs.cap
  have hmost := hs.most
  have hcap' := hs'.cap
  have hmost' := hs'.most
  clear hs hs' h1 h2 hn hn'
  have hd : decide ((400 : Int) < (n : Int) + (n' : Int)) = false := decide_eq_false (by omega)
  have hd0 : decide ((400 : Int) < ((n + n' : Nat) : Int)) = false := decide_eq_false (by omega)
  have hd2 : decide ((400 : Int) < (q : Int) + (q' : Int)) = false := decide_eq_false (by omega)
  have h16 : 1 ≤ 6 := by omega
  refine (callsIn_wide (n := 6)).1 ?_
  refine callsIn_of_wp_marks Try.func22 rfl trivial ?_ rfl
  simp only [Try.ntmps22, List.size_toArray, List.length_cons, List.length_nil, Nat.reduceAdd, Nat.reduceSub, Array.replicate_succ, Array.replicate_zero, List.push_toArray, List.append_toArray, List.nil_append, List.cons_append]
  refine wpIn_wide.2 ?_
  go_wp2_with fail
  refine (mcheck2 _ _ _ _ _ _ _ xs _ _ _ _ _ _ _ ys _ _ (w.heap.size + 1 + 1 + 1) _ (HS.out.step (below4 _ _ _ _ _)) (HS'.out.step (below4 _ _ _ _ _)) H1.out H2.out (bx4 _ _ _ _ _ _)).mono ?_
  rintro e w1 ⟨rfl, hb1⟩
  rw [HOR.out]
  obtain ⟨X0, X1, X2, X3, b1⟩ := after4 hb1
  clear hb1 X3
  have q2 := Bx.lt X2
  have c0 : ∀ i, w1.cell? ⟨w.heap.size, i, none⟩ = _ := Bx.cell X0
  have c1 : ∀ i, w1.cell? ⟨w.heap.size + 1, i, none⟩ = _ := Bx.cell X1
  have c2 : ∀ i, w1.cell? ⟨w.heap.size + 1 + 1, i, none⟩ = _ := Bx.cell X2
  have f2 : ∀ i, w1.frozen? ⟨w.heap.size + 1 + 1, i, none⟩ = false := Bx.frozen X2
  go_wp2_with fail
  clear c0 c1 c2 f2
  have c0 : ∀ i, w1.drew.cell? ⟨w.heap.size, i, none⟩ = _ := Bx.cell X0
  have c1 : ∀ i, w1.drew.cell? ⟨w.heap.size + 1, i, none⟩ = _ := Bx.cell X1
  have b5 : Below w1.heap.size w1 w1.drew := bdr (Below.refl _ _)
  go_region_held3 (fun w' => (∀ i, w'.cell? ⟨w.heap.size, i, none⟩ = #[.int .i64 k, .int .i64 r, .int .i64 l0, .int .i64 l1, .slice A n c][i]?) ∧ (∀ i, w'.cell? ⟨w.heap.size + 1, i, none⟩ = #[.int .i64 k, .int .i64 r, .int .i64 l0', .int .i64 l1', .slice A' n' c'][i]?))
    (with_reducible exact ⟨c0, c1⟩)
    (first
      | (go_at_call 48; (with_reducible refine (ha _).mono ?_); rintro e w5 ⟨rfl, hb5⟩; have b5 := bst b5 hb5; have c0 : ∀ i, w5.cell? ⟨w.heap.size, i, none⟩ = _ := (Bx.step X0 b5).cell; have c1 : ∀ i, w5.cell? ⟨w.heap.size + 1, i, none⟩ = _ := (Bx.step X1 b5).cell)
      | (go_at_call 48; (with_reducible refine (hb _).mono ?_); rintro e w5 ⟨rfl, hb5⟩; have b5 := bst b5 hb5; have c0 : ∀ i, w5.cell? ⟨w.heap.size, i, none⟩ = _ := (Bx.step X0 b5).cell; have c1 : ∀ i, w5.cell? ⟨w.heap.size + 1, i, none⟩ = _ := (Bx.step X1 b5).cell))
  obtain ⟨w2, hw2⟩ : ∃ w2, w5 = w2 := ⟨_, rfl⟩
  rw [hw2]
  have Y0 : Bx w2 w.heap.size #[.int .i64 k, .int .i64 r, .int .i64 l0, .int .i64 l1, .slice A n c] 25 := hw2 ▸ Bx.step X0 b5
  have Y1 : Bx w2 (w.heap.size + 1) #[.int .i64 k, .int .i64 r, .int .i64 l0', .int .i64 l1', .slice A' n' c'] 25 := hw2 ▸ Bx.step X1 b5
  have Y2 : Bx w2 (w.heap.size + 1 + 1) #[.int .i64 0, .int .i64 0, .int .i64 0, .int .i64 0, .slice none 0 0] 25 := hw2 ▸ Bx.step X2 b5
  have b2 : Below w.heap.size w w2 := hw2 ▸ bst b1 b5
  have s2 : w1.heap.size ≤ w2.heap.size := hw2 ▸ b5.size
  clear hw2
  have c0 : ∀ i, w2.cell? ⟨w.heap.size, i, none⟩ = _ := Y0.cell
  have c1 : ∀ i, w2.cell? ⟨w.heap.size + 1, i, none⟩ = _ := Y1.cell
  go_wp2
  clear c0 c1
  have c0 : ∀ i, w2.drew.cell? ⟨w.heap.size, i, none⟩ = _ := Bx.cell Y0
  have c1 : ∀ i, w2.drew.cell? ⟨w.heap.size + 1, i, none⟩ = _ := Bx.cell Y1
  have b5 : Below w2.heap.size w2 w2.drew := bdr (Below.refl _ _)
  go_region_held3 (fun w' => (∀ i, w'.cell? ⟨w.heap.size, i, none⟩ = #[.int .i64 k, .int .i64 r, .int .i64 l0, .int .i64 l1, .slice A n c][i]?) ∧ (∀ i, w'.cell? ⟨w.heap.size + 1, i, none⟩ = #[.int .i64 k, .int .i64 r, .int .i64 l0', .int .i64 l1', .slice A' n' c'][i]?))
    (with_reducible exact ⟨c0, c1⟩)
    (first
      | (go_at_call 49; (with_reducible refine (hca _).mono ?_); rintro e w5 ⟨rfl, hb5⟩; have b5 := bst b5 hb5; have c0 : ∀ i, w5.cell? ⟨w.heap.size, i, none⟩ = _ := (Bx.step Y0 b5).cell; have c1 : ∀ i, w5.cell? ⟨w.heap.size + 1, i, none⟩ = _ := (Bx.step Y1 b5).cell)
      | (go_at_call 49; (with_reducible refine (hcb _).mono ?_); rintro e w5 ⟨rfl, hb5⟩; have b5 := bst b5 hb5; have c0 : ∀ i, w5.cell? ⟨w.heap.size, i, none⟩ = _ := (Bx.step Y0 b5).cell; have c1 : ∀ i, w5.cell? ⟨w.heap.size + 1, i, none⟩ = _ := (Bx.step Y1 b5).cell))
  obtain ⟨w3, hw3⟩ : ∃ w3, w5 = w3 := ⟨_, rfl⟩
  rw [hw3]
  have Z0 : Bx w3 w.heap.size #[.int .i64 k, .int .i64 r, .int .i64 l0, .int .i64 l1, .slice A n c] 25 := hw3 ▸ Bx.step Y0 b5
  have Z1 : Bx w3 (w.heap.size + 1) #[.int .i64 k, .int .i64 r, .int .i64 l0', .int .i64 l1', .slice A' n' c'] 25 := hw3 ▸ Bx.step Y1 b5
  have Z2 : Bx w3 (w.heap.size + 1 + 1) #[.int .i64 0, .int .i64 0, .int .i64 0, .int .i64 0, .slice none 0 0] 25 := hw3 ▸ Bx.step Y2 b5
  have b3 : Below w.heap.size w w3 := hw3 ▸ bst b2 b5
  have z2 := Z2.lt
  clear hw3 Y0 Y1 Y2 b2 s2 b1 X0 X1 X2
  have c0 : ∀ i, w3.cell? ⟨w.heap.size, i, none⟩ = _ := Z0.cell
  have c1 : ∀ i, w3.cell? ⟨w.heap.size + 1, i, none⟩ = _ := Z1.cell
  go_wp2_with (with_reducible refine wpList_make_own _ rfl _ _ 23 rfl w3.heap.size 2 i0 (.int .i64 0) 1 Try.underlying23 hi hz0 hz1 .i64 .i64 _ (n + n') rfl rfl (by omega) (by rw [hz2]; omega) (by unfold maxLen; omega) (Nat.le_refl _) ?_; intro w4 hown hgrow; have V0 := Bx.grown Z0 hgrow (by simp); have V1 := Bx.grown Z1 hgrow (by simp); have D1 : ∀ i, (w4.alloc (.cells #[.slice (some ⟨w3.heap.size, 0, none⟩) 0 (n + n')] 23)).cell? ⟨w.heap.size + 1, i, none⟩ = _ := Bx.cell (Bx.alloc V1 (.cells #[.slice (some ⟨w3.heap.size, 0, none⟩) 0 (n + n')] 23)))
  have b4 : Below w.heap.size w w4 := b3.grown hgrow b3.size (by simp)
  have V2 := Bx.grown Z2 hgrow (by simp)
  have s4 := hgrow.size
  refine (hcb _).mono ?_
  rintro e w5 ⟨rfl, hb5⟩
  obtain ⟨XC, hst⟩ := after1 hb5
  have b5 := bst b4 hst
  have U0 := Bx.step V0 hst
  have U1 := Bx.step V1 hst
  have U2 := Bx.step V2 hst
  have HOW := Lib.hid (hown.kept (below_grown hst) (.inr (by simp [Value.ownBlock])))
  have s5 := hst.size
  have hXC := Bx.lt XC
  clear hown hgrow hb5 hst D1 V0 V1 V2 Z0 Z1 Z2 c0 c1
  have D0 : ∀ i, (w5.alloc (.cells #[.int .i64 (q' : Int)] 3)).cell? ⟨w.heap.size, i, none⟩ = _ := Bx.cell (Bx.alloc U0 (.cells #[.int .i64 (q' : Int)] 3))
  go_wp2_with fail
  refine (mrows_any _ _ _ _ _ _ _ _).mono ?_
  rintro e w6 ⟨rfl, hw6⟩
  have sz : (w5.alloc (.cells #[.int .i64 (q' : Int)] 3)).heap.size = w5.heap.size + 1 := by simp
  have T0 : Bx w6 w.heap.size #[.int .i64 k, .int .i64 r, .int .i64 l0, .int .i64 l1, .slice A n c] 25 := by rw [hw6]; exact (U0.alloc _).alloc _
  have T1 : Bx w6 (w.heap.size + 1) #[.int .i64 k, .int .i64 r, .int .i64 l0', .int .i64 l1', .slice A' n' c'] 25 := by rw [hw6]; exact (U1.alloc _).alloc _
  have T2 : Bx w6 (w.heap.size + 1 + 1) #[.int .i64 0, .int .i64 0, .int .i64 0, .int .i64 0, .slice none 0 0] 25 := by rw [hw6]; exact (U2.alloc _).alloc _
  have TC : Bx w6 w4.heap.size #[.slice (some ⟨w3.heap.size, 0, none⟩) 0 (n + n')] 23 := by rw [hw6]; exact Bx.alloc (Bx.alloc XC _) _
  have TK : Bx w6 w5.heap.size #[.int .i64 (q' : Int)] 3 := by rw [hw6]; exact (Bx.new _ _ _).alloc _
  have TR : Bx w6 (w5.heap.size + 1) #[.int .i64 k, .int .i64 r, .int .i64 l0, .int .i64 l1, .slice A n c] 25 := by rw [hw6, ← sz]; exact Bx.new _ _ _
  have HO6 : w6.ownsRow w3.heap.size 2 1 (.slice (some ⟨w3.heap.size, 0, none⟩) 0 (n + n')) 0 [] := by rw [hw6]; exact (HOW.out.alloc _).alloc _
  have b6 : Below w.heap.size w w6 := by rw [hw6]; exact bal (bal b5 _) _
  have s6 : w6.heap.size = w5.heap.size + 1 + 1 := by rw [hw6]; simp
  rw [sz]
  have hsz := b3.size
  clear hw6 U0 U1 U2 XC D0 sz HOW
  go_wp2
  refine (wpIn_wide (n := 6)).1 ?_
  refine wpIn_rangeFunc_ownG rfl h16 (gf := 59) (lb := #[.pointer (some ⟨w5.heap.size + 1, 0, none⟩)]) rfl trivial (enters_of Try.func59 (by kernel_rfl) rfl)
    (rng_stops _ (by omega) (w5.heap.size + 1) k r l0 l1 A n c q m (by rw [HN.out]; exact Nat.le_refl _) hcap hm hq hmost hca ha w6 TR)
    (fun h k => k.trans h) (keepBox (by omega)) (Below.refl _ _) (fun _ => rfl)
    (fun pre W => (Bx W w.heap.size #[.int .i64 k, .int .i64 r, .int .i64 l0, .int .i64 l1, .slice A n c] 25 ∧ Bx W (w.heap.size + 1) #[.int .i64 k, .int .i64 r, .int .i64 l0', .int .i64 l1', .slice A' n' c'] 25 ∧ Bx W (w.heap.size + 1 + 1) #[.int .i64 0, .int .i64 0, .int .i64 0, .int .i64 0, .slice none 0 0] 25 ∧ Bx W w5.heap.size #[.int .i64 (q' : Int)] 3 ∧ Bx W (w5.heap.size + 1) #[.int .i64 k, .int .i64 r, .int .i64 l0, .int .i64 l1, .slice A n c] 25 ∧
      ∃ V N cc, Bx W w4.heap.size #[.slice V N cc] 23 ∧ W.ownsRow w3.heap.size 2 1 (.slice V N cc) N ((catL xs ys q q' (pre.map Fin.val)).map (Value.int .i64)) ∧ N = pre.length * (q + q') ∧ N ≤ 1000000 + pre.length * 800) ∧ Below w.heap.size w W)
    (fun _ _ _ => False)
    (OwnFrom.and (Own.from (fun s A B row hs hg hr => ⟨hs.1.keeps hg hr, hs.2.1.keeps hg hr, hs.2.2.1.keeps hg hr, hs.2.2.2.1.keeps hg hr, hs.2.2.2.2.1.keeps hg hr, by obtain ⟨V, N, cc, h1, h2, h3⟩ := hs.2.2.2.2.2; exact ⟨V, N, cc, h1.keeps hg hr, own_keeps h2 hg hr, h3⟩⟩) _) (ownFrom_below (Nat.le_refl _) (by omega)))
    (fun _ _ _ _ _ hs _ _ => hs)
    ⟨⟨T0, T1, T2, TK, TR, _, _, _, TC, HO6, by simp, by simp⟩, b6⟩
    ?a1 ?assign ?body ?done ?stop
  case assign =>
    intro l x W K hK
    gi_wp2
    exact hK
  case body =>
    rintro l pre x W ⟨⟨e0, e1, e2, eK, eR, V, N, cc, eC, hO, hN, hN2⟩, hB⟩ hlen
    obtain ⟨V1, hV1, hS1⟩ := row_sl HS.out HN.out x.val x.isLt
    obtain ⟨V2, hV2, hS2⟩ := row_sl HS'.out HN'.out x.val x.isLt
    have hNb : N ≤ 160000 := by rw [hN]; exact Nat.mul_le_mul (show pre.length ≤ 400 by omega) (show q + q' ≤ 400 by omega)
    have hCW := eC.lt
    have HO := Lib.hid hO
    have HN1 := Lib.hid hN
    have S1 := Lib.hid (hS1.step (bdr hB))
    have hbase : w3.heap.size ≤ W.heap.size := by omega
    clear hO hN hS1
    obtain ⟨p, hp⟩ : ∃ p, x.val * q' = p := ⟨_, rfl⟩
    have hpm : p + q' ≤ n' := by
      have h1 := Nat.mul_le_mul_right q' (show x.val + 1 ≤ m from x.isLt)
      rw [Nat.succ_mul] at h1
      have := HN'.out
      omega
    have hpi : ((x.val : Nat) : Int) * (q' : Int) = (p : Int) := by rw [← hp]; simp
    have ew : IntKind.i64.wrap (((x.val : Nat) : Int) * (q' : Int)) = (p : Int) := by rw [hpi]; exact IntWalk.i64_in _ (by omega)
    unfold rowV at hV2
    rw [hp] at hV2
    have hmx : Try.prog.follows .mixedOrders = true := by kernel_rfl
    have hK0 : W.cell? ⟨w5.heap.size, 0, none⟩ = some (.int .i64 (q' : Int)) := eK.cell 0
    have hB0 : W.cell? ⟨w.heap.size + 1, 4, none⟩ = some (.slice A' n' c') := e1.cell 4
    have hC0 : W.drew.cell? ⟨w4.heap.size, 0, none⟩ = some (.slice V N cc) := eC.cell 0
    clear hp hpi
    by_cases hq0 : q' = 0
    · rw [if_pos hq0, hq0] at hV2
      cases hV2
      have e3 : IntKind.i64.wrap ((p : Int) + (q' : Int)) = (p : Int) := by
        have : (p : Int) + (q' : Int) = (p : Int) := by omega
        rw [this]
        exact IntWalk.i64_in _ (by omega)
      have u0 : (0 : Int) ≤ (p : Int) := by omega
      have u1 : (p : Int) ≤ (c' : Int) := by omega
      have S2 := Lib.hid (Sl.empty w A' 0 (Nat.zero_le _))
      have HTT := Lib.hid (show 0 = q' from hq0.symm)
      have HR2 := Lib.hid (show (ys.drop (x.val * q')).take q' = [] by rw [hq0, List.take_zero])
      clear hq0 hS2
      gi_wp2_with fail
      refine region_round (fun w' => w'.cell? ⟨w5.heap.size, 0, none⟩ = some (.int .i64 (q' : Int)) ∧ w'.cell? ⟨w.heap.size + 1, 4, none⟩ = some (.slice A' n' c')) hmx (by kernel_rfl) ?lo ⟨hK0, hB0⟩ (fun hHeld => ?_)
      case lo =>
        rintro ⟨a0, w0, h⟩
        exact h
      refine wpAnyH_take (i := 1) (v := ?_) rfl (by kernel_rfl) (by kernel_rfl) (by kernel_rfl) (fun _ _ _ h => h) (Or.inl ⟨by rfl, ?_⟩) hHeld ?_
      rotate_left
      · intro w0 hSw
        try dsimp only at hSw
        go_simp
        all_goals (with_reducible rfl)
      refine wpAnyH_take (i := 3) (v := ?_) rfl (by kernel_rfl) (by kernel_rfl) (by kernel_rfl) (fun _ _ _ h => h) (Or.inl ⟨by rfl, ?_⟩) hHeld ?_
      rotate_left
      · intro w0 hSw
        try dsimp only at hSw
        go_simp
        all_goals (with_reducible rfl)
      refine wpAnyH_take (i := 4) (v := ?_) rfl (by kernel_rfl) (by kernel_rfl) (by kernel_rfl) (fun _ _ _ h => h) (Or.inl ⟨by rfl, ?_⟩) hHeld ?_
      rotate_left
      · intro w0 hSw
        try dsimp only at hSw
        go_simp
        all_goals (with_reducible rfl)
      refine wpAnyH_take (i := 5) (v := ?_) rfl (by kernel_rfl) (by kernel_rfl) (by kernel_rfl) (fun _ _ _ h => h) (Or.inl ⟨by rfl, ?_⟩) hHeld ?_
      rotate_left
      · intro w0 hSw
        try dsimp only at hSw
        go_simp
        all_goals (with_reducible rfl)
      refine wpAnyH_take (i := 6) (v := ?_) rfl (by kernel_rfl) (by kernel_rfl) (by kernel_rfl) (fun _ _ _ h => h) (Or.inl ⟨by rfl, ?_⟩) hHeld ?_
      rotate_left
      · intro w0 hSw
        try dsimp only at hSw
        go_simp
        all_goals (with_reducible rfl)
      refine wpAnyH_take (i := 7) (v := ?_) rfl (by kernel_rfl) (by kernel_rfl) (by kernel_rfl) (fun _ _ _ h => h) (Or.inl ⟨by rfl, ?_⟩) hHeld ?_
      rotate_left
      · intro w0 hSw
        try dsimp only at hSw
        go_simp
        all_goals (with_reducible rfl)
      refine wpAnyH_take (i := 8) (v := ?_) rfl (by kernel_rfl) (by kernel_rfl) (by kernel_rfl) (fun _ _ _ h => h) (Or.inl ⟨by rfl, ?_⟩) hHeld ?_
      rotate_left
      · intro w0 hSw
        try dsimp only at hSw
        go_simp
        all_goals (with_reducible rfl)
      refine wpAnyH_take (i := 9) (v := ?_) rfl (by kernel_rfl) (by kernel_rfl) (by kernel_rfl) (fun _ _ _ h => h) (Or.inl ⟨by rfl, ?_⟩) hHeld ?_
      rotate_left
      · intro w0 hSw
        try dsimp only at hSw
        go_simp
        all_goals (with_reducible rfl)
      refine wpAnyH_take (i := 10) (v := ?_) rfl (by kernel_rfl) (by kernel_rfl) (by kernel_rfl) (fun _ _ _ h => h) (Or.inl ⟨by rfl, ?_⟩) hHeld ?_
      rotate_left
      · intro w0 hSw
        try dsimp only at hSw
        go_simp
        all_goals (with_reducible rfl)
      refine wpAnyH_take (i := 11) (v := ?_) rfl (by kernel_rfl) (by kernel_rfl) (by kernel_rfl) (fun _ _ _ h => h) (Or.inl ⟨by rfl, ?_⟩) hHeld ?_
      rotate_left
      · intro w0 hSw
        try dsimp only at hSw
        go_simp
        all_goals (with_reducible rfl)
      refine wpAnyH_take (i := 12) (v := ?_) rfl (by kernel_rfl) (by kernel_rfl) (by kernel_rfl) (fun _ _ _ h => h) (Or.inl ⟨by rfl, ?_⟩) hHeld ?_
      rotate_left
      · intro w0 hSw
        try dsimp only at hSw
        go_simp
        all_goals (with_reducible rfl)
      refine wpAnyH_take (i := 13) (v := ?_) rfl (by kernel_rfl) (by kernel_rfl) (by kernel_rfl) (fun _ _ _ h => h) (Or.inl ⟨by rfl, ?_⟩) hHeld ?_
      rotate_left
      · intro w0 hSw
        try dsimp only at hSw
        go_simp
        all_goals (with_reducible rfl)
      refine wpAnyH_take (i := 14) (v := ?_) rfl (by kernel_rfl) (by kernel_rfl) (by kernel_rfl) (fun _ _ _ h => h) (Or.inl ⟨by rfl, ?_⟩) hHeld ?_
      rotate_left
      · intro w0 hSw
        try dsimp only at hSw
        go_simp
        all_goals (with_reducible rfl)
      refine wpAnyH_take (i := 15) (v := ?_) rfl (by kernel_rfl) (by kernel_rfl) (by kernel_rfl) (fun _ _ _ h => h) (Or.inl ⟨by rfl, ?_⟩) hHeld ?_
      rotate_left
      · intro w0 hSw
        try dsimp only at hSw
        go_simp
        all_goals (with_reducible rfl)
      refine wpAnyH_take (i := 16) (v := ?_) rfl (by kernel_rfl) (by kernel_rfl) (by kernel_rfl) (fun _ _ _ h => h) (Or.inl ⟨by rfl, ?_⟩) hHeld ?_
      rotate_left
      · intro w0 hSw
        try dsimp only at hSw
        go_simp
        all_goals (with_reducible rfl)
      refine wpAnyH_take (i := 17) (v := ?_) rfl (by kernel_rfl) (by kernel_rfl) (by kernel_rfl) (fun _ _ _ h => h) (Or.inl ⟨by rfl, ?_⟩) hHeld ?_
      rotate_left
      · intro w0 hSw
        try dsimp only at hSw
        go_simp
        all_goals (with_reducible rfl)
      refine wpAnyH_take (i := 18) (v := ?_) rfl (by kernel_rfl) (by kernel_rfl) (by kernel_rfl) (fun _ _ _ h => h) (Or.inl ⟨by rfl, ?_⟩) hHeld ?_
      rotate_left
      · intro w0 hSw
        try dsimp only at hSw
        go_simp
        all_goals (with_reducible rfl)
      refine wpAnyH_ready (rs := [0]) (by kernel_rfl) (by simp) ?_
      refine AllReadyH.cons rfl (fun K hK => ?_) AllReadyH.nil
      go_simp
      refine hK.out _ _ hHeld (fun _ => ?_)
      clear hK K
      refine wpAnyH_ready (rs := [2]) (by kernel_rfl) (by simp) ?_
      refine AllReadyH.cons rfl (fun K hK => ?_) AllReadyH.nil
      refine step_append_sl rfl _ _ rfl rfl w3.heap.size (.slice V N cc) N (catL xs ys q q' (pre.map Fin.val)) rfl HO.out.drew V1 q q _ rfl S1.out (by omega) hbase ?_
      intro A1 k1 W1 hG1
      have E0 := Bx.grown (w := W.drew) e0 hG1.2.2 (own_ne HO.out.drew e0 (by decide))
      have E1 := Bx.grown (w := W.drew) e1 hG1.2.2 (own_ne HO.out.drew e1 (by decide))
      have E2 := Bx.grown (w := W.drew) e2 hG1.2.2 (own_ne HO.out.drew e2 (by decide))
      have EK := Bx.grown (w := W.drew) eK hG1.2.2 (own_ne HO.out.drew eK (by decide))
      have ER := Bx.grown (w := W.drew) eR hG1.2.2 (own_ne HO.out.drew eR (by decide))
      have EC := Bx.grown (w := W.drew) eC hG1.2.2 (own_ne HO.out.drew eC (by decide))
      have hb1 : Below w.heap.size w W1 := (bdr hB).grown hG1.2.2 (bdr hB).size (fun j e => Nat.le_trans hsz (HO.out.lt j e).1)
      have hz1' := hG1.2.2.size
      have HG1 := Lib.hid hG1
      refine hK.out _ _ ⟨EK.cell 0, E1.cell 4⟩ (fun hHeld => ?_)
      clear hK K hG1
      refine wpAnyH_ready (rs := [19]) (by kernel_rfl) (by simp) ?_
      refine AllReadyH.cons rfl (fun K hK => ?_) AllReadyH.nil
      refine step_append_sl rfl _ _ rfl rfl w3.heap.size (.slice A1 (N + q) k1) (N + q) _ rfl HG1.out.1 A' 0 0 [] rfl (S2.out.step hb1) (by omega) (Nat.le_trans hbase hz1') ?_
      intro A2 k2 W2 hG2
      have F0 := Bx.grown E0 hG2.2.2 (own_ne HG1.out.1 E0 (by decide))
      have F1 := Bx.grown E1 hG2.2.2 (own_ne HG1.out.1 E1 (by decide))
      have F2 := Bx.grown E2 hG2.2.2 (own_ne HG1.out.1 E2 (by decide))
      have FK := Bx.grown EK hG2.2.2 (own_ne HG1.out.1 EK (by decide))
      have FR := Bx.grown ER hG2.2.2 (own_ne HG1.out.1 ER (by decide))
      have FC := Bx.grown EC hG2.2.2 (own_ne HG1.out.1 EC (by decide))
      have hb2 : Below w.heap.size w W2 := hb1.grown hG2.2.2 hb1.size (fun j e => Nat.le_trans hsz (HG1.out.1.lt j e).1)
      have hko := Lib.hid (((KeepsOthers.drew W).trans (own_others HO.out.drew HG1.out.2.2)).trans (own_others HG1.out.1 hG2.2.2))
      have HG2 := Lib.hid hG2
      have hC2 : W2.cell? ⟨w4.heap.size, 0, none⟩ = some (.slice V N cc) := FC.cell 0
      have fC2 : W2.frozen? ⟨w4.heap.size, 0, none⟩ = false := FC.frozen 0
      refine hK.out _ _ ⟨FK.cell 0, F1.cell 4⟩ (fun hHeld => ?_)
      clear hK K hG2
      refine wpAnyH_ready (rs := [20]) (by kernel_rfl) (by simp) ?_
      refine AllReadyH.cons rfl (fun K hK => ?_) AllReadyH.nil
      go_simp
      refine hK.out _ _ ⟨(FK.far (show w5.heap.size ≠ w4.heap.size by omega) _).cell 0, (F1.far (show w.heap.size + 1 ≠ w4.heap.size by omega) _).cell 4⟩ (fun _ => ?_)
      clear hK K
      refine wpAnyH_done (by kernel_rfl) ?_ _
      have HNE := own_ne HG2.out.1 FC (by decide)
      refine ⟨(hko.out.trans (KeepsOthers.setCell _ _ _)).from _, (FR.far (show w5.heap.size + 1 ≠ w4.heap.size by omega) _).trans eR.symm, ⟨F0.far (show w.heap.size ≠ w4.heap.size by omega) _, F1.far (show w.heap.size + 1 ≠ w4.heap.size by omega) _, F2.far (show w.heap.size + 1 + 1 ≠ w4.heap.size by omega) _, FK.far (show w5.heap.size ≠ w4.heap.size by omega) _, FR.far (show w5.heap.size + 1 ≠ w4.heap.size by omega) _, A2, N + q + 0, k2, FC.set_ 0 _, ?_, ?_, ?_⟩, hb2.setCell (p := ⟨w4.heap.size, 0, none⟩) (show w.heap.size ≤ w4.heap.size by omega) _⟩
      · have h1 := HG2.out.1.kept (grown_set (World.grownBy.refl W2 (some w4.heap.size)) 0 (.slice A2 (N + q + 0) k2)) (.inr (fun e => HNE e.symm))
        rw [List.map_append, List.map_singleton, catL_snoc]
        try rw [HR2.out]
        exact h1
      · have h1 := HN1.out
        have h2 := HTT.out
        rw [List.length_append, List.length_singleton, Nat.succ_mul]
        omega
      · have h2 := HTT.out
        rw [List.length_append, List.length_singleton]
        omega
    · rw [if_neg hq0] at hV2
      cases hV2
      obtain ⟨s, hs⟩ : ∃ s, p + q' = s := ⟨_, rfl⟩
      have e3 : IntKind.i64.wrap ((p : Int) + (q' : Int)) = (s : Int) := by
        have : (p : Int) + (q' : Int) = (s : Int) := by omega
        rw [this]
        exact IntWalk.i64_in _ (by omega)
      have u0 : (0 : Int) ≤ (s : Int) := by omega
      have u1 : (s : Int) ≤ (c' : Int) := by omega
      have u2 : p ≤ s := by omega
      have u3 : s - p = q' := by omega
      have u4 : ¬ s = p := by omega
      have S2 := Lib.hid hS2
      have HTT := Lib.hid (show q' = q' from rfl)
      have HR2 := Lib.hid (show (ys.drop (x.val * q')).take q' = (ys.drop (x.val * q')).take q' from rfl)
      clear hq0 hS2 hs
      gi_wp2_with fail
      refine region_round (fun w' => w'.cell? ⟨w5.heap.size, 0, none⟩ = some (.int .i64 (q' : Int)) ∧ w'.cell? ⟨w.heap.size + 1, 4, none⟩ = some (.slice A' n' c')) hmx (by kernel_rfl) ?lo ⟨hK0, hB0⟩ (fun hHeld => ?_)
      case lo =>
        rintro ⟨a0, w0, h⟩
        exact h
      refine wpAnyH_take (i := 1) (v := ?_) rfl (by kernel_rfl) (by kernel_rfl) (by kernel_rfl) (fun _ _ _ h => h) (Or.inl ⟨by rfl, ?_⟩) hHeld ?_
      rotate_left
      · intro w0 hSw
        try dsimp only at hSw
        go_simp
        all_goals (with_reducible rfl)
      refine wpAnyH_take (i := 3) (v := ?_) rfl (by kernel_rfl) (by kernel_rfl) (by kernel_rfl) (fun _ _ _ h => h) (Or.inl ⟨by rfl, ?_⟩) hHeld ?_
      rotate_left
      · intro w0 hSw
        try dsimp only at hSw
        go_simp
        all_goals (with_reducible rfl)
      refine wpAnyH_take (i := 4) (v := ?_) rfl (by kernel_rfl) (by kernel_rfl) (by kernel_rfl) (fun _ _ _ h => h) (Or.inl ⟨by rfl, ?_⟩) hHeld ?_
      rotate_left
      · intro w0 hSw
        try dsimp only at hSw
        go_simp
        all_goals (with_reducible rfl)
      refine wpAnyH_take (i := 5) (v := ?_) rfl (by kernel_rfl) (by kernel_rfl) (by kernel_rfl) (fun _ _ _ h => h) (Or.inl ⟨by rfl, ?_⟩) hHeld ?_
      rotate_left
      · intro w0 hSw
        try dsimp only at hSw
        go_simp
        all_goals (with_reducible rfl)
      refine wpAnyH_take (i := 6) (v := ?_) rfl (by kernel_rfl) (by kernel_rfl) (by kernel_rfl) (fun _ _ _ h => h) (Or.inl ⟨by rfl, ?_⟩) hHeld ?_
      rotate_left
      · intro w0 hSw
        try dsimp only at hSw
        go_simp
        all_goals (with_reducible rfl)
      refine wpAnyH_take (i := 7) (v := ?_) rfl (by kernel_rfl) (by kernel_rfl) (by kernel_rfl) (fun _ _ _ h => h) (Or.inl ⟨by rfl, ?_⟩) hHeld ?_
      rotate_left
      · intro w0 hSw
        try dsimp only at hSw
        go_simp
        all_goals (with_reducible rfl)
      refine wpAnyH_take (i := 8) (v := ?_) rfl (by kernel_rfl) (by kernel_rfl) (by kernel_rfl) (fun _ _ _ h => h) (Or.inl ⟨by rfl, ?_⟩) hHeld ?_
      rotate_left
      · intro w0 hSw
        try dsimp only at hSw
        go_simp
        all_goals (with_reducible rfl)
      refine wpAnyH_take (i := 9) (v := ?_) rfl (by kernel_rfl) (by kernel_rfl) (by kernel_rfl) (fun _ _ _ h => h) (Or.inl ⟨by rfl, ?_⟩) hHeld ?_
      rotate_left
      · intro w0 hSw
        try dsimp only at hSw
        go_simp
        all_goals (with_reducible rfl)
      refine wpAnyH_take (i := 10) (v := ?_) rfl (by kernel_rfl) (by kernel_rfl) (by kernel_rfl) (fun _ _ _ h => h) (Or.inl ⟨by rfl, ?_⟩) hHeld ?_
      rotate_left
      · intro w0 hSw
        try dsimp only at hSw
        go_simp
        all_goals (with_reducible rfl)
      refine wpAnyH_take (i := 11) (v := ?_) rfl (by kernel_rfl) (by kernel_rfl) (by kernel_rfl) (fun _ _ _ h => h) (Or.inl ⟨by rfl, ?_⟩) hHeld ?_
      rotate_left
      · intro w0 hSw
        try dsimp only at hSw
        go_simp
        all_goals (with_reducible rfl)
      refine wpAnyH_take (i := 12) (v := ?_) rfl (by kernel_rfl) (by kernel_rfl) (by kernel_rfl) (fun _ _ _ h => h) (Or.inl ⟨by rfl, ?_⟩) hHeld ?_
      rotate_left
      · intro w0 hSw
        try dsimp only at hSw
        go_simp
        all_goals (with_reducible rfl)
      refine wpAnyH_take (i := 13) (v := ?_) rfl (by kernel_rfl) (by kernel_rfl) (by kernel_rfl) (fun _ _ _ h => h) (Or.inl ⟨by rfl, ?_⟩) hHeld ?_
      rotate_left
      · intro w0 hSw
        try dsimp only at hSw
        go_simp
        all_goals (with_reducible rfl)
      refine wpAnyH_take (i := 14) (v := ?_) rfl (by kernel_rfl) (by kernel_rfl) (by kernel_rfl) (fun _ _ _ h => h) (Or.inl ⟨by rfl, ?_⟩) hHeld ?_
      rotate_left
      · intro w0 hSw
        try dsimp only at hSw
        go_simp
        all_goals (with_reducible rfl)
      refine wpAnyH_take (i := 15) (v := ?_) rfl (by kernel_rfl) (by kernel_rfl) (by kernel_rfl) (fun _ _ _ h => h) (Or.inl ⟨by rfl, ?_⟩) hHeld ?_
      rotate_left
      · intro w0 hSw
        try dsimp only at hSw
        go_simp
        all_goals (with_reducible rfl)
      refine wpAnyH_take (i := 16) (v := ?_) rfl (by kernel_rfl) (by kernel_rfl) (by kernel_rfl) (fun _ _ _ h => h) (Or.inl ⟨by rfl, ?_⟩) hHeld ?_
      rotate_left
      · intro w0 hSw
        try dsimp only at hSw
        go_simp
        all_goals (with_reducible rfl)
      refine wpAnyH_take (i := 17) (v := ?_) rfl (by kernel_rfl) (by kernel_rfl) (by kernel_rfl) (fun _ _ _ h => h) (Or.inl ⟨by rfl, ?_⟩) hHeld ?_
      rotate_left
      · intro w0 hSw
        try dsimp only at hSw
        go_simp
        all_goals (with_reducible rfl)
      refine wpAnyH_take (i := 18) (v := ?_) rfl (by kernel_rfl) (by kernel_rfl) (by kernel_rfl) (fun _ _ _ h => h) (Or.inl ⟨by rfl, ?_⟩) hHeld ?_
      rotate_left
      · intro w0 hSw
        try dsimp only at hSw
        go_simp
        all_goals (with_reducible rfl)
      refine wpAnyH_ready (rs := [0]) (by kernel_rfl) (by simp) ?_
      refine AllReadyH.cons rfl (fun K hK => ?_) AllReadyH.nil
      go_simp
      refine hK.out _ _ hHeld (fun _ => ?_)
      clear hK K
      refine wpAnyH_ready (rs := [2]) (by kernel_rfl) (by simp) ?_
      refine AllReadyH.cons rfl (fun K hK => ?_) AllReadyH.nil
      refine step_append_sl rfl _ _ rfl rfl w3.heap.size (.slice V N cc) N (catL xs ys q q' (pre.map Fin.val)) rfl HO.out.drew V1 q q _ rfl S1.out (by omega) hbase ?_
      intro A1 k1 W1 hG1
      have E0 := Bx.grown (w := W.drew) e0 hG1.2.2 (own_ne HO.out.drew e0 (by decide))
      have E1 := Bx.grown (w := W.drew) e1 hG1.2.2 (own_ne HO.out.drew e1 (by decide))
      have E2 := Bx.grown (w := W.drew) e2 hG1.2.2 (own_ne HO.out.drew e2 (by decide))
      have EK := Bx.grown (w := W.drew) eK hG1.2.2 (own_ne HO.out.drew eK (by decide))
      have ER := Bx.grown (w := W.drew) eR hG1.2.2 (own_ne HO.out.drew eR (by decide))
      have EC := Bx.grown (w := W.drew) eC hG1.2.2 (own_ne HO.out.drew eC (by decide))
      have hb1 : Below w.heap.size w W1 := (bdr hB).grown hG1.2.2 (bdr hB).size (fun j e => Nat.le_trans hsz (HO.out.lt j e).1)
      have hz1' := hG1.2.2.size
      have HG1 := Lib.hid hG1
      refine hK.out _ _ ⟨EK.cell 0, E1.cell 4⟩ (fun hHeld => ?_)
      clear hK K hG1
      refine wpAnyH_ready (rs := [19]) (by kernel_rfl) (by simp) ?_
      refine AllReadyH.cons rfl (fun K hK => ?_) AllReadyH.nil
      refine step_append_sl rfl _ _ rfl rfl w3.heap.size (.slice A1 (N + q) k1) (N + q) _ rfl HG1.out.1 _ q' q' ((ys.drop (x.val * q')).take q') rfl (S2.out.step hb1) (by omega) (Nat.le_trans hbase hz1') ?_
      intro A2 k2 W2 hG2
      have F0 := Bx.grown E0 hG2.2.2 (own_ne HG1.out.1 E0 (by decide))
      have F1 := Bx.grown E1 hG2.2.2 (own_ne HG1.out.1 E1 (by decide))
      have F2 := Bx.grown E2 hG2.2.2 (own_ne HG1.out.1 E2 (by decide))
      have FK := Bx.grown EK hG2.2.2 (own_ne HG1.out.1 EK (by decide))
      have FR := Bx.grown ER hG2.2.2 (own_ne HG1.out.1 ER (by decide))
      have FC := Bx.grown EC hG2.2.2 (own_ne HG1.out.1 EC (by decide))
      have hb2 : Below w.heap.size w W2 := hb1.grown hG2.2.2 hb1.size (fun j e => Nat.le_trans hsz (HG1.out.1.lt j e).1)
      have hko := Lib.hid (((KeepsOthers.drew W).trans (own_others HO.out.drew HG1.out.2.2)).trans (own_others HG1.out.1 hG2.2.2))
      have HG2 := Lib.hid hG2
      have hC2 : W2.cell? ⟨w4.heap.size, 0, none⟩ = some (.slice V N cc) := FC.cell 0
      have fC2 : W2.frozen? ⟨w4.heap.size, 0, none⟩ = false := FC.frozen 0
      refine hK.out _ _ ⟨FK.cell 0, F1.cell 4⟩ (fun hHeld => ?_)
      clear hK K hG2
      refine wpAnyH_ready (rs := [20]) (by kernel_rfl) (by simp) ?_
      refine AllReadyH.cons rfl (fun K hK => ?_) AllReadyH.nil
      go_simp
      refine hK.out _ _ ⟨(FK.far (show w5.heap.size ≠ w4.heap.size by omega) _).cell 0, (F1.far (show w.heap.size + 1 ≠ w4.heap.size by omega) _).cell 4⟩ (fun _ => ?_)
      clear hK K
      refine wpAnyH_done (by kernel_rfl) ?_ _
      have HNE := own_ne HG2.out.1 FC (by decide)
      refine ⟨(hko.out.trans (KeepsOthers.setCell _ _ _)).from _, (FR.far (show w5.heap.size + 1 ≠ w4.heap.size by omega) _).trans eR.symm, ⟨F0.far (show w.heap.size ≠ w4.heap.size by omega) _, F1.far (show w.heap.size + 1 ≠ w4.heap.size by omega) _, F2.far (show w.heap.size + 1 + 1 ≠ w4.heap.size by omega) _, FK.far (show w5.heap.size ≠ w4.heap.size by omega) _, FR.far (show w5.heap.size + 1 ≠ w4.heap.size by omega) _, A2, N + q + q', k2, FC.set_ 0 _, ?_, ?_, ?_⟩, hb2.setCell (p := ⟨w4.heap.size, 0, none⟩) (show w.heap.size ≤ w4.heap.size by omega) _⟩
      · have h1 := HG2.out.1.kept (grown_set (World.grownBy.refl W2 (some w4.heap.size)) 0 (.slice A2 (N + q + q') k2)) (.inr (fun e => HNE e.symm))
        rw [List.map_append, List.map_singleton, catL_snoc]
        try rw [HR2.out]
        exact h1
      · have h1 := HN1.out
        have h2 := HTT.out
        rw [List.length_append, List.length_singleton, Nat.succ_mul]
        omega
      · have h2 := HTT.out
        rw [List.length_append, List.length_singleton]
        omega
  case done =>
    rintro D ys2 W hD hys ⟨⟨e0, e1, eT, eK, eR, V, N, cc, eC, hO, hN, hN2⟩, hB⟩ hK
    have hlen2 : ys2.length = m := by have := congrArg List.length hys; simpa using this
    rw [hys] at hO
    rw [hlen2] at hN
    have hCW := eC.lt
    obtain ⟨_, _, hv, hSV, hnew⟩ := Sl.of_own hO
    cases hv
    have SV := Lib.hid hSV
    have hne : ∀ b o, V = some ⟨b, o, none⟩ → 0 < N → b ≠ w.heap.size + 1 + 1 := fun b o e hN0 => by
      obtain ⟨g, hg, hg1⟩ := hnew hN0
      rw [hg] at e
      cases e
      omega
    have hnw : 0 < N → ∀ b o s, V = some ⟨b, o, s⟩ → w.heap.size ≤ b := fun hN0 b o s e => by
      obtain ⟨g, hg, hg1⟩ := hnew hN0
      rw [hg] at e
      cases e
      omega
    have HNE := Lib.hid hne
    have HNW := Lib.hid hnw
    have HNO := Lib.hid hO
    have HNN := Lib.hid hN
    have hDW : D < W.heap.size := (Array.getElem?_eq_some_iff.1 hK).1
    have c0 : ∀ i, W.cell? ⟨w.heap.size, i, none⟩ = _ := Bx.cell e0
    have cK : W.cell? ⟨w5.heap.size, 0, none⟩ = some (.int .i64 (q' : Int)) := eK.cell 0
    have cC : W.cell? ⟨w4.heap.size, 0, none⟩ = some (.slice V N cc) := eC.cell 0
    clear hO hSV hne hnw hnew hN hys
    rcases hR with ⟨hr1, hR⟩ | ⟨hr2, hR⟩
    · have hrb : (r == 1) = true := by rw [hr1]; rfl
      have HR := Lib.hid hR
      clear hR hr1
      go_wp2_with fail
      refine (mvector_any k V N cc _).mono ?_
      rintro e w7 ⟨rfl, hb7⟩
      have g1 : ∀ i, w7.cell? ⟨w.heap.size + 1 + 1, i, none⟩ = _ := (eT.step hb7).cell
      have k1 : ∀ i, w7.frozen? ⟨w.heap.size + 1 + 1, i, none⟩ = false := (eT.step hb7).frozen
      go_wp2
      have hK4 := (hb7.block D hDW).trans hK
      have hTl := eT.lt
      have hK5 := (set5_heap w7 (w.heap.size + 1 + 1) (.int .i64 k) (.int .i64 1) (.int .i64 N) (.int .i64 0) (.slice V N cc) (b := D) (by omega)).trans hK4
      refine retME (B := w.heap.size + 1 + 1) rfl rfl hK5 rfl rfl ((eT.step hb7).set5 _ _ _ _ _) ?_
      exact RetA.mk (by rw [HR.out, ← HNN.out]) ((Sl.past5z (SV.out.step hb7) _ _ _ _ _ (fun h b o e => HNE.out b o e h)).putD hK5 (.deferred none)) (own_new HNO.out (by omega)) ((below_set5 (bst hB hb7) (by omega) _ _ _ _ _).trans (belowK_b (w := w) (Nat.le_refl _) _ D _ _ (by omega) hK5 rfl rfl))
    · have hrb : (r == 1) = false := by rw [hr2]; rfl
      have HR := Lib.hid hR
      clear hR hr2
      go_wp2_with fail
      clear c0 cK cC
      have c0 : ∀ i, W.drew.cell? ⟨w.heap.size, i, none⟩ = _ := Bx.cell e0
      have cK : W.drew.cell? ⟨w5.heap.size, 0, none⟩ = some (.int .i64 (q' : Int)) := eK.cell 0
      have cC : W.drew.cell? ⟨w4.heap.size, 0, none⟩ = some (.slice V N cc) := eC.cell 0
      have b7 : Below W.heap.size W W.drew := bdr (Below.refl _ _)
      have n0 : w.heap.size ≠ w.heap.size + 1 + 1 := by omega
      have nK : w5.heap.size ≠ w.heap.size + 1 + 1 := by omega
      have nC : w4.heap.size ≠ w.heap.size + 1 + 1 := by omega
      go_region_held3 (fun w' => (∀ i, w'.cell? ⟨w.heap.size, i, none⟩ = #[.int .i64 k, .int .i64 r, .int .i64 l0, .int .i64 l1, .slice A n c][i]?) ∧ w'.cell? ⟨w5.heap.size, 0, none⟩ = some (.int .i64 (q' : Int)) ∧ w'.cell? ⟨w4.heap.size, 0, none⟩ = some (.slice V N cc))
        (with_reducible first | exact ⟨c0, cK, cC⟩ | exact ⟨fun i => (set5_cell w7 (w.heap.size + 1 + 1) _ _ _ _ _ n0).trans (c0 i), (set5_cell w7 (w.heap.size + 1 + 1) _ _ _ _ _ nK).trans cK, (set5_cell w7 (w.heap.size + 1 + 1) _ _ _ _ _ nC).trans cC⟩)
        (first
          | (go_at_call 48; (with_reducible refine (ha _).mono ?_); rintro e w7 ⟨rfl, hbx⟩; have b7 := bst b7 hbx; have c0 : ∀ i, w7.cell? ⟨w.heap.size, i, none⟩ = _ := (Bx.step e0 b7).cell; have cK : w7.cell? ⟨w5.heap.size, 0, none⟩ = some (.int .i64 (q' : Int)) := (Bx.step eK b7).cell 0; have cC : w7.cell? ⟨w4.heap.size, 0, none⟩ = some (.slice V N cc) := (Bx.step eC b7).cell 0)
          | (go_at_call 49; (with_reducible refine (hca _).mono ?_); rintro e w7 ⟨rfl, hbx⟩; have b7 := bst b7 hbx; have c0 : ∀ i, w7.cell? ⟨w.heap.size, i, none⟩ = _ := (Bx.step e0 b7).cell; have cK : w7.cell? ⟨w5.heap.size, 0, none⟩ = some (.int .i64 (q' : Int)) := (Bx.step eK b7).cell 0; have cC : w7.cell? ⟨w4.heap.size, 0, none⟩ = some (.slice V N cc) := (Bx.step eC b7).cell 0)
          | (go_at_call 45; (with_reducible refine (mmatrix_any k m ((q : Int) + (q' : Int)) V N cc _).mono ?_); rintro e w7 ⟨rfl, hbx⟩; have b7 := bst b7 hbx; have c0 : ∀ i, w7.cell? ⟨w.heap.size, i, none⟩ = _ := (Bx.step e0 b7).cell; have cK : w7.cell? ⟨w5.heap.size, 0, none⟩ = some (.int .i64 (q' : Int)) := (Bx.step eK b7).cell 0; have cC : w7.cell? ⟨w4.heap.size, 0, none⟩ = some (.slice V N cc) := (Bx.step eC b7).cell 0; have g1 : ∀ i, w7.cell? ⟨w.heap.size + 1 + 1, i, none⟩ = _ := (eT.step b7).cell; have k1 : ∀ i, w7.frozen? ⟨w.heap.size + 1 + 1, i, none⟩ = false := (eT.step b7).frozen))
      all_goals
        have hb7 := b7
        have g1 : ∀ i, w7.cell? ⟨w.heap.size + 1 + 1, i, none⟩ = _ := (eT.step hb7).cell
        have k1 : ∀ i, w7.frozen? ⟨w.heap.size + 1 + 1, i, none⟩ = false := (eT.step hb7).frozen
        go_wp2
        have hK4 := (hb7.block D hDW).trans hK
        have hTl := eT.lt
        have hK5 := (set5_heap w7 (w.heap.size + 1 + 1) (.int .i64 k) (.int .i64 2) (.int .i64 m) (.int .i64 ((q : Int) + (q' : Int))) (.slice V N cc) (b := D) (by omega)).trans hK4
        refine retME (B := w.heap.size + 1 + 1) rfl rfl hK5 rfl rfl ((eT.step hb7).set5 _ _ _ _ _) ?_
        exact RetA.mk (by rw [HR.out]) ((Sl.past5z (SV.out.step hb7) _ _ _ _ _ (fun h b o e => HNE.out b o e h)).putD hK5 (.deferred none)) (own_new HNO.out (by omega)) ((below_set5 (bst hB hb7) (by omega) _ _ _ _ _).trans (belowK_b (w := w) (Nat.le_refl _) _ D _ _ (by omega) hK5 rfl rfl))
  case stop =>
    rintro D c pre W _ _ h _
    exact h.elim
end Go.Proofs.Ytoapgknkenlcgaa

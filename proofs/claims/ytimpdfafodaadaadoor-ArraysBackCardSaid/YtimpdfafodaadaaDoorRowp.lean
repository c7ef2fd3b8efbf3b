/-
  arrays.Rows: the rows of an array.
-/
import Derived.Test.YtimpdfafodaadaaDoorMat
import Derived.Test.YtimpdfafodaadaaDoorRw
import Derived.Test.YtimpdfafodaadaaDoorStr
namespace Go.Proofs.YtimpdfafodaadaaDoor
open Go.RowKit
attribute [local go_sem] Oper.semAt_some

/-- xs in a rows of b cells. -/
def chunks (a b : Nat) (xs : List Int) : List (List Int) := (List.range a).map fun i => (xs.drop (i * b)).take b
/-- The rows of an array, as the document says. -/
def sRowsA (k r l0 l1 : Int) (xs : List Int) : List (List Int) × Int :=
  if achk k r l0 l1 xs ≠ 0 then ([], achk k r l0 l1 xs)
  else (chunks (sRows r l0 l1).1.toNat (sRows r l0 l1).2.1.toNat xs, 0)
theorem rows_nat {k r l0 l1 : Int} {xs : List Int} (h : achk k r l0 l1 xs = 0) : ∃ a b : Nat, sRows r l0 l1 = ((a : Int), (b : Int), 0) ∧ xs.length = a * b ∧ a ≤ 400 ∧ b ≤ 400 := by
  obtain ⟨_, h1, h2, _⟩ := achk_ok h
  rcases shp_ok h1 with ⟨rfl, rfl, rfl⟩ | ⟨rfl, a0, a1, rfl⟩ | ⟨rfl, a0, a1, b0, b1, c0⟩
  · refine ⟨1, 1, by simp [sRows, h1], ?_, by omega, by omega⟩
    simp [prodI] at h2
    omega
  · refine ⟨1, l0.toNat, by simp [sRows, h1]; omega, ?_, by omega, by omega⟩
    simp [prodI] at h2
    omega
  · obtain ⟨a, rfl⟩ : ∃ a : Nat, l0 = a := ⟨l0.toNat, by omega⟩
    obtain ⟨b, rfl⟩ : ∃ b : Nat, l1 = b := ⟨l1.toNat, by omega⟩
    refine ⟨a, b, by simp [sRows, h1], ?_, by omega, by omega⟩
    simp [prodI] at h2
    exact_mod_cast h2
/-- The rows and an error number. -/
def RetR (w : World) (L : List (List Int)) (ec : Int) (e : Ending) (w' : World) : Prop :=
  ∃ V n c rs, e = .returned (.tuple #[.slice V n c, .int .i64 ec]) ∧ SlR w' V n c rs ∧ xsOf rs = L ∧ Below w.heap.size w w'
theorem SlR.nil (w : World) : SlR w none 0 0 [] := ⟨rfl, Nat.le_refl _, Nat.zero_le _, fun h => absurd h (by omega), fun r hr => by cases hr⟩
theorem infoRow : (Tryd.prog.info? 23).map (fun i => (i.zero, i.size, i.bytes)) = some (some (.slice none 0 0), 1, 24) := by kernel_rfl
theorem wpList_append_row {ops : Array Oper} {rest : List Oper} {o : Oper} {a : Act} {w : World} {Q : Exit → Act → World → Prop} (hgd : o.guard = none) (s x : Operand)
    (ho : o.op = .call { callee := .builtin .append, args := #[s, x], argTypes := #[31, 31] })
    (base : Nat) (v : Value) (n : Nat) (xs : List Value) (hs : a.eval s = v) (hown : w.ownsRow base 23 1 v n xs)
    (b : Nat) (y : Value) (hy : y.oneCell' = true) (hx : a.eval x = .slice (some ⟨b, 0, none⟩) 1 1) (hr : w.cell? ⟨b, 0, none⟩ = some y) (hbig : n + 1 ≤ 10000000) (hbase : base ≤ w.heap.size)
    (h : ∀ A' c' w', w'.ownsRow base 23 1 (.slice A' (n + 1) c') (n + 1) (xs ++ [y]) → w.grownBy w' v.ownBlock → wpList Tryd.prog ops Q rest (a.put o.dst (.slice A' (n + 1) c')) w') : wpList Tryd.prog ops Q (o :: rest) a w := by
  obtain ⟨i0, hi, hz0, hz1, hz2⟩ := info_parts infoRow
  refine wpList_append_own w hgd s x 31 ho base 23 i0 (.slice none 0 0) 1 24 Tryd.underlying31 hi hz0 hz1 hz2 rfl (by decide) v n _ hs hown ⟨b, 0, none⟩ 1 1 [y] hx (by simp) ?_ (by simpa using hy) (by unfold maxLen; omega) (by omega) hbase ?_
  · intro j u hj
    have hj0 : j = 0 := by
      have := (List.getElem?_eq_some_iff.1 hj).1
      simp at this
      exact this
    subst hj0
    simp at hj
    subst hj
    rw [Addr.add_lit]
    exact hr
  · intro v' w' hown' hg _
    obtain ⟨A', c', rfl⟩ := own_slice hown'
    exact h A' c' w' (by simpa using hown') hg
/-- A row of slices of the call's own reads as a slice of slices. -/
theorem SlR.of_own {w : World} {base n c : Nat} {A : Option Addr} {rs : List RowS} (h : w.ownsRow base 23 1 (.slice A n c) n (rs.map RowS.val)) (hr : ∀ r ∈ rs, Sl w r.a r.xs.length r.c r.xs) : SlR w A n c rs := by
  have hl : rs.length = n := by have := h.1; simpa using this
  rcases h.2 with ⟨h1, hx⟩ | ⟨g, cap, cur, h1, hb, hg, hn, hm, hs, ht⟩
  · simp only [Value.slice.injEq] at h1
    obtain ⟨rfl, h2, rfl⟩ := h1
    exact ⟨hl, by omega, Nat.zero_le _, fun h => by omega, hr⟩
  · simp only [Value.slice.injEq] at h1
    obtain ⟨rfl, _, rfl⟩ := h1
    refine ⟨hl, hn, hm, fun _ => ⟨g, 0, rfl, Bx.lt (w := w) (cs := cur) hg, fun j hj => ?_⟩, hr⟩
    have h2 : (rs.map RowS.val)[j]? = some ((rs.getD j rowS0).val) := by
      rw [List.getElem?_map, List.getElem?_eq_getElem (by omega), List.getD, List.getElem?_eq_getElem (by omega)]; rfl
    rw [← ht, Nat.mul_one, List.getElem?_take, if_pos hj] at h2
    rw [Nat.zero_add, Bx.cell (w := w) (cs := cur) hg]
    simpa using h2
/-- s[:q:q]. -/
theorem Sl.to3 {w : World} {A : Option Addr} {n c q : Nat} {xs : List Int} (h : Sl w A n c xs) (hq : q ≤ n) : Sl w A q q (xs.take q) := by
  obtain ⟨h1, h2, h3, h4⟩ := h.to hq
  exact ⟨h1, Nat.le_refl _, by omega, h4⟩
set_option maxHeartbeats 1000000 in
theorem aRows_any (k r l0 l1 : Int) (A : Option Addr) (n c : Nat) (xs : List Int) (L : List (List Int)) (ec : Int) (w : World) (hs : Sl w A n c xs) (h : sRowsA k r l0 l1 xs = (L, ec)) :
    Calls Tryd.prog 15 #[.agg #[.int .i64 k, .int .i64 r, .int .i64 l0, .int .i64 l1, .slice A n c]] w (RetR w L ec) := by
  have HS := Lib.hid hs
  have HL := Lib.hid hs.len
  clear hs
  unfold sRowsA at h
  by_cases hc : achk k r l0 l1 xs = 0
  · rw [if_neg (fun g => g hc)] at h
    obtain ⟨a, b, hab, hlen, ha, hb4⟩ := rows_nat hc
    rw [hab] at h
    simp only [Int.toNat_natCast] at h
    obtain ⟨rfl, rfl⟩ := Prod.mk.inj h
    have HC := Lib.hid hc
    have HAB := Lib.hid hab
    have hn4 : n ≤ 400 := by rw [← HL.out]; exact achk_len hc
    have HN : Hid (n = a * b) := Lib.hid (by rw [← HL.out, hlen])
    clear h hc hab hlen
    go_enter Tryd.func15, Tryd.ntmps15
    go_wp2_with fail
    refine (acheck_any k r l0 l1 A n c xs 0 _ (HS.out.step (below1 _ _)) HC.out).mono ?_
    rintro e w1 ⟨rfl, hb1⟩
    obtain ⟨X, b1⟩ := after1 hb1
    clear hb1
    have d0 : ∀ i, w1.cell? ⟨w.heap.size, i, none⟩ = _ := Bx.cell X
    have HX := Lib.hid X
    clear X
    go_wp2_with fail
    refine (rows_any r l0 l1 a b 0 _ HAB.out).mono ?_
    rintro e w1' ⟨rfl, hb1⟩
    have X := Bx.step HX.out hb1
    replace b1 := bst b1 hb1
    clear hb1 d0 HX
    have d0 : ∀ i, w1'.cell? ⟨w.heap.size, i, none⟩ = _ := Bx.cell X
    go_wp2_with fail
    refine (clone_any A n c xs _ (HS.out.step b1) (by omega)).mono ?_
    rintro e w2 ⟨⟨A2, c2, rfl, _, hS2, _⟩, hb2⟩
    have b2 := bst b1 hb2
    have S2 := Lib.hid hS2
    have hn2 := hS2.cap
    have hmx : c2 ≤ 9223372036854775807 := by have := hS2.most; unfold maxLen at this; omega
    clear hS2 hb2 d0 X
    go_wp2
    go_loopw [8, 9, 31] (fun rest out i wr => ∃ (j m : Nat) (V : Option Addr) (vc : Nat) (R : Option Addr) (rc : Nat) (rs : List RowS), rest = .slice R m rc ∧ out = .slice V j vc ∧ i = .int .i64 j ∧ j ≤ a ∧ m ≤ rc ∧ rc ≤ 9223372036854775807 ∧ Hid (m = n - j * b) ∧ Below w2.heap.size w2 wr ∧ Hid (wr.ownsRow w2.heap.size 23 1 (.slice V j vc) j (rs.map RowS.val)) ∧ Hid (Sl w2 R m rc (xs.drop (j * b))) ∧ Hid (xsOf rs = chunks j b xs) ∧ Hid (∀ r ∈ rs, Sl w2 r.a r.xs.length r.c r.xs)) (fun _ _ i _ => a - (intOf i).toNat)
    case atStart => exact ⟨0, n, none, 0, A2, c2, [], rfl, rfl, rfl, Nat.zero_le _, hn2, hmx, Lib.hid (by simp), Below.refl _ _, Lib.hid (World.ownsRow_nil _ _ _ _), Lib.hid (by simpa using S2.out), Lib.hid rfl, Lib.hid (fun r hr => by cases hr)⟩
    case round =>
      obtain ⟨j, m, V, vc, R, rc, rs, rfl, rfl, rfl, hj, hm, hrc, HM, hb, HO, HR, HXS, HRS⟩ := hrel
      by_cases hlt : j < a
      · have hjn : (j : Int) < (a : Int) := by omega
        have hbm : b ≤ m := by
          rw [HM.out, HN.out]
          have : (j + 1) * b ≤ a * b := Nat.mul_le_mul_right b hlt
          rw [Nat.succ_mul] at this
          omega
        have i1 : (b : Int) ≤ (m : Int) := by omega
        have i2 : (b : Int) ≤ (rc : Int) := by omega
        have i3 : (m : Int) ≤ (rc : Int) := by omega
        have hz := hb.size
        have HOA := Lib.hid (HO.out.alloc (.cells #[.slice R b b] 23))
        have HZA := Lib.hid (show w2.heap.size ≤ (wr.alloc (.cells #[.slice R b b] 23)).heap.size by rw [World.size_alloc]; omega)
        have HCA := Lib.hid ((Bx.new wr #[.slice R b b] 23).cell 0)
        go_wp2_with (at_builtin; refine wpList_append_row rfl _ _ rfl w2.heap.size _ j (rs.map RowS.val) rfl HOA.out wr.heap.size (.slice R b b) rfl rfl HCA.out (by omega) HZA.out ?_)
        intro A3 c3 w3 hO3 hg3
        have b3 : Below w2.heap.size w2 w3 := Below.grown (bal hb _) hg3 (bal hb (.cells #[.slice R b b] 23)).size (fun k hk => by have := (HO.out.lt k hk).1; omega)
        have hlb : ((xs.drop (j * b)).take b).length = b := by
          have := HR.out.len
          rw [List.length_take]
          omega
        have HO3 : Hid (w3.ownsRow w2.heap.size 23 1 (.slice A3 (j + 1) c3) (j + 1) ((rs ++ [(⟨R, b, (xs.drop (j * b)).take b⟩ : RowS)]).map RowS.val)) := Lib.hid (by
          rw [List.map_append]
          simpa [RowS.val, hlb] using hO3)
        have HX3 : Hid (xsOf (rs ++ [(⟨R, b, (xs.drop (j * b)).take b⟩ : RowS)]) = chunks (j + 1) b xs) := Lib.hid (by
          have h1 := HXS.out
          unfold chunks at h1 ⊢
          rw [List.range_succ, List.map_append, ← h1]
          simp [xsOf])
        have HR3 : Hid (∀ r ∈ rs ++ [(⟨R, b, (xs.drop (j * b)).take b⟩ : RowS)], Sl w2 r.a r.xs.length r.c r.xs) := Lib.hid (fun q hq => by
          rcases List.mem_append.1 hq with h1 | h1
          · exact HRS.out q h1
          · obtain rfl := List.mem_singleton.1 h1
            simp only [hlb]
            exact HR.out.to3 hbm)
        have HS3 : Hid (Sl w2 (if rc = b then R else R.map (·.add b)) (m - b) (rc - b) (xs.drop ((j + 1) * b))) := Lib.hid (by
          have := HR.out.from hbm
          rwa [List.drop_drop, show j * b + b = (j + 1) * b by rw [Nat.succ_mul]] at this)
        have HM3 : Hid (m - b = n - (j + 1) * b) := Lib.hid (by have := HM.out; rw [Nat.succ_mul]; omega)
        clear hO3 hg3 hlb HOA HZA HCA HO
        go_wp2
        go_round
        case rel => exact ⟨j + 1, m - b, A3, c3, _, rc - b, _, rfl, rfl, by go_num, by omega, by omega, by omega, HM3, b3, HO3, HS3, HX3, HR3⟩
        case measure => simp [intOf]; omega
      · obtain rfl : j = a := by omega
        go_wp2
        go_ret2
        exact ⟨V, j, vc, rs, rfl, SlR.of_own HO.out (fun r hr => (HRS.out r hr).step hb), HXS.out, bst b2 hb⟩
  · rw [if_pos hc] at h
    obtain ⟨rfl, he⟩ := Prod.mk.inj h
    have HE := Lib.hid he
    have hne : (ec != 0) = true := by rw [← he]; simpa using hc
    clear h he hc
    go_enter Tryd.func15, Tryd.ntmps15
    go_wp2_with fail
    refine (acheck_any k r l0 l1 A n c xs ec _ (HS.out.step (below1 _ _)) HE.out).mono ?_
    rintro e w1 ⟨rfl, hb1⟩
    go_wp2
    go_ret2
    exact ⟨none, 0, 0, [], rfl, SlR.nil _, rfl, bst (below1 _ _) hb1⟩
end Go.Proofs.YtimpdfafodaadaaDoor

/-
  arrays.Text.
-/
import Derived.Test.YtimpdfafodaadaaDoorTxt
import Derived.Test.YtimpdfafodaadaaDoorShelf6
import Derived.Laws.RangeAny
import Derived.Lib.RuneCount
namespace Go.Proofs.YtimpdfafodaadaaDoor
open Go.RowKit

/-! ### A string that is ranged over, its iterator anywhere in memory -/
def setIt (w : World) (r : Nat) (s : ByteArray) (pos : Nat) : World := { w with heap := w.heap.setIfInBounds r (.stringIter s pos) }
theorem setIt_size (w : World) (r : Nat) (s : ByteArray) (pos : Nat) : (setIt w r s pos).heap.size = w.heap.size := by simp [setIt]
theorem setIt_other {w : World} {r : Nat} {s : ByteArray} {pos b : Nat} (h : b ≠ r) : (setIt w r s pos).heap[b]? = w.heap[b]? := by
  simp only [setIt]
  exact Array.getElem?_setIfInBounds_ne (fun e => h e.symm)
theorem setIt_self {w : World} {r : Nat} {s : ByteArray} {pos : Nat} (h : r < w.heap.size) : (setIt w r s pos).heap[r]? = some (.stringIter s pos) := by
  simp [setIt, h]
theorem below_setIt {w0 w : World} (h : Below w0.heap.size w0 w) {r : Nat} (hr : w0.heap.size ≤ r) (s : ByteArray) (pos : Nat) : Below w0.heap.size w0 (setIt w r s pos) :=
  ⟨h.os, h.tape, h.output, by rw [setIt_size]; exact h.size, fun b hb => (setIt_other (by omega)).trans (h.block b hb)⟩
theorem next_at (w : World) (r : Nat) (s : ByteArray) (pos : Nat) (ty : TypeId) (hr : w.heap[r]? = some (.stringIter s pos)) (h : pos < s.size) :
    (Instr.next (.pointer (some ⟨r, 0, none⟩)) true ty).run Tryd.prog w = .ok (.tuple #[.bool true, .int .i64 pos, .int .i32 (Utf8.decode s pos).1]) (setIt w r s (pos + (Utf8.decode s pos).2)) := by
  have hlt : r < w.heap.size := by
    rcases Nat.lt_or_ge r w.heap.size with h | h
    · exact h
    · rw [Array.getElem?_eq_none h] at hr; cases hr
  simp [Instr.next, getObj, setObj, Sem.run, hr, Result.andThen, h, goInt, setIt]
theorem next_end (w : World) (r : Nat) (s : ByteArray) (pos : Nat) (ty : TypeId) (hr : w.heap[r]? = some (.stringIter s pos)) (h : ¬ pos < s.size) :
    (Instr.next (.pointer (some ⟨r, 0, none⟩)) true ty).run Tryd.prog w = .ok (.tuple #[.bool false]) w := by
  simp [Instr.next, getObj, Sem.run, hr, h]

/-! ### The end of a string -/
theorem get_out (t : ByteArray) (k : Nat) (h : ¬ k < t.size) : t.get! k = 0 := by
  cases t with
  | mk d =>
    simp only [ByteArray.get!]
    have : ¬ k < d.size := h
    simp [this]
    rfl
theorem ext_get (s : ByteArray) (p k : Nat) : (s.extract p s.size).get! k = s.get! (p + k) := by
  by_cases h : k < (s.extract p s.size).size
  · have h2 : p + k < s.size := by rw [ByteArray.size_extract] at h; omega
    rw [← get_idx _ _ h, ← get_idx _ _ h2]
    exact ByteArray.getElem_extract h
  · have h2 : ¬ p + k < s.size := by rw [ByteArray.size_extract] at h; omega
    rw [get_out _ _ h, get_out _ _ h2]
theorem decode_ext (s : ByteArray) (p : Nat) : Utf8.decode (s.extract p s.size) 0 = Utf8.decode s p := by
  rw [Lib.decode_at, Lib.decode_at, ext_get, ext_get, ext_get, ext_get, ByteArray.size_extract]
  simp only [Nat.min_self, Nat.zero_add, Nat.add_zero, Nat.sub_zero]
theorem decP_eq (s : ByteArray) (p : Nat) : decP (s.extract p s.size) = (if (Utf8.decode s p).1 = 65533 ∧ (Utf8.decode s p).2 < 2 then (0, 0) else (((Utf8.decode s p).1 : Int), ((Utf8.decode s p).2 : Int))) := by
  unfold decP
  rw [rdec_eq _ (bytesOf _) (fun k => u8_lt _ k)]
  rw [← decode_ext, Lib.decode_at]
  simp only [bytesOf, Nat.zero_add, Nat.sub_zero]
  rfl
theorem ext_ext (s : ByteArray) (p m : Nat) : (s.extract p s.size).extract m (s.extract p s.size).size = s.extract (p + m) s.size := by
  rw [ByteArray.extract_extract, ByteArray.size_extract, Nat.min_self]
  by_cases h : p ≤ s.size
  · congr 1; omega
  · apply ByteArray.ext
    rw [ByteArray.data_extract, ByteArray.data_extract]
    have e1 : (s.data.extract (p + m) (min (p + (s.size - p)) s.size)).size = 0 := by rw [Array.size_extract]; show min (min (p + (s.size - p)) s.size) s.data.size - (p + m) = 0; omega
    have e2 : (s.data.extract (p + m) s.size).size = 0 := by rw [Array.size_extract]; show min s.size s.data.size - (p + m) = 0; omega
    rw [Array.eq_empty_of_size_eq_zero e1, Array.eq_empty_of_size_eq_zero e2]

/-! ### append of one rune -/
theorem infoRune : (Tryd.prog.info? 21).map (fun i => (i.zero, i.size, i.bytes)) = some (some (.int .i32 0), 1, 4) := by kernel_rfl
theorem own_row_ne2 {w : World} {base n B : Nat} {E : TypeId} {v : Value} {xs : List Value} {cs : Array Value} {T : TypeId} (h : w.ownsRow base E 1 v n xs) (hx : Bx w B cs T) (hT : E ≠ T) : some B ≠ v.ownBlock := by
  rcases h.2 with ⟨h1, _⟩ | ⟨g, cap, cur, h1, hb, hg, hn, hm, hs, ht⟩
  · rw [h1]; simp [Value.ownBlock]
  · rw [h1]
    simp only [Value.ownBlock, ne_eq, Option.some.injEq]
    intro e
    subst e
    unfold Bx at hx
    rw [hg] at hx
    simp only [Option.some.injEq, Obj.cells.injEq] at hx
    exact hT hx.2.1
theorem own_it {w : World} {base n r : Nat} {E : TypeId} {v : Value} {xs : List Value} {s : ByteArray} {pos : Nat} (h : w.ownsRow base E 1 v n xs) (hr : w.heap[r]? = some (.stringIter s pos)) : some r ≠ v.ownBlock := by
  rcases h.2 with ⟨h1, _⟩ | ⟨g, cap, cur, h1, hb, hg, hn, hm, hs, ht⟩
  · rw [h1]; simp [Value.ownBlock]
  · rw [h1]
    simp only [Value.ownBlock, ne_eq, Option.some.injEq]
    intro e
    subst e
    rw [hg] at hr
    cases hr
theorem own_setIt {w : World} {base n r : Nat} {E : TypeId} {v : Value} {xs : List Value} {s : ByteArray} {pos pos' : Nat} (h : w.ownsRow base E 1 v n xs) (hr : w.heap[r]? = some (.stringIter s pos)) : (setIt w r s pos').ownsRow base E 1 v n xs := by
  have hne := own_it h hr
  refine ⟨h.1, ?_⟩
  rcases h.2 with h1 | ⟨g, cap, cur, h1, hbs, hg, h2⟩
  · exact .inl h1
  · refine .inr ⟨g, cap, cur, h1, hbs, (setIt_other ?_).trans hg, h2⟩
    intro e
    subst e
    exact hne (by rw [h1]; rfl)
theorem own_slice {w : World} {base n : Nat} {E : TypeId} {v : Value} {xs : List Value} (h : w.ownsRow base E 1 v n xs) : ∃ A c, v = .slice A n c := by
  rcases h.2 with ⟨h1, hx⟩ | ⟨g, cap, cur, h1, _⟩
  · subst hx
    exact ⟨none, 0, h1⟩
  · exact ⟨_, _, h1⟩
/-- A row of runes of the call's own reads as a list. -/
theorem Sr.of_own {w : World} {base n c : Nat} {A : Option Addr} {xs : List Int} (h : w.ownsRow base 21 1 (.slice A n c) n (xs.map (Value.int .i32))) : Sr w A n c xs := by
  have hl : xs.length = n := by have := h.1; simpa using this
  rcases h.2 with ⟨h1, hx⟩ | ⟨g, cap, cur, h1, hb, hg, hn, hm, hs, ht⟩
  · simp only [Value.slice.injEq] at h1
    obtain ⟨rfl, h2, rfl⟩ := h1
    exact ⟨hl, by omega, Nat.zero_le _, fun h => by omega⟩
  · simp only [Value.slice.injEq] at h1
    obtain ⟨rfl, _, rfl⟩ := h1
    refine ⟨hl, hn, hm, fun _ => ⟨g, 0, rfl, Bx.lt (w := w) (cs := cur) hg, fun j hj => ?_⟩⟩
    have h2 : (xs.map (Value.int .i32))[j]? = some (.int .i32 (xs.getD j 0)) := by
      rw [List.getElem?_map, List.getElem?_eq_getElem (by omega), getD_get (by omega)]; rfl
    rw [← ht, Nat.mul_one, List.getElem?_take, if_pos hj] at h2
    rw [Nat.zero_add, Bx.cell (w := w) (cs := cur) hg]
    simpa using h2
theorem wpList_append_rune {ops : Array Oper} {rest : List Oper} {o : Oper} {a : Act} {w : World} {Q : Exit → Act → World → Prop} (hgd : o.guard = none) (s x : Operand)
    (ho : o.op = .call { callee := .builtin .append, args := #[s, x], argTypes := #[63, 63] }) (_hty : o.type = 63)
    (base : Nat) (v : Value) (n : Nat) (xs : List Int) (hs : a.eval s = v) (hown : w.ownsRow base 21 1 v n (xs.map (Value.int .i32)))
    (b : Nat) (y : Int) (hx : a.eval x = .slice (some ⟨b, 0, none⟩) 1 1) (hr : w.cell? ⟨b, 0, none⟩ = some (.int .i32 y)) (hbig : n + 1 ≤ 10000000) (hbase : base ≤ w.heap.size)
    (h : ∀ A' c' w', w'.ownsRow base 21 1 (.slice A' (n + 1) c') (n + 1) ((xs ++ [y]).map (Value.int .i32)) → w.grownBy w' v.ownBlock → wpList Tryd.prog ops Q rest (a.put o.dst (.slice A' (n + 1) c')) w') : wpList Tryd.prog ops Q (o :: rest) a w := by
  obtain ⟨i0, hi, hz0, hz1, hz2⟩ := info_parts infoRune
  refine wpList_append_own w hgd s x 63 ho base 21 i0 (.int .i32 0) 1 4 Tryd.underlying63 hi hz0 hz1 hz2 rfl (by decide) v n _ hs hown ⟨b, 0, none⟩ 1 1 [.int .i32 y] hx (by simp) ?_ (by simp [Value.oneCell']) (by unfold maxLen; omega) (by omega) hbase ?_
  · intro j u hj
    have hj0 : j = 0 := by
      have := (List.getElem?_eq_some_iff.1 hj).1
      simp at this
      exact this
    subst hj0
    simp at hj
    subst hj
    rw [Addr.add_lit]
    exact hr
  · intro v' w' hown' hg _
    obtain ⟨A', c', rfl⟩ := own_slice hown'
    exact h A' c' w' (by simpa using hown') hg
theorem runes_bound {T : List Int} : ∀ (f : Nat) (t : ByteArray) (done : List Int), (∀ x ∈ done, 0 ≤ x ∧ x ≤ 1114111) → (txL f t).map (fun l => done ++ l) = some T → ∀ x ∈ T, 0 ≤ x ∧ x ≤ 1114111 := by
  intro f
  induction f with
  | zero =>
    intro t done hd h
    simp only [txL, Option.map_some, List.append_nil, Option.some.injEq] at h
    rw [← h]; exact hd
  | succ f ih =>
    intro t done hd h
    by_cases h0 : t.size = 0
    · rw [txL_end h0] at h
      simp only [Option.map_some, List.append_nil, Option.some.injEq] at h
      rw [← h]; exact hd
    · by_cases h1 : (decP t).2 = 0
      · rw [txL, if_neg h0, if_pos h1] at h; cases h
      · rw [txL_some (by omega) h1, Option.map_map] at h
        obtain ⟨_, _, h2, h3, _⟩ := (decP_bounds (t := t) (by omega)).resolve_left h1
        refine ih _ (done ++ [(decP t).1]) ?_ (by rw [← h]; congr 1; funext l; simp)
        intro x hx
        rw [List.mem_append, List.mem_singleton] at hx
        rcases hx with hx | rfl
        · exact hd x hx
        · exact ⟨h2, h3⟩
theorem txL_fuel {f g : Nat} {t : ByteArray} (hf : t.size ≤ f) (hg : t.size ≤ g) : txL f t = txL g t := by
  induction f generalizing g t with
  | zero => rw [txL_end (by omega), txL_end (by omega)]
  | succ f ih =>
    by_cases h0 : t.size = 0
    · rw [txL_end h0, txL_end h0]
    · obtain ⟨g, rfl⟩ : ∃ g', g = g' + 1 := ⟨g - 1, by omega⟩
      by_cases h1 : (decP t).2 = 0
      · rw [txL_none (by omega) hf h1, txL_none (by omega) hg h1]
      · obtain ⟨h2, h3, _⟩ := (decP_bounds (t := t) (by omega)).resolve_left h1
        rw [txL_some (by omega) h1, txL_some (by omega) h1]
        rw [ih (g := g) (by rw [ByteArray.size_extract]; omega) (by rw [ByteArray.size_extract]; omega)]
set_option maxHeartbeats 2000000 in
theorem aText_any (s : ByteArray) (R : Arr × Int) (w : World) (hsz : s.size ≤ 1000000) (hT8 : Lib.Utf8Tabs 0 1 w) (h : sText s = R) :
    Calls Tryd.prog 22 #[.string s] w (RetA w R) := by
  obtain ⟨T, hT⟩ : ∃ T, txL s.size s = T := ⟨_, rfl⟩
  unfold sText at h
  rw [hT] at h
  have HR := Lib.hid h
  have HT := Lib.hid hT
  have H8 := Lib.hid hT8
  clear h hT hT8
  go_enter Tryd.func22, Tryd.ntmps22
  go_wp2
  go_loopw [4, 5, 6, 7, 8] (fun v x1 x2 x3 x4 wr => ∃ (pos N : Nat) (done : List Int) (V : Option Addr) (vc : Nat), v = .slice V N vc ∧ pos ≤ s.size ∧ N ≤ pos ∧ Below w.heap.size w wr ∧ Hid (Bx wr w.heap.size #[.int .i64 0, .int .i64 0, .int .i64 0, .int .i64 0, .slice none 0 0] 25) ∧ Hid (wr.heap[w.heap.size + 1]? = some (.stringIter s pos)) ∧ Hid (wr.ownsRow (w.heap.size + 1 + 1) 21 1 (.slice V N vc) N (done.map (Value.int .i32))) ∧ Hid (w.heap.size + 1 + 1 ≤ wr.heap.size) ∧ Hid (done.length = N) ∧ Hid ((txL (s.size - pos) (s.extract pos s.size)).map (fun l => done ++ l) = T)) (fun _ _ _ _ _ wr => s.size - wr.iterPos (w.heap.size + 1))
  case atStart => exact ⟨0, 0, [], none, 0, rfl, by omega, Nat.le_refl _, below2 _ _ _, Lib.hid ((Bx.new _ _ _).alloc _), Lib.hid (by have := World.iter_heap (w.alloc (.cells #[.int .i64 0, .int .i64 0, .int .i64 0, .int .i64 0, .slice none 0 0] 25)) s 0; rwa [World.size_alloc] at this), Lib.hid (World.ownsRow_nil _ _ _ _), Lib.hid (by simp [World.iter]), Lib.hid rfl, Lib.hid (by rw [Nat.sub_zero, show s.extract 0 s.size = s by simp, HT.out]; cases T <;> rfl)⟩
  case round =>
    obtain ⟨pos, N, done, V, vc, rfl, hp, hN, hb, HX, HI, HO, HZ, HL, HQ⟩ := hrel
    have hpo : wr.iterPos (w.heap.size + 1) = pos := by simp only [World.iterPos, HI.out]
    rw [hpo]
    by_cases h0 : pos < s.size
    · obtain ⟨⟨c, m⟩, hd⟩ : ∃ d, Utf8.decode s pos = d := ⟨_, rfl⟩
      have hnx0 := fun ty => next_at wr (w.heap.size + 1) s pos ty HI.out h0
      rw [hd] at hnx0
      simp only at hnx0
      obtain ⟨w1, hw1⟩ : ∃ w1, setIt wr (w.heap.size + 1) s (pos + m) = w1 := ⟨_, rfl⟩
      rw [hw1] at hnx0
      have b1 : Below w.heap.size w w1 := by rw [← hw1]; exact below_setIt hb (by omega) _ _
      have hzz := HZ.out
      have hrl : w.heap.size + 1 < wr.heap.size := by omega
      have I1 : w1.heap[w.heap.size + 1]? = some (.stringIter s (pos + m)) := by rw [← hw1]; exact setIt_self hrl
      have X1 : Bx w1 w.heap.size #[.int .i64 0, .int .i64 0, .int .i64 0, .int .i64 0, .slice none 0 0] 25 := by rw [← hw1]; exact (setIt_other (by omega)).trans HX.out
      have O1 : w1.ownsRow (w.heap.size + 1 + 1) 21 1 (.slice V N vc) N (done.map (Value.int .i32)) := by rw [← hw1]; exact own_setIt HO.out HI.out
      have Z1 : w.heap.size + 1 + 1 ≤ w1.heap.size := by rw [← hw1, setIt_size]; exact hzz
      have hus : (s.extract pos s.size).size = s.size - pos := by rw [ByteArray.size_extract, Nat.min_self]
      have hdp := decP_eq s pos
      rw [hd] at hdp
      simp only at hdp
      have hbd := decP_bounds (t := s.extract pos s.size) (by rw [hus]; omega)
      have hpi : (pos : Int) ≤ (s.size : Int) := by omega
      have hm0 : 1 ≤ m := by
        have := Lib.decode_width_pos s pos h0
        rw [hd] at this
        exact this
      have hgo : Lib.decodeGo (s.extract pos s.size) = (c, m) := by
        unfold Lib.decodeGo
        rw [if_neg (by rw [hus]; omega), decode_ext, hd]
      obtain ⟨u, hu⟩ : ∃ u, s.extract pos s.size = u := ⟨_, rfl⟩
      rw [hu] at hus hdp hbd hgo
      have HU := Lib.hid hu
      have HGO := Lib.hid hgo
      have HI1 := Lib.hid I1
      have HX1 := Lib.hid X1
      have HO1 := Lib.hid O1
      clear hw1 HI HX HO I1 X1 O1 hgo hpo hd
      by_cases hbad : c = 65533 ∧ m < 2
      · obtain ⟨rfl, hm2⟩ := hbad
        rw [if_pos ⟨rfl, hm2⟩] at hdp
        have hi := HQ.out
        rw [txL_none (by rw [hu, hus]; omega) (by rw [hu, hus]; omega) (by rw [hu, hdp])] at hi
        subst hi
        have HRR := Lib.hid (show (zA, (6 : Int)) = R from HR.out)
        have hm2' : (m : Int) < 2 := by omega
        have eu : s.extract pos s.size = u := hu
        clear hu hbd hdp HQ HR hus HT
        go_wp2_with fail
        refine (Tryd.utf8_DecodeRuneInString u _ (Utf8Tabs_below H8.out b1)).mono ?_
        rintro e w2 ⟨rfl, hb2⟩
        rw [HGO.out]
        have X2 := HX1.out.step hb2
        have e0 : ∀ i, w2.cell? ⟨w.heap.size, i, none⟩ = _ := Bx.cell X2
        have f0 : ∀ i, w2.frozen? ⟨w.heap.size, i, none⟩ = false := Bx.frozen X2
        have p0 := X2.lt
        go_wp2
        refine retAE (B := w.heap.size) rfl rfl rfl rfl (X2.set5 _ _ _ _ _) ?_
        exact RetA.mk HRR.out.symm (Sl.nil _) (fun b o s e => by cases e) (below_set5 (bst b1 hb2) (Nat.le_refl _) _ _ _ _ _)
      · rw [if_neg hbad] at hdp
        have hm1 : (decP u).2 ≠ 0 := by
          rw [hdp]
          simp only
          intro e
          omega
        obtain ⟨hg1, hg2, hg3, hg4, _⟩ := hbd.resolve_left hm1
        rw [hdp] at hg1 hg2 hg3 hg4
        simp only at hg1 hg2 hg3 hg4
        rw [hus] at hg2
        have hmp : pos + m ≤ s.size := by omega
        have hi := HQ.out
        obtain ⟨g, hg⟩ : ∃ g, s.size - pos = g + 1 := ⟨s.size - pos - 1, by omega⟩
        rw [hg, hu, txL_some (by rw [hus]; omega) hm1, hdp] at hi
        simp only [Int.toNat_natCast] at hi
        rw [← hu, ext_ext] at hi
        have hfu : ∀ q t, t.size ≤ q → t.size ≤ g → txL q t = txL g t := fun q t h1 h2 => txL_fuel h1 h2
        rw [hfu g _ (by rw [ByteArray.size_extract]; omega) (by rw [ByteArray.size_extract]; omega), ← hfu (s.size - (pos + m)) _ (by rw [ByteArray.size_extract]; omega) (by rw [ByteArray.size_extract]; omega)] at hi
        have HST := Lib.hid (show (txL (s.size - (pos + m)) (s.extract (pos + m) s.size)).map (fun l => (done ++ [(c : Int)]) ++ l) = T by rw [← hi, Option.map_map]; congr 1; funext l; simp)
        have eu : s.extract pos s.size = u := hu
        clear hu hbd hdp HQ hus hm1 hi hfu hg
        have hc4 : (c : Int) ≤ 1114111 := hg4
        by_cases hc : c = 65533
        · subst hc
          have hm2' : ¬ (m : Int) < 2 := by omega
          clear hbad
          go_wp2_with fail
          refine (Tryd.utf8_DecodeRuneInString u _ (Utf8Tabs_below H8.out b1)).mono ?_
          rintro e w2 ⟨rfl, hb2⟩
          rw [HGO.out]
          have I2 : w2.heap[w.heap.size + 1]? = some (.stringIter s (pos + m)) := (hb2.block _ (by omega)).trans HI1.out
          have X2 := HX1.out.step hb2
          have O2 := own_step HO1.out hb2
          have Z2 : w.heap.size + 1 + 1 ≤ w2.heap.size := Nat.le_trans Z1 hb2.size
          have b2 := bst b1 hb2
          have HOA := Lib.hid (O2.alloc (.cells #[.int .i32 (65533 : Int)] 21))
          have HZA := Lib.hid (show w.heap.size + 1 + 1 ≤ (w2.alloc (.cells #[.int .i32 (65533 : Int)] 21)).heap.size by simp; omega)
          have HCA := Lib.hid ((Bx.new w2 #[.int .i32 (65533 : Int)] 21).cell 0)
          have HXX := Lib.hid X2
          have HII := Lib.hid I2
          clear X2 I2 O2
          go_wp2_with (at_builtin; refine wpList_append_rune rfl _ _ rfl rfl (w.heap.size + 1 + 1) _ N done rfl HOA.out w2.heap.size (65533 : Int) rfl HCA.out (by omega) HZA.out ?_)
          intro A3 c3 w3 hO3 hg3
          have X3 : Bx w3 w.heap.size #[.int .i64 0, .int .i64 0, .int .i64 0, .int .i64 0, .slice none 0 0] 25 := Bx.grown (Bx.alloc HXX.out _) hg3 (own_row_ne2 HOA.out (Bx.alloc HXX.out _) (by decide))
          have IA : (w2.alloc (.cells #[.int .i32 (65533 : Int)] 21)).heap[w.heap.size + 1]? = some (.stringIter s (pos + m)) := (Below.heap_alloc w2 _ _ (by omega)).trans HII.out
          have I3 : w3.heap[w.heap.size + 1]? = some (.stringIter s (pos + m)) := (hg3.block _ (by simp; omega) (own_it HOA.out IA)).trans IA
          have b3 : Below w.heap.size w w3 := Below.grown (bal b2 _) hg3 (bal b2 _).size (fun k hk => by have := (HOA.out.lt k hk).1; omega)
          have Z3 : w.heap.size + 1 + 1 ≤ w3.heap.size := Nat.le_trans HZA.out hg3.size
          have hp3 : w3.iterPos (w.heap.size + 1) = pos + m := by simp only [World.iterPos, I3]
          have HI3 := Lib.hid I3
          have HX3 := Lib.hid X3
          have HO3 : Hid (w3.ownsRow (w.heap.size + 1 + 1) 21 1 (.slice A3 (N + 1) c3) (N + 1) ((done ++ [(65533 : Int)]).map (Value.int .i32))) := Lib.hid (by simpa using hO3)
          clear I3 X3 hO3 hg3
          go_wp2
          refine ⟨⟨pos + m, N + 1, done ++ [(65533 : Int)], A3, c3, rfl, hmp, by omega, b3, HX3, HI3, HO3, Lib.hid Z3, Lib.hid (by have := HL.out; simp; omega), HST⟩, ?_⟩
          rw [hp3]
          omega
        · have hc' : ((c : Int) == 65533) = false := by simp; omega
          have I2 := HI1.out
          have X2 := HX1.out
          have O2 := HO1.out
          clear hbad hc
          have HOA := Lib.hid (O2.alloc (.cells #[.int .i32 (c : Int)] 21))
          have HZA := Lib.hid (show w.heap.size + 1 + 1 ≤ (w1.alloc (.cells #[.int .i32 (c : Int)] 21)).heap.size by simp; omega)
          have HCA := Lib.hid ((Bx.new w1 #[.int .i32 (c : Int)] 21).cell 0)
          have HXX := Lib.hid X2
          have HII := Lib.hid I2
          clear X2 I2 O2
          go_wp2_with (at_builtin; refine wpList_append_rune rfl _ _ rfl rfl (w.heap.size + 1 + 1) _ N done rfl HOA.out w1.heap.size (c : Int) rfl HCA.out (by omega) HZA.out ?_)
          intro A3 c3 w3 hO3 hg3
          have X3 : Bx w3 w.heap.size #[.int .i64 0, .int .i64 0, .int .i64 0, .int .i64 0, .slice none 0 0] 25 := Bx.grown (Bx.alloc HXX.out _) hg3 (own_row_ne2 HOA.out (Bx.alloc HXX.out _) (by decide))
          have IA : (w1.alloc (.cells #[.int .i32 (c : Int)] 21)).heap[w.heap.size + 1]? = some (.stringIter s (pos + m)) := (Below.heap_alloc w1 _ _ (by omega)).trans HII.out
          have I3 : w3.heap[w.heap.size + 1]? = some (.stringIter s (pos + m)) := (hg3.block _ (by simp; omega) (own_it HOA.out IA)).trans IA
          have b3 : Below w.heap.size w w3 := Below.grown (bal b1 _) hg3 (bal b1 _).size (fun k hk => by have := (HOA.out.lt k hk).1; omega)
          have Z3 : w.heap.size + 1 + 1 ≤ w3.heap.size := Nat.le_trans HZA.out hg3.size
          have hp3 : w3.iterPos (w.heap.size + 1) = pos + m := by simp only [World.iterPos, I3]
          have HI3 := Lib.hid I3
          have HX3 := Lib.hid X3
          have HO3 : Hid (w3.ownsRow (w.heap.size + 1 + 1) 21 1 (.slice A3 (N + 1) c3) (N + 1) ((done ++ [(c : Int)]).map (Value.int .i32))) := Lib.hid (by simpa using hO3)
          clear I3 X3 hO3 hg3
          go_wp2
          refine ⟨⟨pos + m, N + 1, done ++ [(c : Int)], A3, c3, rfl, hmp, by omega, b3, HX3, HI3, HO3, Lib.hid Z3, Lib.hid (by have := HL.out; simp; omega), HST⟩, ?_⟩
          rw [hp3]
          omega
    · have he := fun ty => next_end wr (w.heap.size + 1) s pos ty HI.out h0
      have hi := HQ.out
      rw [txL_end (by rw [ByteArray.size_extract]; omega)] at hi
      simp only [Option.map_some, List.append_nil] at hi
      subst hi
      have HRR := Lib.hid (show sVec 2 done = R from HR.out)
      have hbd : ∀ j, j < N → -9223372036854775808 ≤ done.getD j 0 ∧ done.getD j 0 ≤ 9223372036854775807 := fun j hj => by
        have hj2 : j < done.length := by rw [HL.out]; exact hj
        have := runes_bound s.size s [] (fun x hx => by cases hx) (by rw [HT.out]; rfl) _ (getD_mem hj2)
        omega
      have HBD := Lib.hid hbd
      have hS := Sr.of_own HO.out
      have HS := Lib.hid hS
      have d0 : ∀ i, wr.cell? ⟨w.heap.size, i, none⟩ = _ := Bx.cell HX.out
      clear hS hbd HQ HR HT
      go_wp2_with fail
      refine (vec_rune 2 V N vc done R _ HS.out HBD.out HRR.out).mono ?_
      intro e w1 hR
      obtain ⟨⟨k, r, l0, l1, ys⟩, ec⟩ := R
      obtain ⟨A1, n1, c1, rfl, hS, hN1, hb1⟩ := RetA.flat hR
      clear hR d0
      have X1 := HX.out.step hb1
      have d0 : ∀ i, w1.cell? ⟨w.heap.size, i, none⟩ = _ := Bx.cell X1
      have f0 : ∀ i, w1.frozen? ⟨w.heap.size, i, none⟩ = false := Bx.frozen X1
      have p0 := X1.lt
      have q0 := HX.out.lt
      have HS1 := Lib.hid hS
      clear hS
      go_wp2
      refine retAE (B := w.heap.size) rfl rfl rfl rfl (X1.set5 _ _ _ _ _) ?_
      exact RetA.mk rfl (HS1.out.past5 _ _ _ _ _ fun b o e => by have := hN1 b o none e; omega) (hN1.mono hb.size) (below_set5 (bst hb hb1) (Nat.le_refl _) _ _ _ _ _)
end Go.Proofs.YtimpdfafodaadaaDoor

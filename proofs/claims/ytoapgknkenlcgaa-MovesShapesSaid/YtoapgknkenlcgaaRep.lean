/-
  moves.repeat.
-/
import Derived.Test.YtoapgknkenlcgaaMtake
import Derived.Deep.OwnRows
import Derived.Laws.CopyOwn
namespace Go.Proofs.Ytoapgknkenlcgaa
open Go.RowKit

theorem again_len (xs : List Int) (n : Nat) : (again xs n).length = n := by simp [again]
theorem again_of {xs cur : List Int} {n : Nat} (hl : cur.length = n) (h : ∀ i, i < n → cur.getD i 0 = xs.getD (i % xs.length) 0) : cur = again xs n := by
  apply List.ext_getElem
  · rw [hl, again_len]
  · intro i h1 h2
    have := h i (by omega)
    rw [List.getD_eq_getElem?_getD, List.getElem?_eq_getElem h1] at this
    simpa [again] using this
theorem splice_again {xs cur : List Int} {n d t : Nat} (hl : cur.length = n) (hd : d + t ≤ n) (ht : t ≤ xs.length) (hm : d % xs.length = 0) (h : ∀ i, i < d → cur.getD i 0 = xs.getD (i % xs.length) 0) :
    (splice cur d (xs.take t)).length = n ∧ ∀ i, i < d + t → (splice cur d (xs.take t)).getD i 0 = xs.getD (i % xs.length) 0 := by
  have hlt : (xs.take t).length = t := by rw [List.length_take]; omega
  refine ⟨by rw [length_splice _ _ _ (by omega), hl], fun i hi => ?_⟩
  have hlc : (cur.take d).length = d := by rw [List.length_take]; omega
  by_cases hid : i < d
  · rw [← h i hid]
    simp only [splice, List.getD_eq_getElem?_getD]
    rw [List.getElem?_append_left (by omega), List.getElem?_take, if_pos hid]
  · have e : i % xs.length = i - d := by
      have h1 : i = d + (i - d) := by omega
      rw [h1, Nat.add_mod, hm, Nat.zero_add, Nat.mod_mod]
      rw [Nat.mod_eq_of_lt (by omega)]
      omega
    rw [e]
    simp only [splice, List.getD_eq_getElem?_getD]
    rw [List.getElem?_append_right (by omega), hlc, List.getElem?_append_left (by omega), List.getElem?_take, if_pos (by omega)]

theorem splice_map (cur xs : List Int) (d : Nat) : splice (cur.map (Value.int .i64)) d (xs.map (Value.int .i64)) = (splice cur d xs).map (Value.int .i64) := by
  simp [splice]
theorem made_ints (n : Nat) : madeCells #[Value.int .i64 0] n = ((List.replicate n (0 : Int)).map (Value.int .i64)).toArray := by
  apply Array.ext
  · simp [size_madeCells]
  · intro i h1 h2
    simp [madeCells, Nat.mod_one]

theorem rep_step {xs cur : List Int} {cs : List Value} {m n d t : Nat} (hl0 : xs.length = m) (hn : n ≤ 1000000) (hlt : d < n) (ht : t = Nat.min m (n - d)) (hcl : cs.length = t)
    (hI : cur.length = n ∧ (∀ i, i < d → cur.getD i 0 = xs.getD (i % xs.length) 0) ∧ (d = n ∨ d % xs.length = 0)) :
    wrap64 ((d : Int) + (cs.length : Int)) = ((d + t : Nat) : Int) ∧ d + t ≤ n ∧
      ((splice cur d (xs.take t)).length = n ∧ (∀ i, i < d + t → (splice cur d (xs.take t)).getD i 0 = xs.getD (i % xs.length) 0) ∧ (d + t = n ∨ (d + t) % xs.length = 0)) ∧ (0 < m → n - (d + t) < n - d) := by
  obtain ⟨hI1, hI2, hI3⟩ := hI
  have ht' : t = min m (n - d) := ht
  have hmd : d % xs.length = 0 := by rcases hI3 with h | h; exact absurd h (by omega); exact h
  have hle : d + t ≤ n := by omega
  obtain ⟨hJ1, hJ2⟩ := splice_again (t := t) hI1 hle (by omega) hmd hI2
  refine ⟨?_, hle, ⟨hJ1, hJ2, ?_⟩, fun h => by omega⟩
  · rw [hcl]
    unfold wrap64; omega
  · rcases Nat.le_total m (n - d) with h | h
    · right
      have htm : t = xs.length := by omega
      rw [Nat.add_mod, hmd, htm, Nat.mod_self]; rfl
    · left; omega

set_option maxHeartbeats 1000000 in
theorem repeat_any (A : Option Addr) (m c n : Nat) (xs : List Int) (w : World) (hs : Sl w A m c xs) (hn : n ≤ 1000000) (hm : n = 0 ∨ 0 < m) :
    Calls Try.prog 44 #[.slice A m c, .int .i64 n] w fun e w' => (∃ A' c', e = .returned (.slice A' n c') ∧ Sl w' A' n c' (again xs n) ∧ New w A') ∧ Below w.heap.size w w' := by
  obtain ⟨i0, hi, hz0, hz1, hz2⟩ := info_parts infoI64
  have HS := Lib.hid hs
  clear hs
  go_enter Try.func44, Try.ntmps44
  go_wp2_with (with_reducible refine wpList_make_row _ rfl _ _ 23 rfl 2 i0 (.int .i64 0) Try.underlying23 hi hz0 hz1 rfl .i64 .i64 n rfl rfl (by rw [hz2]; omega) (by omega) ?_)
  have hB : Below w.heap.size w (w.alloc (Obj.cells (madeCells #[Value.int IntKind.i64 0] n) 2)) := bal (Below.refl _ _) _
  have hg0 : (w.alloc (Obj.cells (madeCells #[Value.int IntKind.i64 0] n) 2)).heap[w.heap.size]? = some (.cells ((List.replicate n (0 : Int)).map (Value.int .i64)).toArray 2 (0, 0)) := by
    rw [← made_ints]; exact heap_alloc_new _ _
  have HG0 := Lib.hid hg0
  clear hg0
  go_loopw [6] (fun e wr => ∃ (d : Nat) (cur : List Int), d ≤ n ∧ e = .int .i64 d ∧ Below w.heap.size w wr ∧ Hid (wr.heap[w.heap.size]? = some (.cells (cur.map (Value.int .i64)).toArray 2 (0, 0))) ∧ Hid (cur.length = n ∧ (∀ i, i < d → cur.getD i 0 = xs.getD (i % xs.length) 0) ∧ (d = n ∨ d % xs.length = 0))) (fun e _ => n - (intOf e).toNat)
  case atStart => exact ⟨0, List.replicate n 0, Nat.zero_le _, rfl, hB, HG0, Lib.hid ⟨by simp, fun i hi => absurd hi (Nat.not_lt_zero _), .inr (Nat.zero_mod _)⟩⟩
  case round =>
    obtain ⟨d, cur, hd, rfl, hb, HG, HI⟩ := hrel
    by_cases hlt : d < n
    · have hm0 : 0 < m := by omega
      obtain ⟨b, o, rfl, hbl, _⟩ := HS.out.at_ hm0
      have hlt' : (d : Int) < (n : Int) := by omega
      have hd0 : (0 : Int) ≤ (d : Int) := by omega
      have hd1 : (d : Int) ≤ (n : Int) := by omega
      have hd2 : n ≠ d := by omega
      obtain ⟨t, ht⟩ : ∃ t, t = min m (n - d) := ⟨_, rfl⟩
      obtain ⟨cs, hcs⟩ : ∃ cs, cs = (xs.take t).map (Value.int .i64) := ⟨_, rfl⟩
      have HC := Lib.hid hcs
      clear hcs
      have hsz : (Try.prog.info? 2).map (fun i => i.size) = some 1 := by rw [hi]; simp [hz1]
      have hck := HS.out.cells
      have HCK := Lib.hid hck
      have hb1 : Below wr.heap.size wr wr := Below.refl _ _
      clear hck
      have hl0 := HS.out.len
      have hcl : cs.length = t := by rw [HC.out]; simp; omega
      have hmin : Nat.min m (n - d) = t := ht.symm
      have hpos : 0 < cs.length → (some (⟨w.heap.size, d, none⟩ : Addr)) = some ⟨w.heap.size, d, none⟩ ∧ ∃ ad, (some (⟨b, o, none⟩ : Addr)) = some ad ∧ ∀ j v, cs[j]? = some v → wr.cell? (ad.add j) = some v := by
        intro _
        refine ⟨rfl, _, rfl, fun j v hj => ?_⟩
        have hjt : j < t := by
          have := (List.getElem?_eq_some_iff.1 hj).1
          omega
        rw [HC.out, map_getD (by simp; omega)] at hj
        rw [Addr.add_lit, hb.cell (p := ⟨b, o + j, none⟩) hbl, HCK.out j (by omega), ← hj]
        congr 2
        simp [hjt]
      have hfit : d + cs.length ≤ (cur.map (Value.int .i64)).length := by
        have := HI.out.1
        simp; omega
      have h1c : ∀ v ∈ cs, v.oneCell' = true := by rw [HC.out]; exact ints_oneCell _ _
      have HP := Lib.hid hpos
      have HF := Lib.hid hfit
      have H1 := Lib.hid h1c
      have HL := Lib.hid hcl
      have HT := Lib.hid ht
      clear hpos hfit h1c hcl hl0 ht hmin
      go_wp2_with (with_reducible refine wpList_copy_splice rfl _ _ 23 23 rfl 2 Try.underlying23 hsz (some ⟨w.heap.size, d, none⟩) (some ⟨b, o, none⟩) (n - d) (n - d) m c rfl rfl w.heap.size d (cur.map (Value.int .i64)) 2 HG.out cs (HL.out.trans HT.out) HP.out HF.out H1.out w.heap.size w hb (Nat.le_refl _) ?_; intro w2 HG2 hb2)
      obtain ⟨hwr, hle, hJ, hme⟩ := rep_step HS.out.len hn hlt HT.out HL.out HI.out
      rw [hwr]
      refine ⟨⟨d + t, splice cur d (xs.take t), hle, rfl, hb2, ?_, Lib.hid hJ⟩, ?_⟩
      · rw [← splice_map, ← HC.out]; exact HG2
      · simp only [intOf, Int.toNat_natCast]; exact hme hm0
    · obtain rfl : d = n := by omega
      go_wp2
      go_ret
      obtain ⟨hl, hcur, _⟩ := HI.out
      have hE := again_of hl hcur
      subst hE
      refine ⟨⟨_, _, rfl, ?_, fun b o s h => by cases h; exact Nat.le_refl _⟩, hb⟩
      exact Sl.of_box HG.out (again_len _ _) (Nat.le_refl _) (by unfold maxLen; omega) (fun j hj => by
        rw [Nat.zero_add, List.getElem?_toArray, map_getD (by rw [again_len]; exact hj)])
end Go.Proofs.Ytoapgknkenlcgaa

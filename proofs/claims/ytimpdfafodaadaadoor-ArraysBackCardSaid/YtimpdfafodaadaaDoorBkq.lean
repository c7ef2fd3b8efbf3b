/-
  The round trips of texts: String of Text, Text of String. No program in sight.
-/
import Derived.Test.YtimpdfafodaadaaDoorEnc
import Derived.Test.YtimpdfafodaadaaDoorPtx
import Derived.Shelf.Spec.RuneCount
namespace Go.Proofs.YtimpdfafodaadaaDoor
theorem enc_rdec {sz : Nat} {f : Nat → Nat} (h : (rdec sz f).2 ≠ 0) : Lib.encodeRuneZ (rdec sz f).1 = (List.range (rdec sz f).2.toNat).map fun i => (f i : Int) := by
  unfold rdec at h ⊢
  split at h
  · rename_i h0
    simp only [if_pos h0]
    rw [Lib.encodeRuneZ_one (by omega) (by omega)]
    simp
  · rename_i h0
    simp only [if_neg h0]
    split at h
    · rename_i h1
      simp only [if_pos h1]
      unfold mulDec at h ⊢
      split at h
      · exact absurd rfl h
      · split at h
        · exact absurd rfl h
        · split at h
          · exact absurd rfl h
          · split at h
            · exact absurd rfl h
            · rename_i a b c d
              rw [if_neg a, if_neg b, if_neg c, if_neg d]
              simp only [Decidable.not_not] at d
              have hz := size2.1 d
              simp only [accC, okC, Bool.not_eq_false, Bool.and_eq_true, decide_eq_true_eq, Bool.true_and, Nat.reduceAdd] at b hz ⊢
              rw [Lib.encodeRuneZ_two (by omega) (by omega)]
              show [_, _] = [((f 0 : Nat) : Int), ((f 1 : Nat) : Int)]
              simp only [List.cons.injEq, and_true]
              omega
    · rename_i h1
      simp only [if_neg h1]
      split at h
      · rename_i h2
        simp only [if_pos h2]
        unfold mulDec at h ⊢
        split at h
        · exact absurd rfl h
        · split at h
          · exact absurd rfl h
          · split at h
            · exact absurd rfl h
            · split at h
              · exact absurd rfl h
              · rename_i a b c d
                rw [if_neg a, if_neg b, if_neg c, if_neg d]
                simp only [Decidable.not_not] at d
                have hz := size3.1 d
                have hr := (rune_iff _).1 (by simpa using c)
                simp only [accC, okC, Bool.not_eq_false, Bool.and_eq_true, decide_eq_true_eq, Bool.true_and, Nat.reduceAdd] at b hz hr ⊢
                rw [Lib.encodeRuneZ_three (by omega)]
                show [_, _, _] = [((f 0 : Nat) : Int), ((f 1 : Nat) : Int), ((f 2 : Nat) : Int)]
                simp only [List.cons.injEq, and_true]
                omega
      · rename_i h2
        simp only [if_neg h2]
        split at h
        · rename_i h3
          simp only [if_pos h3]
          unfold mulDec at h ⊢
          split at h
          · exact absurd rfl h
          · split at h
            · exact absurd rfl h
            · split at h
              · exact absurd rfl h
              · split at h
                · exact absurd rfl h
                · rename_i a b c d
                  rw [if_neg a, if_neg b, if_neg c, if_neg d]
                  simp only [Decidable.not_not] at d
                  have hz := size4.1 d
                  have hr := (rune_iff _).1 (by simpa using c)
                  simp only [accC, okC, Bool.not_eq_false, Bool.and_eq_true, decide_eq_true_eq, Bool.true_and, Nat.reduceAdd] at b hz hr ⊢
                  rw [Lib.encodeRuneZ_four (by omega) (by omega)]
                  show [_, _, _, _] = [((f 0 : Nat) : Int), ((f 1 : Nat) : Int), ((f 2 : Nat) : Int), ((f 3 : Nat) : Int)]
                  simp only [List.cons.injEq, and_true]
                  omega
        · exact absurd rfl h
/-- What is encoded is decoded again. -/
theorem dec_enc {c : Int} (hc : isRune c = true) {sz : Nat} {f : Nat → Nat} (hsz : (Lib.encodeRuneZ c).length ≤ sz) (hf : ∀ i, i < (Lib.encodeRuneZ c).length → (f i : Int) = (Lib.encodeRuneZ c).getD i 0) :
    rdec sz f = (c, ((Lib.encodeRuneZ c).length : Int)) := by
  have hr := (rune_iff c).1 hc
  by_cases h1 : c ≤ 127
  · rw [Lib.encodeRuneZ_one (by omega) h1] at hf ⊢
    have f0 : (f 0 : Int) = c := hf 0 (by simp)
    unfold rdec
    rw [if_pos (by omega), f0]
    rfl
  · by_cases h2 : c ≤ 2047
    · rw [Lib.encodeRuneZ_two (by omega) h2] at hf hsz ⊢
      have f0 : (f 0 : Int) = 192 + c / 64 := hf 0 (by simp)
      have f1 : (f 1 : Int) = 128 + c % 64 := hf 1 (by simp)
      have ha : accC ((f 0 : Int) - 192) f 1 = c := by simp only [accC, Nat.reduceAdd]; omega
      have ho : okC f 1 = true := by simp only [okC, Nat.reduceAdd, Bool.and_eq_true, decide_eq_true_eq, Bool.true_and]; omega
      have hs2 : ¬ sz < 2 := by simp at hsz; omega
      unfold rdec mulDec
      rw [if_neg (by omega), if_pos (by omega), if_neg hs2]
      simp only [Nat.reduceSub, ha, ho, hc]
      rw [if_neg (by simp), if_neg (by simp), if_neg (by rw [size2.2 (by omega)]; simp)]
      rfl
    · by_cases h3 : c ≤ 65535
      · rw [Lib.encodeRuneZ_three (by omega)] at hf hsz ⊢
        have f0 : (f 0 : Int) = 224 + c / 4096 := hf 0 (by simp)
        have f1 : (f 1 : Int) = 128 + c / 64 % 64 := hf 1 (by simp)
        have f2 : (f 2 : Int) = 128 + c % 64 := hf 2 (by simp)
        have ha : accC ((f 0 : Int) - 224) f 2 = c := by simp only [accC, Nat.reduceAdd]; omega
        have ho : okC f 2 = true := by simp only [okC, Nat.reduceAdd, Bool.and_eq_true, decide_eq_true_eq, Bool.true_and]; omega
        have hs2 : ¬ sz < 3 := by simp at hsz; omega
        unfold rdec mulDec
        rw [if_neg (by omega), if_neg (by omega), if_pos (by omega), if_neg hs2]
        simp only [Nat.reduceSub, ha, ho, hc]
        rw [if_neg (by simp), if_neg (by simp), if_neg (by rw [size3.2 (by omega)]; simp)]
        rfl
      · rw [Lib.encodeRuneZ_four (by omega) (by omega)] at hf hsz ⊢
        have f0 : (f 0 : Int) = 240 + c / 262144 := hf 0 (by simp)
        have f1 : (f 1 : Int) = 128 + c / 4096 % 64 := hf 1 (by simp)
        have f2 : (f 2 : Int) = 128 + c / 64 % 64 := hf 2 (by simp)
        have f3 : (f 3 : Int) = 128 + c % 64 := hf 3 (by simp)
        have ha : accC ((f 0 : Int) - 240) f 3 = c := by simp only [accC, Nat.reduceAdd]; omega
        have ho : okC f 3 = true := by simp only [okC, Nat.reduceAdd, Bool.and_eq_true, decide_eq_true_eq, Bool.true_and]; omega
        have hs2 : ¬ sz < 4 := by simp at hsz; omega
        unfold rdec mulDec
        rw [if_neg (by omega), if_neg (by omega), if_neg (by omega), if_pos (by omega), if_neg hs2]
        simp only [Nat.reduceSub, ha, ho, hc]
        rw [if_neg (by simp), if_neg (by simp), if_neg (by rw [size4.2 (by omega)]; simp)]
        rfl
open Go.RowKit

/-- A string's bytes as numbers. -/
def numsB (t : ByteArray) : List Int := t.data.toList.map fun x => (x.toNat : Int)
theorem numsB_len (t : ByteArray) : (numsB t).length = t.size := by
  rw [numsB, List.length_map, Array.length_toList]
  rfl
theorem numsB_drop (t : ByteArray) (m : Nat) : numsB (t.extract m t.size) = (numsB t).drop m := by
  unfold numsB
  rw [ByteArray.data_extract, ← List.map_drop]
  congr 1
  rw [Array.toList_extract, List.extract_eq_take_drop]
  refine List.take_of_length_le ?_
  rw [List.length_drop]
  exact Nat.le_refl _
theorem numsB_get (t : ByteArray) {i : Nat} (h : i < t.size) : (bytesOf t i : Int) = (numsB t).getD i 0 := by
  have h2 : i < t.data.size := h
  have e : t.data[i]? = some t.data[i]! := by rw [Array.getElem?_eq_getElem h2, getElem!_pos t.data i h2]
  show ((t.data[i]!).toNat : Int) = _
  rw [numsB, List.getD, List.getElem?_map, Array.getElem?_toList, e]
  rfl
theorem numsB_take (t : ByteArray) {m : Nat} (h : m ≤ t.size) : ((List.range m).map fun i => (bytesOf t i : Int)) = (numsB t).take m := by
  refine List.ext_getElem (by rw [List.length_map, List.length_range, List.length_take, numsB_len]; omega) fun i h1 h2 => ?_
  have hi : i < m := by simpa using h1
  rw [List.getElem_map, List.getElem_range, List.getElem_take, numsB_get t (by omega), List.getD, List.getElem?_eq_getElem (by rw [numsB_len]; omega)]
  rfl
theorem numsB_back (t : ByteArray) : strOfNums (numsB t) = t := by
  apply ByteArray.ext
  apply Array.toList_inj.1
  rw [strOfNums_data, numsB, List.map_map]
  have : ((fun n : Int => UInt8.ofNat n.toNat) ∘ fun x : UInt8 => (x.toNat : Int)) = id := by
    funext x
    simp
  rw [this, List.map_id]
/-- What a string is decoded to is encoded to its bytes. -/
theorem txL_enc : ∀ {f : Nat} {t : ByteArray} {xs : List Int}, t.size ≤ f → txL f t = some xs → encF xs = numsB t
  | 0, t, xs, hf, h => by
    have h0 : t.size = 0 := by omega
    simp only [txL, Option.some.injEq] at h
    subst h
    have := numsB_len t
    rw [h0] at this
    rw [List.length_eq_zero_iff.1 this]
    rfl
  | f + 1, t, xs, hf, h => by
    by_cases h0 : t.size = 0
    · rw [txL_end h0] at h
      simp only [Option.some.injEq] at h
      subst h
      have := numsB_len t
      rw [h0] at this
      rw [List.length_eq_zero_iff.1 this]
      rfl
    · by_cases hz : (decP t).2 = 0
      · rw [txL_none (by omega) hf hz] at h
        cases h
      · rw [txL_some (by omega) hz] at h
        rcases hl : txL f (t.extract (decP t).2.toNat t.size) with _ | l
        · rw [hl] at h; cases h
        · rw [hl, Option.map_some, Option.some.injEq] at h
          subst h
          obtain ⟨b1, b2, _⟩ := (decP_bounds (t := t) (by omega)).resolve_left hz
          have ih := txL_enc (f := f) (by rw [ByteArray.size_extract]; omega) hl
          have e1 := enc_rdec (sz := t.size) (f := bytesOf t) hz
          show Lib.encodeRuneZ (decP t).1 ++ encF l = _
          rw [ih, numsB_drop]
          have e2 : Lib.encodeRuneZ (decP t).1 = (numsB t).take (decP t).2.toNat := by
            rw [← numsB_take t (by omega)]
            exact e1
          rw [e2, List.take_append_drop]
theorem encB_byte {c : Int} : ∀ x ∈ Lib.encodeRuneZ c, 0 ≤ x ∧ x < 256 := Lib.encodeRuneZ_byte c
theorem numsB_of {zs : List Int} (h : ∀ x ∈ zs, 0 ≤ x ∧ x < 256) : numsB (strOfNums zs) = zs := by
  rw [numsB, strOfNums_data, List.map_map]
  have : ∀ x ∈ zs, ((fun x : UInt8 => (x.toNat : Int)) ∘ fun n : Int => UInt8.ofNat n.toNat) x = x := fun x hx => by
    obtain ⟨h0, h1⟩ := h x hx
    simp only [Function.comp, UInt8.toNat_ofNat']
    omega
  rw [List.map_congr_left this, List.map_id']
theorem encF_byte (xs : List Int) : ∀ x ∈ encF xs, 0 ≤ x ∧ x < 256 := fun x hx => by
  obtain ⟨c, _, hc⟩ := List.mem_flatMap.1 hx
  exact encB_byte x hc
/-- What runes are encoded to is decoded to them. -/
theorem txL_of : ∀ {xs : List Int} {f : Nat} {t : ByteArray}, (∀ c ∈ xs, isRune c = true) → numsB t = encF xs → t.size ≤ f → txL f t = some xs
  | [], f, t, _, h, _ => txL_end (by rw [← numsB_len, h]; rfl)
  | c :: l, f, t, hr, h, hf => by
    have hcc := hr c (List.mem_cons_self ..)
    have hl := Lib.encodeRuneZ_length c
    have hx : numsB t = Lib.encodeRuneZ c ++ encF l := h
    have hs : t.size = (Lib.encodeRuneZ c).length + (encF l).length := by rw [← numsB_len, hx, List.length_append]
    have hd : decP t = (c, ((Lib.encodeRuneZ c).length : Int)) := dec_enc hcc (by omega) (fun i hi => by
      rw [numsB_get t (by omega), hx, List.getD, List.getElem?_append_left hi]
      rfl)
    obtain ⟨g, rfl⟩ : ∃ g, f = g + 1 := ⟨f - 1, by omega⟩
    have h2 : (decP t).2 ≠ 0 := by rw [hd]; simp only; omega
    rw [txL_some (by omega) h2, hd]
    simp only [Int.toNat_natCast]
    rw [txL_of (xs := l) (fun x hx => hr x (List.mem_cons_of_mem _ hx)) (by rw [numsB_drop, hx, List.drop_left]) (by rw [ByteArray.size_extract]; omega)]
    rfl
/-- All that is decoded is a rune. -/
theorem txL_runes : ∀ {f : Nat} {t : ByteArray} {xs : List Int}, t.size ≤ f → txL f t = some xs → ∀ c ∈ xs, isRune c = true
  | 0, t, xs, _, h => by
    simp only [txL, Option.some.injEq] at h
    subst h
    intro c hc
    cases hc
  | f + 1, t, xs, hf, h => by
    by_cases h0 : t.size = 0
    · rw [txL_end h0] at h
      simp only [Option.some.injEq] at h
      subst h
      intro c hc
      cases hc
    · by_cases hz : (decP t).2 = 0
      · rw [txL_none (by omega) hf hz] at h
        cases h
      · rw [txL_some (by omega) hz] at h
        rcases hl : txL f (t.extract (decP t).2.toNat t.size) with _ | l
        · rw [hl] at h; cases h
        · rw [hl, Option.map_some, Option.some.injEq] at h
          subst h
          obtain ⟨b1, b2, _, _, b5⟩ := (decP_bounds (t := t) (by omega)).resolve_left hz
          intro c hc
          rcases List.mem_cons.1 hc with e | hc
          · rw [e]; exact b5
          · exact txL_runes (f := f) (by rw [ByteArray.size_extract]; omega) hl c hc
theorem achk_text {xs : List Int} (hl : xs.length ≤ 400) (hr : ∀ c ∈ xs, isRune c = true) : achk 2 1 (xs.length : Int) 0 xs = 0 := by
  have h1 : shp 1 (xs.length : Int) 0 = 0 := by
    unfold shp
    simp only [prodI]
    rw [if_neg (by omega), if_neg (by omega), if_neg (by omega), if_neg (by simp; omega)]
  unfold achk
  rw [if_neg (by omega), if_neg (fun g => g h1), if_neg (by simp [prodI]), if_neg]
  intro h
  obtain ⟨c, hc, h2⟩ := List.any_eq_true.1 h
  simp [rightB, hr c hc] at h2
/-- String of Text is the string. -/
theorem text_string {s : ByteArray} {k r l0 l1 : Int} {ts : List Int} (h : sText s = (⟨k, r, l0, l1, ts⟩, 0)) : achk k r l0 l1 ts = 0 ∧ sStr k r l0 l1 ts = (s, 0) := by
  unfold sText at h
  rcases hx : txL s.size s with _ | xs
  · rw [hx] at h
    simp at h
  · rw [hx] at h
    simp only [sVec] at h
    split at h
    · simp at h
    · rename_i h4
      simp only [Prod.mk.injEq, Arr.mk.injEq, and_true] at h
      obtain ⟨rfl, rfl, rfl, rfl, rfl⟩ := h
      have hc := achk_text (by omega) (txL_runes (Nat.le_refl _) hx)
      refine ⟨hc, ?_⟩
      unfold sStr
      rw [if_neg (fun g => g hc), if_neg (fun g => g rfl), if_neg (fun g => g rfl), txL_enc (Nat.le_refl _) hx, numsB_back]
/-- Text of String is the text. -/
theorem string_text {k r l0 l1 : Int} {xs : List Int} {s : ByteArray} (h : sStr k r l0 l1 xs = (s, 0)) : sText s = (⟨k, r, l0, l1, xs⟩, 0) := by
  unfold sStr at h
  by_cases hc : achk k r l0 l1 xs = 0
  · rw [if_neg (fun g => g hc)] at h
    by_cases hk : k = 2
    · rw [if_neg (fun g => g hk)] at h
      by_cases hr : r = 1
      · rw [if_neg (fun g => g hr)] at h
        obtain ⟨rfl, _⟩ := Prod.mk.inj h
        subst hk hr
        obtain ⟨_, h1, h2, h3⟩ := achk_ok hc
        have hl := achk_len hc
        have hrun : ∀ c ∈ xs, isRune c = true := fun c hc' => by
          have := List.any_eq_false.1 h3 c hc'
          simpa [rightB] using this
        unfold sText
        rw [txL_of hrun (numsB_of (encF_byte xs)) (Nat.le_refl _)]
        simp only [sVec]
        rw [if_neg (by omega)]
        have e1 : l1 = 0 := by
          rcases shp_ok h1 with h | h | h <;> omega
        simp [prodI] at h2
        rw [h2, e1]
      · rw [if_pos hr] at h
        have := (Prod.mk.inj h).2
        omega
    · rw [if_pos hk] at h
      have := (Prod.mk.inj h).2
      omega
  · rw [if_pos hc] at h
    exact absurd (Prod.mk.inj h).2 hc
end Go.Proofs.YtimpdfafodaadaaDoor

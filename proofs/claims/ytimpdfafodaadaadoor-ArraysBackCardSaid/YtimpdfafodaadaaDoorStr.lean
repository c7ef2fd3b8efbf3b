/-
  arrays.String: the string of a text.
-/
import Derived.Test.YtimpdfafodaadaaDoorPtx
import Derived.Test.YtimpdfafodaadaaDoorArr
import Derived.Test.YtimpdfafodaadaaDoorRarr
import Derived.Laws.BytesArg
namespace Go.Proofs.YtimpdfafodaadaaDoor
open Go.RowKit
attribute [local go_sem] Oper.semAt_some

def emptyS : ByteArray := { data := #[] }
/-- The bytes of a list of runes in UTF-8. -/
def encF (xs : List Int) : List Int := xs.flatMap Lib.encodeRuneZ
/-- The string of a text, as the document says. -/
def sStr (k r l0 l1 : Int) (xs : List Int) : ByteArray × Int :=
  if achk k r l0 l1 xs ≠ 0 then ({ data := #[] }, achk k r l0 l1 xs)
  else if k ≠ 2 then ({ data := #[] }, 21)
  else if r ≠ 1 then ({ data := #[] }, 22)
  else (strOfNums (encF xs), 0)
theorem encF_snoc (xs : List Int) (c : Int) : encF (xs ++ [c]) = encF xs ++ Lib.encodeRuneZ c := by simp [encF]
theorem strOfNums_nil : strOfNums [] = { data := #[] } := rfl
/-- A row of bytes of the call's own, as a string. -/
theorem conv_own {w : World} {base n c : Nat} {A : Option Addr} {zs : List Int} (h : w.ownsRow base 5 1 (.slice A n c) n (zs.map (Value.int .u8))) :
    (convert 56 9 (.slice A n c)).run Tryd.prog w = .ok (.string (strOfNums zs)) w := by
  have hl : zs.length = n := by have := h.1; simpa using this
  rcases h.2 with ⟨h1, hx⟩ | ⟨g, cap, cur, h1, hb, hg, hn, hm, hs, ht⟩
  · simp only [Value.slice.injEq] at h1
    obtain ⟨rfl, h2, rfl⟩ := h1
    subst h2
    obtain rfl : zs = [] := List.length_eq_zero_iff.1 hl
    exact run_convert_bytes_nil w 56 5 Tryd.underlying56 Tryd.underlying5 0 0 _ Tryd.underlying9
  · simp only [Value.slice.injEq] at h1
    obtain ⟨rfl, _, rfl⟩ := h1
    refine run_convert_bytes_arg w 56 5 Tryd.underlying56 Tryd.underlying5 g 0 n c zs hl (fun j hj => ?_) _ Tryd.underlying9
    have h2 : (zs.map (Value.int .u8))[j]? = some (.int .u8 (zs.getD j 0)) := by
      rw [List.getElem?_map, List.getElem?_eq_getElem (by omega), getD_get (by omega)]; rfl
    rw [← ht, Nat.mul_one, List.getElem?_take, if_pos hj] at h2
    rw [Nat.zero_add, Bx.cell (w := w) (cs := cur) hg]
    simpa using h2
theorem rune_bounds {k r l0 l1 : Int} {xs : List Int} (h : achk k r l0 l1 xs = 0) (hk : k = 2) {j : Nat} (hj : j < xs.length) : isRune (xs.getD j 0) = true := by
  have h4 := (achk_ok h).2.2.2
  have h5 := (List.any_eq_false.1 h4) _ (getD_mem hj)
  subst hk
  simpa [rightB] using h5
theorem isRune_b {c : Int} (h : isRune c = true) : 0 ≤ c ∧ c ≤ 1114111 ∧ (c < 55296 ∨ 57343 < c) := by
  simp [isRune] at h
  omega
set_option maxHeartbeats 1000000 in
theorem aString_any (k r l0 l1 : Int) (A : Option Addr) (n c : Nat) (xs : List Int) (S : ByteArray) (ec : Int) (w : World) (hs : Sl w A n c xs) (h : sStr k r l0 l1 xs = (S, ec)) :
    Calls Tryd.prog 13 #[.agg #[.int .i64 k, .int .i64 r, .int .i64 l0, .int .i64 l1, .slice A n c]] w fun e w' => e = .returned (.tuple #[.string S, .int .i64 ec]) ∧ Below w.heap.size w w' := by
  have HS := Lib.hid hs
  have HL := Lib.hid hs.len
  clear hs
  unfold sStr at h
  by_cases hc : achk k r l0 l1 xs = 0
  · rw [if_neg (fun g => g hc)] at h
    have HC := Lib.hid hc
    by_cases hk : k = 2
    · rw [if_neg (fun g => g hk)] at h
      by_cases hr : r = 1
      · rw [if_neg (fun g => g hr)] at h
        obtain ⟨rfl, rfl⟩ := Prod.mk.inj h
        have h400 := achk_len hc
        have hn4 : n ≤ 400 := by rw [← HL.out]; exact h400
        have HB : Hid (∀ j, j < n → isRune (xs.getD j 0) = true) := Lib.hid (fun j hj => rune_bounds hc hk (by rw [HL.out]; exact hj))
        subst hk hr
        clear h hc h400
        go_enter Tryd.func13, Tryd.ntmps13
        go_wp2_with fail
        refine (acheck_any 2 1 l0 l1 A n c xs 0 _ (HS.out.step (below1 _ _)) HC.out).mono ?_
        rintro e w1 ⟨rfl, hb1⟩
        obtain ⟨X, b1⟩ := after1 hb1
        clear hb1
        have S1 := Lib.hid (HS.out.step b1)
        have d0 : ∀ i, w1.cell? ⟨w.heap.size, i, none⟩ = _ := Bx.cell X
        have HX := Lib.hid X
        clear X
        go_wp2
        go_loopw [5, 7, 25] (fun b x i wr => ∃ (j N : Nat) (V : Option Addr) (vc : Nat), b = .slice V N vc ∧ i = .int .i64 j ∧ j ≤ n ∧ N ≤ 4 * j ∧ Below w.heap.size w wr ∧ w.heap.size + 1 ≤ wr.heap.size ∧ Hid (wr.ownsRow (w.heap.size + 1) 5 1 (.slice V N vc) N ((encF (xs.take j)).map (Value.int .u8)))) (fun _ _ i _ => n - (intOf i).toNat)
        case atStart => exact ⟨0, 0, none, 0, rfl, rfl, Nat.zero_le _, Nat.zero_le _, b1, Bx.lt HX.out, Lib.hid (World.ownsRow_nil _ _ _ _)⟩
        case round =>
          obtain ⟨j, N, V, vc, rfl, rfl, hj, hN, hb, hz, HO⟩ := hrel
          by_cases hlt : j < n
          · obtain ⟨bb, o, rfl, hbl, hx⟩ := HS.out.at_ hlt
            have hx1 : wr.cell? ⟨bb, o + j, none⟩ = some (.int .i64 (xs.getD j 0)) := (hb.cell (p := ⟨bb, o + j, none⟩) hbl).trans hx
            obtain ⟨hr0, hr1, _⟩ := isRune_b (HB.out j hlt)
            have hsn : encF (xs.take (j + 1)) = encF (xs.take j) ++ Lib.encodeRuneZ (xs.getD j 0) := by
              rw [← encF_snoc]
              congr 1
              rw [List.take_succ_eq_append_getElem (by rw [HL.out]; exact hlt), getD_get (by rw [HL.out]; exact hlt)]
            have HSN := Lib.hid hsn
            generalize xs.getD j 0 = y at hx1 hr0 hr1 HSN
            clear hsn hx d0
            have hjn : (j : Int) < (n : Int) := by omega
            have hw32 : IntKind.i32.wrap y = y := IntWalk.i32_in _ (by omega)
            go_wp2_with fail
            refine (Tryd.utf8_AppendRune_plain (w.heap.size + 1) _ N _ y (by omega) (by omega) wr HO.out (by omega) hz).mono ?_
            rintro e w2 ⟨v', rfl, hO2, o2, hg⟩
            obtain ⟨A2, c2, rfl⟩ := own_slice hO2
            have hle := Lib.runeCells_le y
            have b2 : Below w.heap.size w w2 := Below.grown (bal hb _) hg (bal hb o2).size (fun k hk => by have := (HO.out.lt k hk).1; omega)
            have Z2 : w.heap.size + 1 ≤ w2.heap.size := by
              have h1 := hg.size
              rw [World.size_alloc] at h1
              omega
            have HO2 : Hid (w2.ownsRow (w.heap.size + 1) 5 1 (.slice A2 (N + (Lib.runeCells y).length) c2) (N + (Lib.runeCells y).length) ((encF (xs.take (j + 1))).map (Value.int .u8))) := Lib.hid (by rw [HSN.out, List.map_append]; exact hO2)
            clear hO2 hg hx1
            have hN2 : N + (Lib.runeCells y).length ≤ 4 * (j + 1) := by omega
            clear hle
            generalize N + (Lib.runeCells y).length = N2 at *
            go_wp2
            go_round
            case rel => exact ⟨j + 1, N2, A2, c2, rfl, by go_num, by omega, by omega, b2, Z2, HO2⟩
            case measure => simp [intOf]; omega
          · obtain rfl : j = n := by omega
            have htk : xs.take j = xs := List.take_of_length_le (by rw [HL.out]; exact Nat.le_refl _)
            have hcv : (convert 56 9 (.slice V N vc)).run Tryd.prog wr = .ok (.string (strOfNums (encF xs))) wr := by
              have := conv_own HO.out
              rwa [htk] at this
            clear htk HO
            go_wp2
            go_ret2
            exact ⟨rfl, hb⟩
      · rw [if_pos hr] at h
        obtain ⟨rfl, rfl⟩ := Prod.mk.inj h
        subst hk
        clear h hc
        go_enter Tryd.func13, Tryd.ntmps13
        go_wp2_with fail
        refine (acheck_any 2 r l0 l1 A n c xs 0 _ (HS.out.step (below1 _ _)) HC.out).mono ?_
        rintro e w1 ⟨rfl, hb1⟩
        obtain ⟨X, b1⟩ := after1 hb1
        clear hb1
        have d0 : ∀ i, w1.cell? ⟨w.heap.size, i, none⟩ = _ := Bx.cell X
        have hne : (r != 1) = true := by simpa using hr
        go_wp2
        go_ret2
        exact ⟨rfl, b1⟩
    · rw [if_pos hk] at h
      obtain ⟨rfl, rfl⟩ := Prod.mk.inj h
      clear h hc
      go_enter Tryd.func13, Tryd.ntmps13
      go_wp2_with fail
      refine (acheck_any k r l0 l1 A n c xs 0 _ (HS.out.step (below1 _ _)) HC.out).mono ?_
      rintro e w1 ⟨rfl, hb1⟩
      obtain ⟨X, b1⟩ := after1 hb1
      clear hb1
      have d0 : ∀ i, w1.cell? ⟨w.heap.size, i, none⟩ = _ := Bx.cell X
      have hne : (k != 2) = true := by simpa using hk
      go_wp2
      go_ret2
      exact ⟨rfl, b1⟩
  · rw [if_pos hc] at h
    obtain ⟨rfl, he⟩ := Prod.mk.inj h
    have HE := Lib.hid he
    have hne : (ec != 0) = true := by rw [← he]; simpa using hc
    clear h he hc
    go_enter Tryd.func13, Tryd.ntmps13
    go_wp2_with fail
    refine (acheck_any k r l0 l1 A n c xs ec _ (HS.out.step (below1 _ _)) HE.out).mono ?_
    rintro e w1 ⟨rfl, hb1⟩
    go_wp2
    go_ret2
    exact ⟨rfl, bst (below1 _ _) hb1⟩
end Go.Proofs.YtimpdfafodaadaaDoor

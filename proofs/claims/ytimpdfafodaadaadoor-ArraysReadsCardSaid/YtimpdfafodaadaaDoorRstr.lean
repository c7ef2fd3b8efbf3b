/-
  The reference's String.
-/
import Derived.Test.YtimpdfafodaadaaDoorEncr
namespace Go.Proofs.YtimpdfafodaadaaDoor
open Go.RowKit
attribute [local go_sem] Oper.semAt_some

theorem strOfNums_append (xs ys : List Int) : strOfNums (xs ++ ys) = strOfNums xs ++ strOfNums ys := by
  apply ByteArray.ext
  rw [ByteArray.data_append]
  simp [strOfNums]
set_option maxHeartbeats 1000000 in
theorem rString_any (k r l0 l1 : Int) (A : Option Addr) (n c : Nat) (xs : List Int) (S : ByteArray) (ec : Int) (w : World) (hs : Sl w A n c xs) (h : sStr k r l0 l1 xs = (S, ec)) :
    Calls Tryd.prog 14 #[.agg #[.int .i64 k, .int .i64 r, .int .i64 l0, .int .i64 l1, .slice A n c]] w fun e w' => e = .returned (.tuple #[.string S, .int .i64 ec]) ∧ Below w.heap.size w w' := by
  have HS := Lib.hid hs
  have HL := Lib.hid hs.len
  clear hs
  unfold sStr at h
  by_cases hc : achk k r l0 l1 xs = 0
  · rw [if_neg (fun g => g hc)] at h
    have HC := Lib.hid hc
    by_cases hk : k = 2
    · rw [if_neg (fun g => g hk)] at h
      by_cases hr : r = 1
      · rw [if_neg (fun g => g hr)] at h
        obtain ⟨rfl, rfl⟩ := Prod.mk.inj h
        have h400 := achk_len hc
        have hn4 : n ≤ 400 := by rw [← HL.out]; exact h400
        have HB : Hid (∀ j, j < n → isRune (xs.getD j 0) = true) := Lib.hid (fun j hj => rune_bounds hc hk (by rw [HL.out]; exact hj))
        subst hk hr
        clear h hc h400
        go_enter Tryd.func14, Tryd.ntmps14
        go_wp2_with fail
        refine (racheck_any 2 1 l0 l1 A n c xs 0 _ (HS.out.step (below1 _ _)) HC.out).mono ?_
        rintro e w1 ⟨rfl, hb1⟩
        obtain ⟨X, b1⟩ := after1 hb1
        clear hb1
        have d0 : ∀ i, w1.cell? ⟨w.heap.size, i, none⟩ = _ := Bx.cell X
        have HX := Lib.hid X
        clear X
        go_wp2
        go_loopw [5, 6] (fun s i wr => ∃ (j : Nat) (S : ByteArray), s = .string S ∧ i = .int .i64 j ∧ j ≤ n ∧ Below w.heap.size w wr ∧ Hid (Bx wr w.heap.size #[.int .i64 2, .int .i64 1, .int .i64 l0, .int .i64 l1, .slice A n c] 25) ∧ S.size ≤ 4 * j ∧ Hid (S = strOfNums (encF (xs.take j)))) (fun _ i _ => n - (intOf i).toNat)
        case atStart => exact ⟨0, { data := #[] }, rfl, rfl, Nat.zero_le _, b1, HX, Nat.zero_le _, Lib.hid rfl⟩
        case round =>
          obtain ⟨j, S, rfl, rfl, hj, hb, HX1, hz, HQ⟩ := hrel
          clear d0
          have d0 : ∀ i, wr.cell? ⟨w.heap.size, i, none⟩ = _ := Bx.cell HX1.out
          by_cases hlt : j < n
          · obtain ⟨bb, o, rfl, hbl, hx⟩ := HS.out.at_ hlt
            have hx1 : wr.cell? ⟨bb, o + j, none⟩ = some (.int .i64 (xs.getD j 0)) := (hb.cell (p := ⟨bb, o + j, none⟩) hbl).trans hx
            have hru := HB.out j hlt
            have hsn : encF (xs.take (j + 1)) = encF (xs.take j) ++ Lib.encodeRuneZ (xs.getD j 0) := by
              rw [← encF_snoc]
              congr 1
              rw [List.take_succ_eq_append_getElem (by rw [HL.out]; exact hlt), getD_get (by rw [HL.out]; exact hlt)]
            have HSN := Lib.hid hsn
            have HRU := Lib.hid hru
            generalize xs.getD j 0 = y at hx1 HSN HRU
            clear hsn hx hru
            have hj0 : (0 : Int) ≤ (j : Int) := by omega
            have hjn : (j : Int) < (n : Int) := by omega
            have hle := Lib.encodeRuneZ_length y
            obtain ⟨U, hU⟩ : ∃ U, strOfNums (Lib.encodeRuneZ y) = U := ⟨_, rfl⟩
            have hUs : U.size ≤ 4 := by rw [← hU, strOfNums_size]; exact hle.2
            have HU := Lib.hid hU
            have hadd : ∀ w : World, (Op.stringOp .add S U).run Tryd.prog w = .ok (.string (S ++ U)) w := fun w => run_string_add_sum w S U (by omega)
            clear hle hU
            go_wp2_with fail
            refine (encoded_any y wr HRU.out).mono ?_
            rintro e w2 ⟨rfl, hb2⟩
            rw [HU.out]
            have b2 := bst hb hb2
            have HX2 := Lib.hid (Bx.step HX1.out hb2)
            have HQ2 : Hid (S ++ U = strOfNums (encF (xs.take (j + 1)))) := Lib.hid (by rw [HSN.out, strOfNums_append, ← HQ.out, HU.out])
            have hz2 : (S ++ U).size ≤ 4 * (j + 1) := by rw [ByteArray.size_append]; omega
            clear d0 hx1 hb2
            go_wp2
            go_round
            case rel => exact ⟨j + 1, S ++ U, rfl, by go_num, by omega, b2, HX2, hz2, HQ2⟩
            case measure => simp [intOf]; omega
          · obtain rfl : j = n := by omega
            have htk : xs.take j = xs := List.take_of_length_le (by rw [HL.out]; exact Nat.le_refl _)
            have HQ3 : Hid (S = strOfNums (encF xs)) := Lib.hid (by have := HQ.out; rwa [htk] at this)
            clear htk HQ hz
            obtain rfl : S = strOfNums (encF xs) := HQ3.out
            go_wp2
            go_ret2
            exact ⟨rfl, hb⟩
      · rw [if_pos hr] at h
        obtain ⟨rfl, rfl⟩ := Prod.mk.inj h
        subst hk
        clear h hc
        go_enter Tryd.func14, Tryd.ntmps14
        go_wp2_with fail
        refine (racheck_any 2 r l0 l1 A n c xs 0 _ (HS.out.step (below1 _ _)) HC.out).mono ?_
        rintro e w1 ⟨rfl, hb1⟩
        obtain ⟨X, b1⟩ := after1 hb1
        clear hb1
        have d0 : ∀ i, w1.cell? ⟨w.heap.size, i, none⟩ = _ := Bx.cell X
        have hne : (r != 1) = true := by simpa using hr
        by_cases hn : 0 < n
        · have hn1 : (0 : Int) < (n : Int) := by omega
          go_wp2
          go_loopw [5, 6] (fun s i wr => s = .string { data := #[] } ∧ i = .int .i64 0 ∧ wr = w1) (fun _ _ _ => 0)
          case atStart => exact ⟨rfl, rfl, rfl⟩
          case round =>
            obtain ⟨rfl, rfl, rfl⟩ := hrel
            go_wp2
            go_ret2
            exact ⟨rfl, b1⟩
        · obtain rfl : n = 0 := by omega
          go_wp2
          go_loopw [5, 6] (fun s i wr => s = .string { data := #[] } ∧ i = .int .i64 0 ∧ wr = w1) (fun _ _ _ => 0)
          case atStart => exact ⟨rfl, rfl, rfl⟩
          case round =>
            obtain ⟨rfl, rfl, rfl⟩ := hrel
            go_wp2
            go_ret2
            exact ⟨rfl, b1⟩
    · rw [if_pos hk] at h
      obtain ⟨rfl, rfl⟩ := Prod.mk.inj h
      clear h hc
      go_enter Tryd.func14, Tryd.ntmps14
      go_wp2_with fail
      refine (racheck_any k r l0 l1 A n c xs 0 _ (HS.out.step (below1 _ _)) HC.out).mono ?_
      rintro e w1 ⟨rfl, hb1⟩
      obtain ⟨X, b1⟩ := after1 hb1
      clear hb1
      have d0 : ∀ i, w1.cell? ⟨w.heap.size, i, none⟩ = _ := Bx.cell X
      have hne : (k != 2) = true := by simpa using hk
      by_cases hn : 0 < n
      · have hn1 : (0 : Int) < (n : Int) := by omega
        go_wp2
        go_loopw [5, 6] (fun s i wr => s = .string { data := #[] } ∧ i = .int .i64 0 ∧ wr = w1) (fun _ _ _ => 0)
        case atStart => exact ⟨rfl, rfl, rfl⟩
        case round =>
          obtain ⟨rfl, rfl, rfl⟩ := hrel
          go_wp2
          go_ret2
          exact ⟨rfl, b1⟩
      · obtain rfl : n = 0 := by omega
        go_wp2
        go_loopw [5, 6] (fun s i wr => s = .string { data := #[] } ∧ i = .int .i64 0 ∧ wr = w1) (fun _ _ _ => 0)
        case atStart => exact ⟨rfl, rfl, rfl⟩
        case round =>
          obtain ⟨rfl, rfl, rfl⟩ := hrel
          go_wp2
          go_ret2
          exact ⟨rfl, b1⟩
  · rw [if_pos hc] at h
    obtain ⟨rfl, he⟩ := Prod.mk.inj h
    have HE := Lib.hid he
    have hne : (ec == 0) = false := by rw [← he]; simpa using hc
    clear h he hc
    go_enter Tryd.func14, Tryd.ntmps14
    go_wp2_with fail
    refine (racheck_any k r l0 l1 A n c xs ec _ (HS.out.step (below1 _ _)) HE.out).mono ?_
    rintro e w1 ⟨rfl, hb1⟩
    obtain ⟨X, b1⟩ := after1 hb1
    clear hb1
    have d0 : ∀ i, w1.cell? ⟨w.heap.size, i, none⟩ = _ := Bx.cell X
    by_cases hn : 0 < n
    · have hn1 : (0 : Int) < (n : Int) := by omega
      go_wp2
      go_loopw [5, 6] (fun s i wr => s = .string { data := #[] } ∧ i = .int .i64 0 ∧ wr = w1) (fun _ _ _ => 0)
      case atStart => exact ⟨rfl, rfl, rfl⟩
      case round =>
        obtain ⟨rfl, rfl, rfl⟩ := hrel
        go_wp2
        go_ret2
        exact ⟨rfl, b1⟩
    · obtain rfl : n = 0 := by omega
      go_wp2
      go_loopw [5, 6] (fun s i wr => s = .string { data := #[] } ∧ i = .int .i64 0 ∧ wr = w1) (fun _ _ _ => 0)
      case atStart => exact ⟨rfl, rfl, rfl⟩
      case round =>
        obtain ⟨rfl, rfl, rfl⟩ := hrel
        go_wp2
        go_ret2
        exact ⟨rfl, b1⟩
end Go.Proofs.YtimpdfafodaadaaDoor

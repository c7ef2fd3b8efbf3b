/-
  The digits of small numbers, the program's and the reference's.
-/
import Derived.Test.YteegipfgbcnfkaaDoorRchk
import Derived.Test.YteegipfgbcnfkaaDoorS5
import Derived.Test.YteegipfgbcnfkaaDoorShelf5
import Derived.Test.YteegipfgbcnfkaaDoorRows
import Derived.Shelf.Strconv.Itoa4
import Derived.Lib.AppendIntMem
import Derived.Laws.BytesArg
import Derived.Deep.RegionWith
import Derived.RegionTactic
namespace Go.Proofs.YteegipfgbcnfkaaDoor
open Go.RowKit
attribute [local go_sem] Oper.semAt_some

theorem conv_one (w : World) (b o c' : Nat) (c : Int) (hc : w.cell? ⟨b, o, none⟩ = some (.int .u8 c)) : (convert 54 9 (.slice (some ⟨b, o, none⟩) 1 c')).run Tryd.prog w = .ok (.string (strOfNums [c])) w :=
  run_convert_bytes_arg w _ 5 Tryd.underlying54 Tryd.underlying5 b o 1 c' [c] rfl (fun i hi => by
    obtain rfl : i = 0 := by omega
    exact hc) _ Tryd.underlying9

set_option maxHeartbeats 1000000 in
theorem rdig_low (n : Nat) (hn : n ≤ 9) (w : World) : Calls Tryd.prog 33 #[.int .i64 (n : Int)] w fun e w' => e = .returned (.string (strOfNums [48 + (n : Int)])) ∧ Below w.heap.size w w' := by
  have h1 : (0 : Int) ≤ (n : Int) := by omega
  have h2 : (n : Int) ≤ 9 := by omega
  have hcv := conv_one (w.alloc (.cells #[.int .u8 (48 + (n : Int))] 5)) w.heap.size 0 1 (48 + (n : Int)) (by rw [(Bx.new w #[.int .u8 (48 + (n : Int))] 5).cell 0]; rfl)
  go_enter Tryd.func33, Tryd.ntmps33
  go_wp2
  go_ret
  exact ⟨rfl, below1 _ _⟩
set_option maxHeartbeats 2000000 in
theorem rdig_mid (n q d : Nat) (hn : n = 10 * q + d) (hq1 : 1 ≤ q) (hq2 : q ≤ 99) (hd : d ≤ 9) (s : ByteArray) (hz : s.size ≤ 100) (hs : ∀ W, Calls Tryd.prog 33 #[.int .i64 (q : Int)] W fun e w' => e = .returned (.string s) ∧ Below W.heap.size W w') (w : World) :
    Calls Tryd.prog 33 #[.int .i64 (n : Int)] w fun e w' => e = .returned (.string (s ++ strOfNums [48 + (d : Int)])) ∧ Below w.heap.size w w' := by
  have h1 : (9 : Int) < (n : Int) := by omega
  have h2 : (n : Int) ≤ 1000 := by omega
  have h3 : (n : Int) / 10 = (q : Int) := by omega
  have h4 : (n : Int) % 10 = (d : Int) := by omega
  have h5 : (0 : Int) ≤ (d : Int) := by omega
  have h6 : (d : Int) ≤ 9 := by omega
  have HS := Lib.hid hs
  clear hs hn
  go_enter Tryd.func33, Tryd.ntmps33
  go_wp2
  have P0 : Below w.heap.size w w.drew := bdr (Below.refl _ _)
  have P1 : Below w.heap.size w (w.alloc (.cells #[.int .u8 (48 + (d : Int))] 5)).drew := bdr (bal (Below.refl _ _) _)
  have N1 : Bx (w.alloc (.cells #[.int .u8 (48 + (d : Int))] 5)).drew w.heap.size #[.int .u8 (48 + (d : Int))] 5 := Bx.new _ _ _
  have v0 := conv_one (w.alloc (.cells #[.int .u8 (48 + (d : Int))] 5)).drew w.heap.size 0 1 (48 + (d : Int)) (by rw [N1.cell 0]; rfl)
  have hadd : ∀ w : World, (Op.stringOp .add s (strOfNums [48 + (d : Int)])).run Tryd.prog w = .ok (.string (s ++ strOfNums [48 + (d : Int)])) w := fun w => run_string_add_sum w s _ (by rw [strOfNums_size]; simp; omega)
  have e1 : IntKind.i64.wrap (q : Int) = (q : Int) := IntWalk.i64_in _ (by omega)
  have e2 : IntKind.i64.wrap (48 + (d : Int)) = 48 + (d : Int) := IntWalk.i64_in _ (by omega)
  have e3 : IntKind.u8.wrap (48 + (d : Int)) = 48 + (d : Int) := IntWalk.u8_in _ (by omega)
  go_region_with
    ((go_at_call 33; (with_reducible first | refine (HS.out w.drew).mono ?_ | refine (HS.out (w.alloc (.cells #[.int .u8 (48 + (d : Int))] 5)).drew).mono ?_); rintro e y ⟨rfl, hb_⟩; have R1 : Below w.heap.size w y := (by with_reducible first | exact bst P0 hb_ | exact bst P1 hb_); (try (have v1 := conv_one y w.heap.size 0 1 (48 + (d : Int)) (by rw [(Bx.step N1 hb_).cell 0]; rfl))); have v2 := conv_one (y.alloc (.cells #[.int .u8 (48 + (d : Int))] 5)) y.heap.size 0 1 (48 + (d : Int)) (by rw [(Bx.new y #[.int .u8 (48 + (d : Int))] 5).cell 0]; rfl)))
  all_goals (clear e1 e2 e3 hadd v0 v2)
  all_goals go_wp2
  all_goals go_ret
  all_goals exact ⟨rfl, by with_reducible first | exact R1 | exact bal R1 _⟩
/-- The digits of a number below 1000. -/
def digs (n : Nat) : ByteArray :=
  if n ≤ 9 then strOfNums [48 + (n : Int)]
  else if n ≤ 99 then strOfNums [48 + ((n / 10 : Nat) : Int)] ++ strOfNums [48 + ((n % 10 : Nat) : Int)]
  else (strOfNums [48 + ((n / 100 : Nat) : Int)] ++ strOfNums [48 + ((n / 10 % 10 : Nat) : Int)]) ++ strOfNums [48 + ((n % 10 : Nat) : Int)]
theorem rdig_any (n : Nat) (hn : n ≤ 999) (w : World) : Calls Tryd.prog 33 #[.int .i64 (n : Int)] w fun e w' => e = .returned (.string (digs n)) ∧ Below w.heap.size w w' := by
  unfold digs
  by_cases h1 : n ≤ 9
  · rw [if_pos h1]
    exact rdig_low n h1 w
  · rw [if_neg h1]
    by_cases h2 : n ≤ 99
    · rw [if_pos h2]
      exact rdig_mid n (n / 10) (n % 10) (by omega) (by omega) (by omega) (by omega) _ (by rw [strOfNums_size]; simp) (fun W => rdig_low (n / 10) (by omega) W) w
    · rw [if_neg h2]
      refine rdig_mid n (n / 10) (n % 10) (by omega) (by omega) (by omega) (by omega) _ (by rw [ByteArray.size_append, strOfNums_size, strOfNums_size]; simp) (fun W => ?_) w
      have h3 := rdig_mid (n / 10) (n / 100) (n / 10 % 10) (by omega) (by omega) (by omega) (by omega) _ (by rw [strOfNums_size]; simp) (fun W => rdig_low (n / 100) (by omega) W) W
      exact h3
/-- The name of the table that strconv reads, and that it lies there. -/
def tabName : String := Rows.shapesChecksRow.named.headD ""
def Tab (w : World) : Prop := ∀ w', Below w.heap.size w w' → Lib.TabIs Tryd.prog w' tabName .u64 Lib.pow10Tab
theorem Tab.on {w w1 : World} (h : Tab w) (hb : Below w.heap.size w w1) : Tab w1 := fun w' h' => h w' (bst hb h')
theorem below_grow (w : World) (k : Nat) (os : Array Obj) : Below w.heap.size w (Sort.grow (w.drewN k) os) := by
  refine ⟨rfl, rfl, rfl, ?_, fun j hj => ?_⟩
  · show w.heap.size ≤ (w.heap ++ os).size
    rw [Array.size_append]
    omega
  · show (w.heap ++ os)[j]? = w.heap[j]?
    rw [Array.getElem?_append_left hj]
theorem digs_size (n : Nat) : (digs n).size ≤ 3 := by
  unfold digs
  split
  · rw [strOfNums_size]; simp
  · split
    · rw [ByteArray.size_append, strOfNums_size, strOfNums_size]; simp
    · rw [ByteArray.size_append, ByteArray.size_append, strOfNums_size, strOfNums_size, strOfNums_size]; simp
theorem nums_one (n : Nat) : strOfNums [48 + (n : Int)] = ⟨[UInt8.ofNat (48 + n)].toArray⟩ := by
  have h : (48 + (n : Int)).toNat = 48 + n := by omega
  simp [strOfNums, h]
theorem digs_dec (n : Nat) (hn : n ≤ 999) : digs n = ⟨(Lib.decDigits n).toArray⟩ := by
  have low : ∀ m, m ≤ 9 → Lib.decDigits m = [UInt8.ofNat (48 + m)] := fun m hm => by
    rw [Lib.decDigits, dif_pos (by omega)]
  have step : ∀ m, ¬ m ≤ 9 → Lib.decDigits m = Lib.decDigits (m / 10) ++ [UInt8.ofNat (48 + m % 10)] := fun m hm => by
    rw [Lib.decDigits, dif_neg (by omega)]
  unfold digs
  by_cases h1 : n ≤ 9
  · rw [if_pos h1, low n h1, nums_one]
  · rw [if_neg h1]
    by_cases h2 : n ≤ 99
    · rw [if_pos h2, step n h1, low (n / 10) (by omega), nums_one, nums_one]
      apply ByteArray.ext
      simp [ByteArray.data_append]
    · rw [if_neg h2, step n h1, step (n / 10) (by omega), Nat.div_div_eq_div_mul, low (n / (10 * 10)) (by omega), nums_one, nums_one, nums_one]
      apply ByteArray.ext
      simp [ByteArray.data_append]
set_option maxHeartbeats 1000000 in
theorem digits_any (n : Nat) (hn : n ≤ 999) (w : World) (hT : Tab w) : Calls Tryd.prog 32 #[.int .i64 (n : Int)] w fun e w' => e = .returned (.string (digs n)) ∧ Below w.heap.size w w' := by
  have h := Any.strconv_FormatInt_10 Go.Proofs.Tryd.lays173 (n : Int) (by omega) (by omega) w (hT w (Below.refl _ _))
  have hc : Calls Tryd.prog 38 #[.int .i64 (n : Int), .int .i64 10] w fun e w' => e = .returned (.string (digs n)) ∧ Below w.heap.size w w' := by
    refine Calls.mono h ?_
    rintro e w' ⟨rfl, k, os, rfl⟩
    refine ⟨?_, below_grow w k os⟩
    rw [digs_dec n hn]
    unfold Lib.itoa
    rw [if_neg (by omega)]
    rfl
  have HC := Lib.hid hc
  clear h hc hT
  go_enter Tryd.func32, Tryd.ntmps32
  go_wp2_with fail
  refine HC.out.mono ?_
  rintro e w1 ⟨rfl, hb⟩
  go_wp2
  go_ret
  exact ⟨rfl, hb⟩
end Go.Proofs.YteegipfgbcnfkaaDoor

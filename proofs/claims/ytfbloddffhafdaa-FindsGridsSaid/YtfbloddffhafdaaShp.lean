/-
  shapes.Check, shapes.product, shapes.Cells, and the references' Check, Many, Cells: what each returns, by walks. Written by gen_shp.py.
-/
import Derived.Test.YtfbloddffhafdaaBase
import Derived.Test.YtfbloddffhafdaaSpec
import Derived.Test.YtfbloddffhafdaaProg
namespace Go.Proofs.Ytfbloddffhafdaa
open Go.RowKit

set_option maxHeartbeats 400000 in
theorem indexFunc_int (g : Nat) (lb : Array Value) (p : Int → Bool) (eg : ∀ args w, (callFunc g args).run Try.prog w = .ok (.enter g args) w) (A : Option Addr) (n c : Nat) (xs : List Int) (w : World)
    (h : Sl w A n c xs) (hp : ∀ x W, Below w.heap.size w W → Calls Try.prog g (#[.int .i64 x] ++ lb) W fun e w' => e = .returned (.bool (p x)) ∧ Below W.heap.size W w') :
    Calls Try.prog 72 #[.slice A n c, .func (.func g) #[] lb] w fun e w' => (∃ i : Int, e = .returned (.int .i64 i) ∧ (0 ≤ i ↔ xs.any p = true)) ∧ Below w.heap.size w w' := by
  have hl := h.len
  have hm := h.most
  have hc := h.cap
  have HS := Lib.hid h
  have HP := Lib.hid hp
  clear hp h
  go_enter Try.func72, Try.ntmps72
  go_wp2
  go_loopw [5, 8] (fun _ i wr => ∃ k : Nat, k ≤ n ∧ i = .int .i64 k ∧ Below w.heap.size w wr ∧ Hid (∀ j, j < k → p (xs.getD j 0) = false)) (fun _ i _ => n - (intOf i).toNat)
  case atStart => exact ⟨0, Nat.zero_le _, rfl, Below.refl _ _, Lib.hid (fun j hj => absurd hj (Nat.not_lt_zero _))⟩
  case round =>
    obtain ⟨k, hk, rfl, hb, hno⟩ := hrel
    by_cases hlt : k < n
    · obtain ⟨b, o, rfl, hbl, hck0⟩ := HS.out.at_ hlt
      have hck : wr.cell? ⟨b, o + k, none⟩ = some (.int .i64 (xs.getD k 0)) := (hb.cell (p := ⟨b, o + k, none⟩) hbl).trans hck0
      clear hck0
      generalize hy : xs.getD k 0 = y at hck
      have HY := Lib.hid hy
      clear hy
      have hcall := HP.out y
      cases hq : p y with
      | true =>
        rw [hq] at hcall
        have HQ := Lib.hid hq
        clear hq
        have HC := Lib.hid hcall
        clear hcall
        go_wp2_with (go_at_fn g; refine (HC.out _ hb).mono ?_; rintro e w' ⟨rfl, hb'⟩)
        go_ret
        refine ⟨⟨k, rfl, ?_⟩, bst hb hb'⟩
        simp only [Int.natCast_nonneg, true_iff, List.any_eq_true]
        refine ⟨y, ?_, HQ.out⟩
        rw [← HY.out]
        exact getD_mem (by omega)
      | false =>
        rw [hq] at hcall
        have HQ := Lib.hid hq
        clear hq
        have HC := Lib.hid hcall
        clear hcall
        go_wp2_with (go_at_fn g; refine (HC.out _ hb).mono ?_; rintro e w' ⟨rfl, hb'⟩)
        go_roundw
        case rel =>
          refine ⟨k + 1, by omega, by go_num, bst hb hb', Lib.hid (fun j hj => ?_)⟩
          by_cases e : j = k
          · subst e; rw [HY.out]; exact HQ.out
          · exact hno.out j (by omega)
        case measure => simp [intOf]; omega
    · have hk' : k = n := by omega
      go_wp2
      go_ret
      refine ⟨⟨-1, rfl, ?_⟩, hb⟩
      have hno' := hno.out
      constructor
      · intro h; omega
      · intro h
        rw [List.any_eq_true] at h
        obtain ⟨x, hx, hpx⟩ := h
        obtain ⟨j, hj, rfl⟩ := List.mem_iff_getElem.1 hx
        have := hno' j (by omega)
        rw [getD_get hj] at this
        rw [this] at hpx
        cases hpx

set_option maxHeartbeats 400000 in
theorem containsFunc_int (g : Nat) (lb : Array Value) (p : Int → Bool) (eg : ∀ args w, (callFunc g args).run Try.prog w = .ok (.enter g args) w) (A : Option Addr) (n c : Nat) (xs : List Int) (t : Bool) (w : World)
    (h : Sl w A n c xs) (hp : ∀ x W, Below w.heap.size w W → Calls Try.prog g (#[.int .i64 x] ++ lb) W fun e w' => e = .returned (.bool (p x)) ∧ Below W.heap.size W w') (ht : xs.any p = t) :
    Calls Try.prog 67 #[.slice A n c, .func (.func g) #[] lb] w fun e w' => e = .returned (.bool t) ∧ Below w.heap.size w w' := by
  have HT := Lib.hid ht
  clear ht
  have HC := Lib.hid (indexFunc_int g lb p eg A n c xs w h hp)
  clear hp h
  go_enter Try.func67, Try.ntmps67
  go_wp2_with fail
  refine HC.out.mono ?_
  rintro e w' ⟨⟨i, rfl, hi⟩, hb⟩
  have HI := Lib.hid hi
  clear hi
  cases t with
  | true =>
    have h0 : 0 ≤ i := HI.out.2 HT.out
    go_wp2
    go_ret
    exact ⟨rfl, hb⟩
  | false =>
    have h0 : decide (0 ≤ i) = false := by
      have := HI.out
      rw [HT.out] at this
      simpa using this
    go_wp2
    go_ret
    exact ⟨rfl, hb⟩

theorem closure1 (x : Int) (w : World) : Calls Try.prog 68 #[.int .i64 x] w fun e w' => e = .returned (.bool (decide (x < 0))) ∧ Below w.heap.size w w' := by
  go_enter Try.func68, Try.ntmps68
  go_wp2
  go_ret
  exact ⟨rfl, Below.refl _ _⟩
theorem enters1 : ∀ args w, (callFunc 68 args).run Try.prog w = .ok (.enter 68 args) w := enters_of Try.func68 (by kernel_rfl) rfl

theorem closure2 (x : Int) (w : World) : Calls Try.prog 69 #[.int .i64 x] w fun e w' => e = .returned (.bool (x != 0)) ∧ Below w.heap.size w w' := by
  go_enter Try.func69, Try.ntmps69
  go_wp2
  go_ret
  exact ⟨rfl, Below.refl _ _⟩
theorem enters2 : ∀ args w, (callFunc 69 args).run Try.prog w = .ok (.enter 69 args) w := enters_of Try.func69 (by kernel_rfl) rfl

theorem closure3 (x : Int) (w : World) : Calls Try.prog 70 #[.int .i64 x] w fun e w' => e = .returned (.bool (decide (400 < x))) ∧ Below w.heap.size w w' := by
  go_enter Try.func70, Try.ntmps70
  go_wp2
  go_ret
  exact ⟨rfl, Below.refl _ _⟩
theorem enters3 : ∀ args w, (callFunc 70 args).run Try.prog w = .ok (.enter 70 args) w := enters_of Try.func70 (by kernel_rfl) rfl

set_option maxHeartbeats 400000 in
theorem product_any (r l0 l1 : Int) (w : World) (h0 : 0 ≤ l0) (h0' : l0 ≤ 400) (h1 : 0 ≤ l1) (h1' : l1 ≤ 400) :
    Calls Try.prog 63 #[.int .i64 r, .agg #[.int .i64 l0, .int .i64 l1]] w fun e w' => e = .returned (.int .i64 (prodI r l0 l1)) ∧ Below w.heap.size w w' := by
  have hp : 0 ≤ l1 * l0 ∧ l1 * l0 ≤ 160000 := ⟨Int.mul_nonneg h1 h0, by have := Int.mul_le_mul h1' h0' h0 (by omega : (0:Int) ≤ 400); omega⟩
  obtain ⟨hp1, hp2⟩ := hp
  go_enter Try.func63, Try.ntmps63
  by_cases r2 : r = 2
  · subst r2
    go_wp2
    go_ret
    refine ⟨?_, bal (Below.refl _ _) _⟩
    simp [prodI, Int.mul_comm]
  · have r2' : (r == 2) = false := by simpa using r2
    by_cases r1 : r = 1
    · subst r1
      go_wp2
      go_ret
      refine ⟨?_, bal (Below.refl _ _) _⟩
      simp [prodI]
    · have r1' : (r == 1) = false := by simpa using r1
      go_wp2
      go_ret
      refine ⟨?_, bal (Below.refl _ _) _⟩
      simp [prodI, r1, r2]

end Go.Proofs.Ytfbloddffhafdaa

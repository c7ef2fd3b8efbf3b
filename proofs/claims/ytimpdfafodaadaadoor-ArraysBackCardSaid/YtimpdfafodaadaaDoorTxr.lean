/-
  The reference's size and decoded: the rune at the beginning of a string.
-/
import Derived.Test.YtimpdfafodaadaaDoorTxd
import Derived.Test.YtimpdfafodaadaaDoorRarr
namespace Go.Proofs.YtimpdfafodaadaaDoor
open Go.RowKit
set_option maxHeartbeats 400000 in
theorem size_any (c : Int) (w : World) : Calls Tryd.prog 69 #[.int .i64 c] w fun e w' => e = .returned (.int .i64 (sizeI c)) ∧ w' = w := by
  unfold sizeI
  by_cases h1 : c < 128
  · rw [if_pos h1]
    go_enter Tryd.func69, Tryd.ntmps69
    go_wp2
    go_ret
    exact ⟨rfl, rfl⟩
  · rw [if_neg h1]
    by_cases h2 : c < 2048
    · rw [if_pos h2]
      go_enter Tryd.func69, Tryd.ntmps69
      go_wp2
      go_ret
      exact ⟨rfl, rfl⟩
    · rw [if_neg h2]
      by_cases h3 : c < 65536
      · rw [if_pos h3]
        go_enter Tryd.func69, Tryd.ntmps69
        go_wp2
        go_ret
        exact ⟨rfl, rfl⟩
      · rw [if_neg h3]
        go_enter Tryd.func69, Tryd.ntmps69
        go_wp2
        go_ret
        exact ⟨rfl, rfl⟩
theorem u8_lt (t : ByteArray) (k : Nat) : (t.get! k).toNat < 256 := (t.get! k).toNat_lt
theorem wrap64_u8 (b : Nat) (h : b < 256) : wrap64 (b : Int) = (b : Int) := IntWalk.wrap64_in _ (by omega)
theorem get_idx (t : ByteArray) (k : Nat) (h : k < t.size) : t[k]'h = t.get! k := by
  simp [ByteArray.get!, getElem!_pos, h]
  rfl
set_option maxRecDepth 100000 in
set_option maxHeartbeats 1000000 in
theorem decoded_one (t : ByteArray) (x0 : UInt8) (b0 : Nat) (w : World) (ht : 0 < t.size) (hx0 : t.get! 0 = x0) (hb0 : x0.toNat = b0) (hb256 : b0 < 256) (h : b0 < 128) :
    Calls Tryd.prog 51 #[.string t] w fun e w' => e = .returned (.tuple #[.int .i64 (b0 : Int), .int .i64 1]) ∧ Below w.heap.size w w' := by
  have h' : (b0 : Int) < 128 := by omega
  have e0 : t[0]'ht = x0 := by rw [get_idx]; exact hx0
  have ew : wrap64 (b0 : Int) = (b0 : Int) := wrap64_u8 _ hb256
  clear hx0
  go_enter Tryd.func51, Tryd.ntmps51
  go_wp2
  go_ret2
  exact ⟨rfl, Below.refl _ _⟩
set_option maxRecDepth 100000 in
set_option maxHeartbeats 1000000 in
theorem decoded_no (t : ByteArray) (x0 : UInt8) (b0 : Nat) (w : World) (ht : 0 < t.size) (hx0 : t.get! 0 = x0) (hb0 : x0.toNat = b0) (hb256 : b0 < 256) (h : (128 ≤ b0 ∧ b0 < 192) ∨ 248 ≤ b0) :
    Calls Tryd.prog 51 #[.string t] w fun e w' => e = .returned (.tuple #[.int .i64 0, .int .i64 0]) ∧ Below w.heap.size w w' := by
  have e0 : t[0]'ht = x0 := by rw [get_idx]; exact hx0
  have ew : wrap64 (b0 : Int) = (b0 : Int) := wrap64_u8 _ hb256
  clear hx0
  rcases h with ⟨h1, h2⟩ | h1
  · have g1 : (128 : Int) ≤ (b0 : Int) := by omega
    have g2 : (b0 : Int) < 192 := by omega
    go_enter Tryd.func51, Tryd.ntmps51
    go_wp2
    go_ret2
    exact ⟨rfl, Below.refl _ _⟩
  · have g1 : (248 : Int) ≤ (b0 : Int) := by omega
    go_enter Tryd.func51, Tryd.ntmps51
    go_wp2
    go_ret2
    exact ⟨rfl, Below.refl _ _⟩
theorem okC_false {f : Nat → Nat} {j m : Nat} (h : okC f j = false) (hm : j ≤ m) : okC f m = false := by
  induction m with
  | zero =>
    obtain rfl : j = 0 := by omega
    exact h
  | succ m ih =>
    by_cases e : j = m + 1
    · subst e; exact h
    · simp only [okC, ih (by omega), Bool.false_and]
set_option maxRecDepth 100000 in
set_option maxHeartbeats 2000000 in
theorem decoded_2 (t : ByteArray) (x0 : UInt8) (b0 : Nat) (w : World) (ht : 0 < t.size) (hx0 : t.get! 0 = x0) (hb0 : x0.toNat = b0) (hb256 : b0 < 256) (h1 : 192 ≤ b0) (h2 : b0 < 224) (R : Int × Int) (hR : mulDec t.size 2 ((b0 : Int) - 192) (fun k => (t.get! k).toNat) = R) :
    Calls Tryd.prog 51 #[.string t] w fun e w' => e = .returned (.tuple #[.int .i64 R.1, .int .i64 R.2]) ∧ Below w.heap.size w w' := by
  have e0 : t[0]'ht = x0 := by rw [get_idx]; exact hx0
  have ew : wrap64 (b0 : Int) = (b0 : Int) := wrap64_u8 _ hb256
  clear hx0
  have g1 : (192 : Int) ≤ (b0 : Int) := by omega
  have g2 : (b0 : Int) < 224 := by omega
  obtain ⟨f, hf⟩ : ∃ f : Nat → Nat, (fun k => (t.get! k).toNat) = f := ⟨_, rfl⟩
  rw [hf] at hR
  have HF := Lib.hid hf
  have hc0 : (0 : Int) ≤ (b0 : Int) - 192 := by omega
  have hc1 : (b0 : Int) - 192 < 32 := by omega
  obtain ⟨c0, hc⟩ : ∃ c, (b0 : Int) - 192 = c := ⟨_, rfl⟩
  rw [hc] at hR hc0 hc1
  have HB := Lib.hid (fun k => accC_bound (f := f) hc0 hc1 k)
  have HR := Lib.hid hR
  clear hR hf
  by_cases hsz : t.size < 2
  · have hr := HR.out
    unfold mulDec at hr
    rw [if_pos hsz] at hr
    subst hr
    have hsz' : (t.size : Int) < 2 := by omega
    clear HB HR
    go_enter Tryd.func51, Tryd.ntmps51
    go_wp2
    go_ret2
    exact ⟨rfl, Below.refl _ _⟩
  · have hsz' : ¬ (t.size : Int) < 2 := by omega
    have hsz2 : 2 ≤ t.size := by omega
    go_enter Tryd.func51, Tryd.ntmps51
    go_wp2
    go_loop [6, 7] (fun c i => ∃ (j : Nat) (C : Int), 1 ≤ j ∧ j ≤ 2 ∧ i = .int .i64 j ∧ c = .int .i64 C ∧ Hid (C = accC c0 f (j - 1)) ∧ Hid (okC f (j - 1) = true)) (fun _ i => 2 - (intOf i).toNat)
    case atStart => exact ⟨1, c0, by omega, by omega, rfl, rfl, Lib.hid rfl, Lib.hid rfl⟩
    case round =>
      obtain ⟨j, C, hj1, hj2, rfl, rfl, HC, HO⟩ := hrel
      have hbd := HB.out (j - 1) (by omega) HO.out
      rw [← HC.out] at hbd
      obtain ⟨hbd0, hbd1⟩ := hbd
      by_cases hlt : j < 2
      · have hlt' : (j : Int) < 2 := by omega
        have hts : j < t.size := by omega
        have hti : (j : Int) < (t.size : Int) := by omega
        have hti0 : (0 : Int) ≤ (j : Int) := by omega
        obtain ⟨x, hx⟩ : ∃ x, t.get! j = x := ⟨_, rfl⟩
        have ex : t[j]'hts = x := by rw [get_idx]; exact hx
        obtain ⟨b, hb⟩ : ∃ b : Nat, x.toNat = b := ⟨_, rfl⟩
        have hfb : f j = b := by rw [← HF.out]; show (t.get! j).toNat = b; rw [hx]; exact hb
        have hb2 : b < 256 := by rw [← hb]; exact x.toNat_lt
        have HFB := Lib.hid hfb
        have hst : accC c0 f j = 64 * C + ((b : Int) - 128) := by
          have : accC c0 f j = accC c0 f (j - 1 + 1) := by rw [Nat.sub_add_cancel hj1]
          rw [this, HC.out, ← hfb]
          show 64 * accC c0 f (j - 1) + ((f (j - 1 + 1) : Int) - 128) = _
          rw [Nat.sub_add_cancel hj1]
        have hso : okC f j = (decide (128 ≤ b) && decide (b < 192)) := by
          have : okC f j = okC f (j - 1 + 1) := by rw [Nat.sub_add_cancel hj1]
          rw [this, ← hfb]
          show (okC f (j - 1) && (decide (128 ≤ f (j - 1 + 1)) && decide (f (j - 1 + 1) < 192))) = _
          rw [HO.out, Nat.sub_add_cancel hj1]
          rfl
        have HST := Lib.hid hst
        have HSO := Lib.hid hso
        clear hx hfb hst hso
        by_cases hok : 128 ≤ b ∧ b < 192
        · obtain ⟨k1, k2⟩ := hok
          have k1' : (128 : Int) ≤ (b : Int) := by omega
          have k2' : (b : Int) < 192 := by omega
          go_wp2
          refine ⟨⟨j + 1, 64 * C + ((b : Int) - 128), by omega, by omega, rfl, rfl, Lib.hid HST.out.symm, Lib.hid ?_⟩, by simp only [intOf]; omega⟩
          rw [Nat.add_sub_cancel, HSO.out]
          simp [k1, k2]
        · have hz : okC f (2 - 1) = false := okC_false (j := j) (by rw [HSO.out]; simp; omega) (by omega)
          have hr := HR.out
          unfold mulDec at hr
          rw [if_neg hsz, if_pos hz] at hr
          subst hr
          clear HR HB hz
          have hok2 : b < 128 ∨ 192 ≤ b := by omega
          clear hok
          rcases hok2 with k1 | k1
          · have k1' : (b : Int) < 128 := by omega
            go_wp2
            go_ret2
            exact ⟨rfl, Below.refl _ _⟩
          · have k1' : (192 : Int) ≤ (b : Int) := by omega
            go_wp2
            go_ret2
            exact ⟨rfl, Below.refl _ _⟩
      · obtain rfl : j = 2 := by omega
        have hr := HR.out
        unfold mulDec at hr
        rw [if_neg hsz, if_neg (by rw [HO.out]; simp), ← HC.out] at hr
        cases hq : isRune C with
        | false =>
          rw [hq, if_pos rfl] at hr
          subst hr
          have HQ := Lib.hid hq
          clear hq HR HB
          go_wp2_with fail
          refine (rune64_any C _).mono ?_
          rintro e w1 ⟨rfl, hb1⟩
          rw [HQ.out]
          go_wp2
          go_ret2
          exact ⟨rfl, hb1⟩
        | true =>
          rw [hq, if_neg (by simp)] at hr
          have HQ := Lib.hid hq
          obtain ⟨z, hz⟩ : ∃ z, sizeI C = z := ⟨_, rfl⟩
          rw [hz] at hr
          have HZ := Lib.hid hz
          clear hq HR HB hz
          by_cases hzN : z = 2
          · rw [if_neg (by rw [hzN]; simp)] at hr
            subst hr
            subst hzN
            go_wp2_with fail
            refine (rune64_any C _).mono ?_
            rintro e w1 ⟨rfl, hb1⟩
            rw [HQ.out]
            go_wp2_with fail
            refine (size_any C _).mono ?_
            rintro e w2 ⟨rfl, rfl⟩
            rw [HZ.out]
            go_wp2
            go_ret2
            exact ⟨rfl, hb1⟩
          · rw [if_pos (by simpa using hzN)] at hr
            subst hr
            have hzN' : (z != 2) = true := by simpa using hzN
            clear hzN
            go_wp2_with fail
            refine (rune64_any C _).mono ?_
            rintro e w1 ⟨rfl, hb1⟩
            rw [HQ.out]
            go_wp2_with fail
            refine (size_any C _).mono ?_
            rintro e w2 ⟨rfl, rfl⟩
            rw [HZ.out]
            go_wp2
            go_ret2
            exact ⟨rfl, hb1⟩
set_option maxRecDepth 100000 in
set_option maxHeartbeats 2000000 in
theorem decoded_3 (t : ByteArray) (x0 : UInt8) (b0 : Nat) (w : World) (ht : 0 < t.size) (hx0 : t.get! 0 = x0) (hb0 : x0.toNat = b0) (hb256 : b0 < 256) (h1 : 224 ≤ b0) (h2 : b0 < 240) (R : Int × Int) (hR : mulDec t.size 3 ((b0 : Int) - 224) (fun k => (t.get! k).toNat) = R) :
    Calls Tryd.prog 51 #[.string t] w fun e w' => e = .returned (.tuple #[.int .i64 R.1, .int .i64 R.2]) ∧ Below w.heap.size w w' := by
  have e0 : t[0]'ht = x0 := by rw [get_idx]; exact hx0
  have ew : wrap64 (b0 : Int) = (b0 : Int) := wrap64_u8 _ hb256
  clear hx0
  have g1 : (224 : Int) ≤ (b0 : Int) := by omega
  have g2 : (b0 : Int) < 240 := by omega
  obtain ⟨f, hf⟩ : ∃ f : Nat → Nat, (fun k => (t.get! k).toNat) = f := ⟨_, rfl⟩
  rw [hf] at hR
  have HF := Lib.hid hf
  have hc0 : (0 : Int) ≤ (b0 : Int) - 224 := by omega
  have hc1 : (b0 : Int) - 224 < 32 := by omega
  obtain ⟨c0, hc⟩ : ∃ c, (b0 : Int) - 224 = c := ⟨_, rfl⟩
  rw [hc] at hR hc0 hc1
  have HB := Lib.hid (fun k => accC_bound (f := f) hc0 hc1 k)
  have HR := Lib.hid hR
  clear hR hf
  by_cases hsz : t.size < 3
  · have hr := HR.out
    unfold mulDec at hr
    rw [if_pos hsz] at hr
    subst hr
    have hsz' : (t.size : Int) < 3 := by omega
    clear HB HR
    go_enter Tryd.func51, Tryd.ntmps51
    go_wp2
    go_ret2
    exact ⟨rfl, Below.refl _ _⟩
  · have hsz' : ¬ (t.size : Int) < 3 := by omega
    have hsz2 : 3 ≤ t.size := by omega
    go_enter Tryd.func51, Tryd.ntmps51
    go_wp2
    go_loop [6, 7] (fun c i => ∃ (j : Nat) (C : Int), 1 ≤ j ∧ j ≤ 3 ∧ i = .int .i64 j ∧ c = .int .i64 C ∧ Hid (C = accC c0 f (j - 1)) ∧ Hid (okC f (j - 1) = true)) (fun _ i => 3 - (intOf i).toNat)
    case atStart => exact ⟨1, c0, by omega, by omega, rfl, rfl, Lib.hid rfl, Lib.hid rfl⟩
    case round =>
      obtain ⟨j, C, hj1, hj2, rfl, rfl, HC, HO⟩ := hrel
      have hbd := HB.out (j - 1) (by omega) HO.out
      rw [← HC.out] at hbd
      obtain ⟨hbd0, hbd1⟩ := hbd
      by_cases hlt : j < 3
      · have hlt' : (j : Int) < 3 := by omega
        have hts : j < t.size := by omega
        have hti : (j : Int) < (t.size : Int) := by omega
        have hti0 : (0 : Int) ≤ (j : Int) := by omega
        obtain ⟨x, hx⟩ : ∃ x, t.get! j = x := ⟨_, rfl⟩
        have ex : t[j]'hts = x := by rw [get_idx]; exact hx
        obtain ⟨b, hb⟩ : ∃ b : Nat, x.toNat = b := ⟨_, rfl⟩
        have hfb : f j = b := by rw [← HF.out]; show (t.get! j).toNat = b; rw [hx]; exact hb
        have hb2 : b < 256 := by rw [← hb]; exact x.toNat_lt
        have HFB := Lib.hid hfb
        have hst : accC c0 f j = 64 * C + ((b : Int) - 128) := by
          have : accC c0 f j = accC c0 f (j - 1 + 1) := by rw [Nat.sub_add_cancel hj1]
          rw [this, HC.out, ← hfb]
          show 64 * accC c0 f (j - 1) + ((f (j - 1 + 1) : Int) - 128) = _
          rw [Nat.sub_add_cancel hj1]
        have hso : okC f j = (decide (128 ≤ b) && decide (b < 192)) := by
          have : okC f j = okC f (j - 1 + 1) := by rw [Nat.sub_add_cancel hj1]
          rw [this, ← hfb]
          show (okC f (j - 1) && (decide (128 ≤ f (j - 1 + 1)) && decide (f (j - 1 + 1) < 192))) = _
          rw [HO.out, Nat.sub_add_cancel hj1]
          rfl
        have HST := Lib.hid hst
        have HSO := Lib.hid hso
        clear hx hfb hst hso
        by_cases hok : 128 ≤ b ∧ b < 192
        · obtain ⟨k1, k2⟩ := hok
          have k1' : (128 : Int) ≤ (b : Int) := by omega
          have k2' : (b : Int) < 192 := by omega
          go_wp2
          refine ⟨⟨j + 1, 64 * C + ((b : Int) - 128), by omega, by omega, rfl, rfl, Lib.hid HST.out.symm, Lib.hid ?_⟩, by simp only [intOf]; omega⟩
          rw [Nat.add_sub_cancel, HSO.out]
          simp [k1, k2]
        · have hz : okC f (3 - 1) = false := okC_false (j := j) (by rw [HSO.out]; simp; omega) (by omega)
          have hr := HR.out
          unfold mulDec at hr
          rw [if_neg hsz, if_pos hz] at hr
          subst hr
          clear HR HB hz
          have hok2 : b < 128 ∨ 192 ≤ b := by omega
          clear hok
          rcases hok2 with k1 | k1
          · have k1' : (b : Int) < 128 := by omega
            go_wp2
            go_ret2
            exact ⟨rfl, Below.refl _ _⟩
          · have k1' : (192 : Int) ≤ (b : Int) := by omega
            go_wp2
            go_ret2
            exact ⟨rfl, Below.refl _ _⟩
      · obtain rfl : j = 3 := by omega
        have hr := HR.out
        unfold mulDec at hr
        rw [if_neg hsz, if_neg (by rw [HO.out]; simp), ← HC.out] at hr
        cases hq : isRune C with
        | false =>
          rw [hq, if_pos rfl] at hr
          subst hr
          have HQ := Lib.hid hq
          clear hq HR HB
          go_wp2_with fail
          refine (rune64_any C _).mono ?_
          rintro e w1 ⟨rfl, hb1⟩
          rw [HQ.out]
          go_wp2
          go_ret2
          exact ⟨rfl, hb1⟩
        | true =>
          rw [hq, if_neg (by simp)] at hr
          have HQ := Lib.hid hq
          obtain ⟨z, hz⟩ : ∃ z, sizeI C = z := ⟨_, rfl⟩
          rw [hz] at hr
          have HZ := Lib.hid hz
          clear hq HR HB hz
          by_cases hzN : z = 3
          · rw [if_neg (by rw [hzN]; simp)] at hr
            subst hr
            subst hzN
            go_wp2_with fail
            refine (rune64_any C _).mono ?_
            rintro e w1 ⟨rfl, hb1⟩
            rw [HQ.out]
            go_wp2_with fail
            refine (size_any C _).mono ?_
            rintro e w2 ⟨rfl, rfl⟩
            rw [HZ.out]
            go_wp2
            go_ret2
            exact ⟨rfl, hb1⟩
          · rw [if_pos (by simpa using hzN)] at hr
            subst hr
            have hzN' : (z != 3) = true := by simpa using hzN
            clear hzN
            go_wp2_with fail
            refine (rune64_any C _).mono ?_
            rintro e w1 ⟨rfl, hb1⟩
            rw [HQ.out]
            go_wp2_with fail
            refine (size_any C _).mono ?_
            rintro e w2 ⟨rfl, rfl⟩
            rw [HZ.out]
            go_wp2
            go_ret2
            exact ⟨rfl, hb1⟩
set_option maxRecDepth 100000 in
set_option maxHeartbeats 2000000 in
theorem decoded_4 (t : ByteArray) (x0 : UInt8) (b0 : Nat) (w : World) (ht : 0 < t.size) (hx0 : t.get! 0 = x0) (hb0 : x0.toNat = b0) (hb256 : b0 < 256) (h1 : 240 ≤ b0) (h2 : b0 < 248) (R : Int × Int) (hR : mulDec t.size 4 ((b0 : Int) - 240) (fun k => (t.get! k).toNat) = R) :
    Calls Tryd.prog 51 #[.string t] w fun e w' => e = .returned (.tuple #[.int .i64 R.1, .int .i64 R.2]) ∧ Below w.heap.size w w' := by
  have e0 : t[0]'ht = x0 := by rw [get_idx]; exact hx0
  have ew : wrap64 (b0 : Int) = (b0 : Int) := wrap64_u8 _ hb256
  clear hx0
  have g1 : (240 : Int) ≤ (b0 : Int) := by omega
  have g2 : (b0 : Int) < 248 := by omega
  obtain ⟨f, hf⟩ : ∃ f : Nat → Nat, (fun k => (t.get! k).toNat) = f := ⟨_, rfl⟩
  rw [hf] at hR
  have HF := Lib.hid hf
  have hc0 : (0 : Int) ≤ (b0 : Int) - 240 := by omega
  have hc1 : (b0 : Int) - 240 < 32 := by omega
  obtain ⟨c0, hc⟩ : ∃ c, (b0 : Int) - 240 = c := ⟨_, rfl⟩
  rw [hc] at hR hc0 hc1
  have HB := Lib.hid (fun k => accC_bound (f := f) hc0 hc1 k)
  have HR := Lib.hid hR
  clear hR hf
  by_cases hsz : t.size < 4
  · have hr := HR.out
    unfold mulDec at hr
    rw [if_pos hsz] at hr
    subst hr
    have hsz' : (t.size : Int) < 4 := by omega
    clear HB HR
    go_enter Tryd.func51, Tryd.ntmps51
    go_wp2
    go_ret2
    exact ⟨rfl, Below.refl _ _⟩
  · have hsz' : ¬ (t.size : Int) < 4 := by omega
    have hsz2 : 4 ≤ t.size := by omega
    go_enter Tryd.func51, Tryd.ntmps51
    go_wp2
    go_loop [6, 7] (fun c i => ∃ (j : Nat) (C : Int), 1 ≤ j ∧ j ≤ 4 ∧ i = .int .i64 j ∧ c = .int .i64 C ∧ Hid (C = accC c0 f (j - 1)) ∧ Hid (okC f (j - 1) = true)) (fun _ i => 4 - (intOf i).toNat)
    case atStart => exact ⟨1, c0, by omega, by omega, rfl, rfl, Lib.hid rfl, Lib.hid rfl⟩
    case round =>
      obtain ⟨j, C, hj1, hj2, rfl, rfl, HC, HO⟩ := hrel
      have hbd := HB.out (j - 1) (by omega) HO.out
      rw [← HC.out] at hbd
      obtain ⟨hbd0, hbd1⟩ := hbd
      by_cases hlt : j < 4
      · have hlt' : (j : Int) < 4 := by omega
        have hts : j < t.size := by omega
        have hti : (j : Int) < (t.size : Int) := by omega
        have hti0 : (0 : Int) ≤ (j : Int) := by omega
        obtain ⟨x, hx⟩ : ∃ x, t.get! j = x := ⟨_, rfl⟩
        have ex : t[j]'hts = x := by rw [get_idx]; exact hx
        obtain ⟨b, hb⟩ : ∃ b : Nat, x.toNat = b := ⟨_, rfl⟩
        have hfb : f j = b := by rw [← HF.out]; show (t.get! j).toNat = b; rw [hx]; exact hb
        have hb2 : b < 256 := by rw [← hb]; exact x.toNat_lt
        have HFB := Lib.hid hfb
        have hst : accC c0 f j = 64 * C + ((b : Int) - 128) := by
          have : accC c0 f j = accC c0 f (j - 1 + 1) := by rw [Nat.sub_add_cancel hj1]
          rw [this, HC.out, ← hfb]
          show 64 * accC c0 f (j - 1) + ((f (j - 1 + 1) : Int) - 128) = _
          rw [Nat.sub_add_cancel hj1]
        have hso : okC f j = (decide (128 ≤ b) && decide (b < 192)) := by
          have : okC f j = okC f (j - 1 + 1) := by rw [Nat.sub_add_cancel hj1]
          rw [this, ← hfb]
          show (okC f (j - 1) && (decide (128 ≤ f (j - 1 + 1)) && decide (f (j - 1 + 1) < 192))) = _
          rw [HO.out, Nat.sub_add_cancel hj1]
          rfl
        have HST := Lib.hid hst
        have HSO := Lib.hid hso
        clear hx hfb hst hso
        by_cases hok : 128 ≤ b ∧ b < 192
        · obtain ⟨k1, k2⟩ := hok
          have k1' : (128 : Int) ≤ (b : Int) := by omega
          have k2' : (b : Int) < 192 := by omega
          go_wp2
          refine ⟨⟨j + 1, 64 * C + ((b : Int) - 128), by omega, by omega, rfl, rfl, Lib.hid HST.out.symm, Lib.hid ?_⟩, by simp only [intOf]; omega⟩
          rw [Nat.add_sub_cancel, HSO.out]
          simp [k1, k2]
        · have hz : okC f (4 - 1) = false := okC_false (j := j) (by rw [HSO.out]; simp; omega) (by omega)
          have hr := HR.out
          unfold mulDec at hr
          rw [if_neg hsz, if_pos hz] at hr
          subst hr
          clear HR HB hz
          have hok2 : b < 128 ∨ 192 ≤ b := by omega
          clear hok
          rcases hok2 with k1 | k1
          · have k1' : (b : Int) < 128 := by omega
            go_wp2
            go_ret2
            exact ⟨rfl, Below.refl _ _⟩
          · have k1' : (192 : Int) ≤ (b : Int) := by omega
            go_wp2
            go_ret2
            exact ⟨rfl, Below.refl _ _⟩
      · obtain rfl : j = 4 := by omega
        have hr := HR.out
        unfold mulDec at hr
        rw [if_neg hsz, if_neg (by rw [HO.out]; simp), ← HC.out] at hr
        cases hq : isRune C with
        | false =>
          rw [hq, if_pos rfl] at hr
          subst hr
          have HQ := Lib.hid hq
          clear hq HR HB
          go_wp2_with fail
          refine (rune64_any C _).mono ?_
          rintro e w1 ⟨rfl, hb1⟩
          rw [HQ.out]
          go_wp2
          go_ret2
          exact ⟨rfl, hb1⟩
        | true =>
          rw [hq, if_neg (by simp)] at hr
          have HQ := Lib.hid hq
          obtain ⟨z, hz⟩ : ∃ z, sizeI C = z := ⟨_, rfl⟩
          rw [hz] at hr
          have HZ := Lib.hid hz
          clear hq HR HB hz
          by_cases hzN : z = 4
          · rw [if_neg (by rw [hzN]; simp)] at hr
            subst hr
            subst hzN
            go_wp2_with fail
            refine (rune64_any C _).mono ?_
            rintro e w1 ⟨rfl, hb1⟩
            rw [HQ.out]
            go_wp2_with fail
            refine (size_any C _).mono ?_
            rintro e w2 ⟨rfl, rfl⟩
            rw [HZ.out]
            go_wp2
            go_ret2
            exact ⟨rfl, hb1⟩
          · rw [if_pos (by simpa using hzN)] at hr
            subst hr
            have hzN' : (z != 4) = true := by simpa using hzN
            clear hzN
            go_wp2_with fail
            refine (rune64_any C _).mono ?_
            rintro e w1 ⟨rfl, hb1⟩
            rw [HQ.out]
            go_wp2_with fail
            refine (size_any C _).mono ?_
            rintro e w2 ⟨rfl, rfl⟩
            rw [HZ.out]
            go_wp2
            go_ret2
            exact ⟨rfl, hb1⟩
theorem decoded_any (t : ByteArray) (w : World) (ht : 0 < t.size) :
    Calls Tryd.prog 51 #[.string t] w fun e w' => e = .returned (.tuple #[.int .i64 (rdec t.size fun k => (t.get! k).toNat).1, .int .i64 (rdec t.size fun k => (t.get! k).toNat).2]) ∧ Below w.heap.size w w' := by
  have h256 : (t.get! 0).toNat < 256 := u8_lt t 0
  unfold rdec
  by_cases c0 : (t.get! 0).toNat < 128
  · rw [if_pos c0]
    exact decoded_one t _ _ w ht rfl rfl h256 c0
  rw [if_neg c0]
  by_cases c1 : 192 ≤ (t.get! 0).toNat ∧ (t.get! 0).toNat < 224
  · rw [if_pos c1]
    exact decoded_2 t _ _ w ht rfl rfl h256 c1.1 c1.2 _ rfl
  rw [if_neg c1]
  by_cases c2 : 224 ≤ (t.get! 0).toNat ∧ (t.get! 0).toNat < 240
  · rw [if_pos c2]
    exact decoded_3 t _ _ w ht rfl rfl h256 c2.1 c2.2 _ rfl
  rw [if_neg c2]
  by_cases c3 : 240 ≤ (t.get! 0).toNat ∧ (t.get! 0).toNat < 248
  · rw [if_pos c3]
    exact decoded_4 t _ _ w ht rfl rfl h256 c3.1 c3.2 _ rfl
  rw [if_neg c3]
  exact decoded_no t _ _ w ht rfl rfl h256 (by omega)
end Go.Proofs.YtimpdfafodaadaaDoor

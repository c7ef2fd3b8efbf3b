/-
  The library's symmetric merge where the second run has one cell.
-/
import Derived.Test.YtfbloddffhafdaaFmv
import Derived.Test.YtfbloddffhafdaaFsrt
import Derived.Deep.CutRange
namespace Go.Proofs.Ytfbloddffhafdaa
open Go.RowKit

set_option maxHeartbeats 1000000 in
set_option maxRecDepth 1000000 in
theorem sym2_any {g : Nat} {lb : Array Value} {k : Int → Int} {blk n : Nat} {I : (Nat → Int) → World → Prop} (S : SortI g lb k blk n I) (c a m b : Nat) (f : Nat → Int) (w : World) (hI : I f w) (ham : a + 1 < m) (hbm : b = m + 1) (hb : b ≤ n) (hn : n ≤ 100000)
    (hr : ∀ i, i < n → 0 ≤ f i ∧ f i < n) (h1 : srt k f a m) (ha : ascP f a m b) :
    Calls Try.prog 61 #[.slice (some ⟨blk, 0, none⟩) n c, .int .i64 a, .int .i64 m, .int .i64 b, .func (.func g) #[] lb] w fun e w' => (∃ v, e = .returned v) ∧ ∃ f', I f' w' ∧ srt k f' a b ∧ frm f f' a b := by
  have HI := Lib.hid hI
  have HS := Lib.hid S
  have eg := HS.out.en
  have HRG := Lib.hid hr
  have HA := Lib.hid ha
  have H1 := Lib.hid h1
  have HB := Lib.hid hbm
  obtain ⟨d, hd⟩ : ∃ d, d = m - a := ⟨_, rfl⟩
  have ed : (m : Int) - (a : Int) = (d : Int) := by omega
  have ed1 : ((d : Int) == 1) = false := by simp; omega
  have eb : (b : Int) - (m : Int) = 1 := by omega
  have hmn : m < n := by omega
  clear hI S hr ha h1 hbm hd
  go_enter Try.func61, Try.ntmps61
  go_wp2
  clear ed ed1 eb
  go_loopw [14, 15, 16] (fun i j _ wr => ∃ (p q : Nat), i = .int .i64 p ∧ j = .int .i64 q ∧ a ≤ p ∧ p ≤ q ∧ q ≤ m ∧ Hid (I f wr) ∧ Hid (p = a ∨ plt k (f (p - 1)) (f m)) ∧ Hid (q = m ∨ plt k (f m) (f q))) (fun i j _ _ => (intOf j).toNat - (intOf i).toNat)
  case atStart => exact ⟨a, m, rfl, rfl, Nat.le_refl _, by omega, Nat.le_refl _, HI, Lib.hid (Or.inl rfl), Lib.hid (Or.inl rfl)⟩
  case round =>
    obtain ⟨p, q, rfl, rfl, hp, hpq, hq, HJ, HL, HH⟩ := hrel
    by_cases hlt : p < q
    · have hltz : (p : Int) < (q : Int) := by omega
      have hs9 : (p : Int) + (q : Int) ≤ 9223372036854775807 := by omega
      obtain ⟨h, hh⟩ : ∃ h, h = (p + q) / 2 := ⟨_, rfl⟩
      have eh : ((p : Int) + (q : Int)) / 2 = (h : Int) := by omega
      have hh9 : (h : Int) ≤ 9223372036854775806 := by omega
      have hB := HS.out.bf _ _ HJ.out
      have xx1 : (m : Int) < (n : Int) := by omega
      have xx2 : (h : Int) < (n : Int) := by omega
      have dx := hB.cell (j := m) (by omega)
      have dy := hB.cell (j := h) (by omega)
      have rx := HRG.out m (by omega)
      have ry := HRG.out h (by omega)
      have hcmp := fun z => HS.out.cmp f (wr.drewN z) (f m) (f h) (HS.out.drew _ _ z HJ.out) rx.1 rx.2 ry.1 ry.2
      have hc2 := cmpI_neg (k (f m)) (k (f h))
      obtain ⟨C, hC⟩ : ∃ C, cmpI (k (f m)) (k (f h)) = C := ⟨_, rfl⟩
      rw [hC] at hc2
      simp only [hC] at hcmp
      obtain ⟨x, hx⟩ : ∃ x, f m = x := ⟨_, rfl⟩
      obtain ⟨y, hy⟩ : ∃ y, f h = y := ⟨_, rfl⟩
      rw [hx] at dx hcmp hc2
      rw [hy] at dy hcmp hc2
      have HX := Lib.hid hx
      have HY := Lib.hid hy
      have HCMP := Lib.hid hcmp
      clear hx hy hcmp hC rx ry hB
      have hpla : f h < f m := HA.out h m (by omega) (by omega) (Nat.le_refl _) (by have := HB.out; omega)
      have HPL := Lib.hid hpla
      have HHH := Lib.hid hh
      clear hpla hh
      by_cases hk : k x < k y
      · rw [decide_eq_true hk] at hc2
        have HK := Lib.hid hk
        clear hk
        go_wp2_with fail
        go_quiet ((go_at_fn g; exact Calls.quiet_of (HCMP.out _)))
        have HJ := Lib.hid (HS.out.drew _ _ nq HJ.out)
        go_wp2
        refine ⟨⟨p, h, rfl, rfl, hp, ?_, ?_, HJ, HL, Lib.hid (Or.inr ?_)⟩, ?_⟩
        · have := HHH.out; omega
        · have := HHH.out; omega
        · have := HK.out
          exact Or.inl (by rw [HX.out, HY.out]; exact this)
        · have := HHH.out; simp only [intOf]; omega
      · rw [decide_eq_false hk] at hc2
        have HK := Lib.hid hk
        clear hk
        go_wp2_with fail
        go_quiet ((go_at_fn g; exact Calls.quiet_of (HCMP.out _)))
        have HJ := Lib.hid (HS.out.drew _ _ nq HJ.out)
        go_wp2
        refine ⟨⟨h + 1, q, rfl, rfl, ?_, ?_, hq, HJ, Lib.hid (Or.inr ?_), HH⟩, ?_⟩
        · have := HHH.out; omega
        · have := HHH.out; omega
        · have h1 := HK.out
          have h2 := HPL.out
          have h3 := HX.out
          have h4 := HY.out
          subst h3; subst h4
          rw [Nat.add_sub_cancel]
          unfold plt; omega
        · have := HHH.out; simp only [intOf]; omega
    · obtain rfl : p = q := by omega
      have HP := Lib.hid hp
      have HQ := Lib.hid hq
      clear hp hq hpq hlt
      go_wp2
      go_loopw [17] (fun kk wr => ∃ (t : Nat), kk = .int .i64 t ∧ p ≤ t ∧ t ≤ m ∧ Hid (I (mvL f m t) wr)) (fun kk _ => (intOf kk).toNat)
      case atStart => exact ⟨m, rfl, HQ.out, Nat.le_refl _, Lib.hid (by rw [mvL_zero]; exact HJ.out)⟩
      case round =>
        obtain ⟨t, rfl, hpt, htm, HJ2⟩ := hrel
        by_cases hlt : p < t
        · have hltz : (p : Int) < (t : Int) := by omega
          obtain ⟨s, hs⟩ : ∃ s, t = s + 1 := ⟨t - 1, by omega⟩
          have es : (t : Int) - 1 = (s : Int) := by omega
          have hB := HS.out.bf _ _ HJ2.out
          have s1 : (s : Int) < (n : Int) := by omega
          have t1 : (t : Int) < (n : Int) := by omega
          have s2 : (t : Int) ≤ 9223372036854775807 := by omega
          have ws : IntKind.i64.wrap (s : Int) = (s : Int) := by rw [IntKind.wrap_i64]; omega
          have dx := hB.cell (j := s) (by omega)
          have dy := hB.cell (j := t) (by omega)
          have fx := hB.frozen s
          have fy := hB.frozen t
          obtain ⟨x, hx⟩ : ∃ x, mvL f m t s = x := ⟨_, rfl⟩
          obtain ⟨y, hy⟩ : ∃ y, mvL f m t t = y := ⟨_, rfl⟩
          rw [hx] at dx
          rw [hy] at dy
          have HX := Lib.hid hx
          have HY := Lib.hid hy
          have HSS := Lib.hid hs
          clear hx hy hs hB
          go_wp2_with fail
          go_big_region
          go_wp2
          refine ⟨⟨s, rfl, ?_, ?_, Lib.hid ?_⟩, ?_⟩
          · have := HSS.out; omega
          · have := HSS.out; omega
          · have h1 := HSS.out
            have hj := HJ2.out
            have hx := HX.out
            have hy := HY.out
            rw [h1] at hj hx hy ⊢
            rw [mvL_succ f m s (by omega)]
            exact HS.out.drew1 _ _ (HS.out.xch hj (by omega) (by omega) hx hy)
          · have := HSS.out; simp only [intOf]; omega
        · obtain rfl : p = t := by omega
          go_wp2
          (try simp only [Exit.inBlock, Exit.then])
          refine bodyPost_ret (results_none rfl _ _ _) rfl ?_
          obtain ⟨r1, r2⟩ := mvL_law (k := k) (f := f) (i := p) HP.out HQ.out H1.out HL.out HH.out
          rw [← HB.out] at r1 r2
          exact ⟨⟨_, rfl⟩, _, HJ2.out, r1, r2⟩
end Go.Proofs.Ytfbloddffhafdaa

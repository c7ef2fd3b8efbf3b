/-
  The library's symmetric merge where the first run, or the second one, has one cell.
-/
import Derived.Test.YtfbloddffhafdaaFmv
import Derived.Test.YtfbloddffhafdaaFsrt
import Derived.Deep.CutRange
namespace Go.Proofs.Ytfbloddffhafdaa
open Go.RowKit

set_option maxHeartbeats 1000000 in
set_option maxRecDepth 1000000 in
theorem sym1_any {g : Nat} {lb : Array Value} {k : Int → Int} {blk n : Nat} {I : (Nat → Int) → World → Prop} (S : SortI g lb k blk n I) (c a m b : Nat) (f : Nat → Int) (w : World) (hI : I f w) (hm : m = a + 1) (hmb : m < b) (hb : b ≤ n) (hn : n ≤ 100000)
    (hr : ∀ i, i < n → 0 ≤ f i ∧ f i < n) (h2 : srt k f m b) (ha : ascP f a m b) :
    Calls Try.prog 61 #[.slice (some ⟨blk, 0, none⟩) n c, .int .i64 a, .int .i64 m, .int .i64 b, .func (.func g) #[] lb] w fun e w' => (∃ v, e = .returned v) ∧ ∃ f', I f' w' ∧ srt k f' a b ∧ frm f f' a b := by
  have HI := Lib.hid hI
  have HS := Lib.hid S
  have eg := HS.out.en
  have HRG := Lib.hid hr
  have HA := Lib.hid ha
  have H2 := Lib.hid h2
  have HM := Lib.hid hm
  have em : (m : Int) - (a : Int) = 1 := by omega
  have ha9 : a < n := by omega
  clear hI S hr ha h2 hm
  go_enter Try.func61, Try.ntmps61
  go_wp2
  clear em
  go_loopw [10, 11, 12] (fun i j _ wr => ∃ (p q : Nat), i = .int .i64 p ∧ j = .int .i64 q ∧ m ≤ p ∧ p ≤ q ∧ q ≤ b ∧ Hid (I f wr) ∧ Hid (p = m ∨ plt k (f (p - 1)) (f a)) ∧ Hid (q = b ∨ plt k (f a) (f q))) (fun i j _ _ => (intOf j).toNat - (intOf i).toNat)
  case atStart => exact ⟨m, b, rfl, rfl, Nat.le_refl _, by omega, Nat.le_refl _, HI, Lib.hid (Or.inl rfl), Lib.hid (Or.inl rfl)⟩
  case round =>
    obtain ⟨p, q, rfl, rfl, hp, hpq, hq, HJ, HL, HH⟩ := hrel
    by_cases hlt : p < q
    · have hltz : (p : Int) < (q : Int) := by omega
      have hs9 : (p : Int) + (q : Int) ≤ 9223372036854775807 := by omega
      obtain ⟨h, hh⟩ : ∃ h, h = (p + q) / 2 := ⟨_, rfl⟩
      have eh : ((p : Int) + (q : Int)) / 2 = (h : Int) := by omega
      have hh9 : (h : Int) ≤ 9223372036854775806 := by omega
      have hB := HS.out.bf _ _ HJ.out
      have xx1 : (h : Int) < (n : Int) := by omega
      have xx2 : (a : Int) < (n : Int) := by omega
      have dx := hB.cell (j := h) (by omega)
      have dy := hB.cell (j := a) (by omega)
      have rx := HRG.out h (by omega)
      have ry := HRG.out a (by omega)
      have hcmp := fun z => HS.out.cmp f (wr.drewN z) (f h) (f a) (HS.out.drew _ _ z HJ.out) rx.1 rx.2 ry.1 ry.2
      have hc2 := cmpI_neg (k (f h)) (k (f a))
      obtain ⟨C, hC⟩ : ∃ C, cmpI (k (f h)) (k (f a)) = C := ⟨_, rfl⟩
      rw [hC] at hc2
      simp only [hC] at hcmp
      obtain ⟨x, hx⟩ : ∃ x, f h = x := ⟨_, rfl⟩
      obtain ⟨y, hy⟩ : ∃ y, f a = y := ⟨_, rfl⟩
      rw [hx] at dx hcmp hc2
      rw [hy] at dy hcmp hc2
      have HX := Lib.hid hx
      have HY := Lib.hid hy
      have HCMP := Lib.hid hcmp
      clear hx hy hcmp hC rx ry hB
      have hpla : f a < f h := HA.out a h (Nat.le_refl _) (by have := HM.out; omega) (by omega) (by omega)
      have HPL := Lib.hid hpla
      have HHH := Lib.hid hh
      clear hpla hh
      by_cases hk : k x < k y
      · rw [decide_eq_true hk] at hc2
        have HK := Lib.hid hk
        clear hk
        go_wp2_with fail
        go_quiet ((go_at_fn g; exact Calls.quiet_of (HCMP.out _)))
        have HJ := Lib.hid (HS.out.drew _ _ nq HJ.out)
        go_wp2
        refine ⟨⟨h + 1, q, rfl, rfl, ?_, ?_, hq, HJ, Lib.hid (Or.inr ?_), HH⟩, ?_⟩
        · have := HHH.out; omega
        · have := HHH.out; omega
        · have := HK.out
          rw [Nat.add_sub_cancel]
          exact Or.inl (by rw [HX.out, HY.out]; exact this)
        · have := HHH.out; simp only [intOf]; omega
      · rw [decide_eq_false hk] at hc2
        have HK := Lib.hid hk
        clear hk
        go_wp2_with fail
        go_quiet ((go_at_fn g; exact Calls.quiet_of (HCMP.out _)))
        have HJ := Lib.hid (HS.out.drew _ _ nq HJ.out)
        go_wp2
        refine ⟨⟨p, h, rfl, rfl, hp, ?_, ?_, HJ, HL, Lib.hid (Or.inr ?_)⟩, ?_⟩
        · have := HHH.out; omega
        · have := HHH.out; omega
        · have h1 := HK.out
          have h2 := HPL.out
          have h3 := HX.out
          have h4 := HY.out
          subst h3; subst h4
          unfold plt; omega
        · have := HHH.out; simp only [intOf]; omega
    · obtain rfl : p = q := by omega
      obtain ⟨e, he⟩ : ∃ e, e + 1 = p := ⟨p - 1, by have := HM.out; omega⟩
      have ep : (p : Int) - 1 = (e : Int) := by omega
      have he9 : (e : Int) ≤ 9223372036854775807 := by omega
      have HEP := Lib.hid he
      have HP := Lib.hid hp
      have HQ := Lib.hid hq
      clear he hp hq hpq hlt
      go_wp2
      go_loopw [13] (fun kk wr => ∃ (t : Nat), kk = .int .i64 t ∧ a ≤ t ∧ t ≤ e ∧ Hid (I (mvR f a t) wr)) (fun kk _ => e - (intOf kk).toNat)
      case atStart =>
        refine ⟨a, rfl, Nat.le_refl _, ?_, Lib.hid (by rw [mvR_zero]; exact HJ.out)⟩
        have := HEP.out; have := HP.out; have := HM.out; omega
      case round =>
        obtain ⟨t, rfl, hat, hte, HJ2⟩ := hrel
        by_cases hlt : t < e
        · have hltz : (t : Int) < (e : Int) := by omega
          obtain ⟨s, hs⟩ : ∃ s, s = t + 1 := ⟨_, rfl⟩
          have es : (t : Int) + 1 = (s : Int) := by omega
          have hB := HS.out.bf _ _ HJ2.out
          have hen : e < n := by have := HEP.out; have := HQ.out; omega
          have s1 : (s : Int) < (n : Int) := by omega
          have t1 : (t : Int) < (n : Int) := by omega
          have s2 : (s : Int) ≤ 9223372036854775807 := by omega
          have ws : IntKind.i64.wrap (s : Int) = (s : Int) := by rw [IntKind.wrap_i64]; omega
          have dx := hB.cell (j := s) (by omega)
          have dy := hB.cell (j := t) (by omega)
          have fx := hB.frozen s
          have fy := hB.frozen t
          obtain ⟨x, hx⟩ : ∃ x, mvR f a t s = x := ⟨_, rfl⟩
          obtain ⟨y, hy⟩ : ∃ y, mvR f a t t = y := ⟨_, rfl⟩
          rw [hx] at dx
          rw [hy] at dy
          have HX := Lib.hid hx
          have HY := Lib.hid hy
          have HSS := Lib.hid hs
          clear hx hy hs hB
          go_wp2_with fail
          go_big_region
          go_wp2
          refine ⟨⟨s, rfl, ?_, ?_, Lib.hid ?_⟩, ?_⟩
          · have := HSS.out; omega
          · have := HSS.out; omega
          · have h1 := HSS.out
            rw [h1] at HX ⊢
            rw [mvR_succ f a t hat]
            exact HS.out.drew1 _ _ (HS.out.xch HJ2.out (by omega) (by omega) HX.out HY.out)
          · have := HSS.out; simp only [intOf]; omega
        · obtain rfl : t = e := by omega
          go_wp2
          (try simp only [Exit.inBlock, Exit.then])
          refine bodyPost_ret (results_none rfl _ _ _) rfl ?_
          have h1 := HEP.out
          have h2 := HM.out
          have h3 := HQ.out
          have hl := HL.out
          have hu := HH.out
          rw [← h1, Nat.add_sub_cancel] at hl
          rw [← h1] at hu
          obtain ⟨r1, r2⟩ := mvR_law (k := k) (f := f) (i := t) (b := b) hat (by omega) (by rw [← h2]; exact H2.out) (hl.imp (fun h => by omega) id) hu
          exact ⟨⟨_, rfl⟩, _, HJ2.out, r1, r2⟩
end Go.Proofs.Ytfbloddffhafdaa

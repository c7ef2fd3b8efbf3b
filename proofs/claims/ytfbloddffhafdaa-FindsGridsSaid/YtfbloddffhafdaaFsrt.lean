/-
  The library's stable sort of integers: swapRange, rotate, insertion, symmetric merge.
-/
import Derived.Test.YtfbloddffhafdaaFord
import Derived.Test.YtfbloddffhafdaaFcmp
import Derived.Test.YtfbloddffhafdaaMblk
import Derived.Test.YtfbloddffhafdaaRet
import Derived.Deep.LoopGhost
import Derived.Deep.QuietTactic
import Derived.BigRegion
namespace Go.Proofs.Ytfbloddffhafdaa
open Go.RowKit

/-- What the sort asks of its comparison and of the worlds: I f w: in w the places' block reads f. -/
structure SortI (g : Nat) (lb : Array Value) (k : Int → Int) (blk n : Nat) (I : (Nat → Int) → World → Prop) : Prop where
  bf : ∀ f W, I f W → Bf W blk n f
  set : ∀ f W i y, I f W → i < n → I (updF f i y) (W.setCell ⟨blk, i, none⟩ (.int .i64 y))
  drew : ∀ f W q, I f W → I f (W.drewN q)
  drew1 : ∀ f W, I f W → I f W.drew
  en : ∀ args w, (callFunc g args).run Try.prog w = .ok (.enter g args) w
  cmp : ∀ f W (x y : Int), I f W → 0 ≤ x → x < n → 0 ≤ y → y < n → Calls Try.prog g (#[.int .i64 x, .int .i64 y] ++ lb) W fun e w' => e = .returned (.int .i64 (cmpI (k x) (k y))) ∧ ∃ q, w' = W.drewN q
theorem SortI.xch {g : Nat} {lb : Array Value} {k : Int → Int} {blk n : Nat} {I : (Nat → Int) → World → Prop} (S : SortI g lb k blk n I) {f : Nat → Int} {W : World} {i j : Nat} {x y : Int} (h : I f W) (hi : i < n) (hj : j < n) (hx : f j = x) (hy : f i = y) :
    I (xchF f i j) ((W.setCell ⟨blk, i, none⟩ (.int .i64 x)).setCell ⟨blk, j, none⟩ (.int .i64 y)) := by
  subst hx; subst hy; exact S.set _ _ j _ (S.set _ _ i _ h hi) hj
theorem cmpI_neg (a b : Int) : decide (cmpI a b < 0) = decide (a < b) := by
  unfold cmpI
  by_cases h : a < b
  · rw [if_pos h, decide_eq_true h]; rfl
  · rw [if_neg h, decide_eq_false h]
    by_cases h2 : b < a
    · rw [if_pos h2]; rfl
    · rw [if_neg h2]; rfl

set_option maxHeartbeats 1000000 in
theorem swr_any {g : Nat} {lb : Array Value} {k : Int → Int} {blk n : Nat} {I : (Nat → Int) → World → Prop} (S : SortI g lb k blk n I) (c a b q : Nat) (f : Nat → Int) (w : World) (hI : I f w) (hab : a + q ≤ b) (hb : b + q ≤ n) (hn : n ≤ 100000) :
    Calls Try.prog 71 #[.slice (some ⟨blk, 0, none⟩) n c, .int .i64 a, .int .i64 b, .int .i64 q, .func (.func g) #[] lb] w fun e w' => (∃ v, e = .returned v) ∧ I (swpF f a b q) w' := by
  have HI := Lib.hid hI
  have HS := Lib.hid S
  clear hI S
  go_enter Try.func71, Try.ntmps71
  go_wp2
  go_loopw [10] (fun i wr => ∃ j : Nat, i = .int .i64 j ∧ j ≤ q ∧ Hid (I (swpF f a b j) wr)) (fun i _ => q - (intOf i).toNat)
  case atStart => exact ⟨0, rfl, Nat.zero_le _, Lib.hid (by rw [swpF_zero]; exact HI.out)⟩
  case round =>
    obtain ⟨j, rfl, hj, HJ⟩ := hrel
    by_cases hlt : j < q
    · have k0 : (j : Int) < (q : Int) := by omega
      have hB := HS.out.bf _ _ HJ.out
      obtain ⟨s, hs⟩ : ∃ s, s = a + j := ⟨_, rfl⟩
      obtain ⟨t, ht⟩ : ∃ t, t = b + j := ⟨_, rfl⟩
      have es : (a : Int) + (j : Int) = (s : Int) := by omega
      have et : (b : Int) + (j : Int) = (t : Int) := by omega
      have s1 : (s : Int) < (n : Int) := by omega
      have t1 : (t : Int) < (n : Int) := by omega
      have s2 : (s : Int) ≤ 9223372036854775807 := by omega
      have t2 : (t : Int) ≤ 9223372036854775807 := by omega
      have dx := hB.cell (j := s) (by omega)
      have dy := hB.cell (j := t) (by omega)
      have fx := hB.frozen s
      have fy := hB.frozen t
      obtain ⟨x, hx⟩ : ∃ x, swpF f a b j s = x := ⟨_, rfl⟩
      obtain ⟨y, hy⟩ : ∃ y, swpF f a b j t = y := ⟨_, rfl⟩
      rw [hx] at dx
      rw [hy] at dy
      have HX := Lib.hid hx
      have HY := Lib.hid hy
      have HSS := Lib.hid hs
      have HT := Lib.hid ht
      clear hx hy hs ht hB
      go_wp2_with fail
      go_big_region
      go_wp2
      refine ⟨⟨j + 1, rfl, by omega, Lib.hid ?_⟩, by simp only [intOf]; omega⟩
      rw [swpF_step f a b j (by omega), ← HSS.out, ← HT.out]
      exact HS.out.drew1 _ _ (HS.out.xch HJ.out (by omega) (by omega) HY.out HX.out)
    · obtain rfl : j = q := by omega
      go_wp2
      go_end0
      exact ⟨⟨_, rfl⟩, HJ.out⟩

set_option maxHeartbeats 1000000 in
theorem rotc_any {g : Nat} {lb : Array Value} {k : Int → Int} {blk n : Nat} {I : (Nat → Int) → World → Prop} (S : SortI g lb k blk n I) (c a m b : Nat) (f : Nat → Int) (w : World) (hI : I f w) (ham : a < m) (hmb : m < b) (hb : b ≤ n) (hn : n ≤ 100000) :
    Calls Try.prog 66 #[.slice (some ⟨blk, 0, none⟩) n c, .int .i64 a, .int .i64 m, .int .i64 b, .func (.func g) #[] lb] w fun e w' => (∃ v, e = .returned v) ∧ I (rotF f a m b) w' := by
  have HI := Lib.hid hI
  have HS := Lib.hid S
  clear hI S
  obtain ⟨p0, hp0⟩ : ∃ p0, p0 = m - a := ⟨_, rfl⟩
  obtain ⟨q0, hq0⟩ : ∃ q0, q0 = b - m := ⟨_, rfl⟩
  have ep : (m : Int) - (a : Int) = (p0 : Int) := by omega
  have eq : (b : Int) - (m : Int) = (q0 : Int) := by omega
  have HP0 := Lib.hid hp0
  have HQ0 := Lib.hid hq0
  clear hp0 hq0
  go_enter Try.func66, Try.ntmps66
  go_wp2
  clear ep eq
  go_loopw [10, 11] (fun i j wr => ∃ (p q : Nat) (f' : Nat → Int), i = .int .i64 p ∧ j = .int .i64 q ∧ 0 < p ∧ 0 < q ∧ p ≤ m ∧ m + q ≤ n ∧ Hid (I f' wr) ∧ Hid (rotF f' (m - p) m (m + q) = rotF f a m b)) (fun i j _ => (intOf i).toNat + (intOf j).toNat)
  case atStart =>
    refine ⟨p0, q0, f, rfl, rfl, ?_, ?_, ?_, ?_, HI, Lib.hid ?_⟩
    · have := HP0.out; omega
    · have := HQ0.out; omega
    · have := HP0.out; omega
    · have := HQ0.out; omega
    · have h1 := HP0.out
      have h2 := HQ0.out
      rw [show m - p0 = a by omega, show m + q0 = b by omega]
  case round =>
    obtain ⟨p, q, f', rfl, rfl, hp, hq, hpm, hqn, HJ, HR⟩ := hrel
    have HQN := Lib.hid hqn
    have HPM := Lib.hid hpm
    obtain ⟨s, hs⟩ : ∃ s, s = m - p := ⟨_, rfl⟩
    have es : (m : Int) - (p : Int) = (s : Int) := by omega
    have HSS := Lib.hid hs
    by_cases hpq : p = q
    · subst hpq
      have hnn : ((p : Int) != (p : Int)) = false := by simp
      clear hs hqn hpm
      go_wp2_with fail
      refine (swr_any HS.out c s m p f' _ HJ.out (by have := HSS.out; have := HPM.out; omega) HQN.out hn).mono ?_
      rintro e w' ⟨⟨v, rfl⟩, hI'⟩
      have HI' := Lib.hid hI'
      clear hI'
      go_wp2
      go_end0
      refine ⟨⟨_, rfl⟩, ?_⟩
      rw [← HR.out, rot_eq f' m p HPM.out, ← HSS.out]
      exact HI'.out
    · have hnn : ((p : Int) != (q : Int)) = true := by simp; omega
      have HPQ := Lib.hid hpq
      by_cases hlt : q < p
      · have hlt' : (q : Int) < (p : Int) := by omega
        obtain ⟨u, hu⟩ : ∃ u, u = p - q := ⟨_, rfl⟩
        have eu : (p : Int) - (q : Int) = (u : Int) := by omega
        have HU := Lib.hid hu
        clear hs hqn hpm hpq hu
        go_wp2_with fail
        refine (swr_any HS.out c s m q f' _ HJ.out (by have := HSS.out; have := HPM.out; omega) HQN.out hn).mono ?_
        rintro e w' ⟨⟨v, rfl⟩, hI'⟩
        have HI' := Lib.hid hI'
        clear hI'
        go_wp2
        refine ⟨⟨u, q, _, rfl, rfl, ?_, hq, ?_, HQN.out, HI', Lib.hid ?_⟩, ?_⟩
        · have := HU.out; omega
        · have := HU.out; have := HPM.out; omega
        · rw [← HR.out, rot_gt f' m p q hlt HPM.out, HSS.out, HU.out]
        · have := HU.out; simp only [intOf]; omega
      · have hlt' : ¬ (q : Int) < (p : Int) := by omega
        obtain ⟨u, hu⟩ : ∃ u, u = q - p := ⟨_, rfl⟩
        have eu : (q : Int) - (p : Int) = (u : Int) := by omega
        obtain ⟨t, ht⟩ : ∃ t, t = m + q := ⟨_, rfl⟩
        have et : (m : Int) + (q : Int) = (t : Int) := by omega
        obtain ⟨x, hx⟩ : ∃ x, x = t - p := ⟨_, rfl⟩
        have ex : (t : Int) - (p : Int) = (x : Int) := by omega
        have ht2 : (t : Int) ≤ 9223372036854775807 := by omega
        have HU := Lib.hid hu
        have HT := Lib.hid ht
        have HX := Lib.hid hx
        clear hs hqn hpm hpq hu ht hx
        go_wp2_with fail
        refine (swr_any HS.out c s x p f' _ HJ.out (by have := HSS.out; have := HPM.out; have := HX.out; have := HT.out; have := HPQ.out; omega) (by have := HSS.out; have := HPM.out; have := HX.out; have := HT.out; have := HQN.out; omega) hn).mono ?_
        rintro e w' ⟨⟨v, rfl⟩, hI'⟩
        have HI' := Lib.hid hI'
        clear hI'
        go_wp2
        refine ⟨⟨p, u, _, rfl, rfl, hp, ?_, HPM.out, ?_, HI', Lib.hid ?_⟩, ?_⟩
        · have := HU.out; have := HPQ.out; omega
        · have := HU.out; have := HQN.out; omega
        · have hpq := HPQ.out
          rw [← HR.out, rot_lt f' m p q (by omega) HPM.out, HSS.out, HU.out, HX.out, HT.out]
        · have := HU.out; simp only [intOf]; omega

set_option maxHeartbeats 1000000 in
theorem insc_any {g : Nat} {lb : Array Value} {k : Int → Int} {blk n : Nat} {I : (Nat → Int) → World → Prop} (S : SortI g lb k blk n I) (c a b : Nat) (f : Nat → Int) (w : World) (hI : I f w) (hab : a ≤ b) (hb : b ≤ n) (hn : n ≤ 100000)
    (hr : ∀ i, i < n → 0 ≤ f i ∧ f i < n) (ha : ∀ i j, a ≤ i → i < j → j < b → f i < f j) :
    Calls Try.prog 60 #[.slice (some ⟨blk, 0, none⟩) n c, .int .i64 a, .int .i64 b, .func (.func g) #[] lb] w fun e w' => (∃ v, e = .returned v) ∧ ∃ f', I f' w' ∧ srt k f' a b ∧ frm f f' a b := by
  have HI := Lib.hid hI
  have HS := Lib.hid S
  have eg := HS.out.en
  have HRG := Lib.hid hr
  have HA := Lib.hid ha
  clear hI S hr ha
  go_enter Try.func60, Try.ntmps60
  go_wp2
  go_loopw [8, 9] (fun i _ wr => ∃ (p : Nat) (f' : Nat → Int), i = .int .i64 p ∧ a < p ∧ Hid (I f' wr) ∧ Hid (srt k f' a p) ∧ Hid (frm f f' a (min p b))) (fun i _ _ => b - (intOf i).toNat)
  case atStart => exact ⟨a + 1, f, by go_num, by omega, HI, Lib.hid (fun i j h1 h2 h3 => by omega), Lib.hid (frm.refl _ _ _)⟩
  case round =>
    obtain ⟨p, f', rfl, hap, HJ, HSo, HFm⟩ := hrel
    by_cases hlt : p < b
    · have hltz : (p : Int) < (b : Int) := by omega
      have hp2 : (p : Int) + 1 ≤ 9223372036854775807 := by omega
      have hfm : frm f f' a p := by have := HFm.out; rwa [show min p b = p by omega] at this
      have hg : ∀ l, a ≤ l → l < p → f' l < f' p := fun l h1 h2 => by
        obtain ⟨l', h3, h4, e⟩ := hfm.2 l h1 h2
        rw [e, hfm.1 p (by omega)]
        exact HA.out l' p h3 h4 hlt
      have hr' : ∀ i, i < n → 0 ≤ f' i ∧ f' i < n := hfm.range (by omega) HRG.out
      have HG := Lib.hid hg
      have HR' := Lib.hid hr'
      clear hfm hg hr'
      go_wp2
      go_loopw [9] (fun j wr2 => ∃ (q : Nat) (f2 : Nat → Int), j = .int .i64 q ∧ a ≤ q ∧ q ≤ p ∧ Hid (I f2 wr2) ∧ Hid (InsI k f' f2 a p q)) (fun j _ => (intOf j).toNat)
      case atStart => exact ⟨p, f', rfl, by omega, Nat.le_refl _, HJ, Lib.hid (InsI.start HSo.out)⟩
      case round =>
        obtain ⟨q, f2, rfl, haq, hqp, HJ2, HV⟩ := hrel
        by_cases hq : a < q
        · have hqz : (a : Int) < (q : Int) := by omega
          obtain ⟨s, hs⟩ : ∃ s, s + 1 = q := ⟨q - 1, by omega⟩
          have es : (q : Int) - 1 = (s : Int) := by omega
          have ws : IntKind.i64.wrap (s : Int) = (s : Int) := by rw [IntKind.wrap_i64]; omega
          have hB := HS.out.bf _ _ HJ2.out
          have s1 : (s : Int) < (n : Int) := by omega
          have t1 : (q : Int) < (n : Int) := by omega
          have dx := hB.cell (j := s) (by omega)
          have dy := hB.cell (j := q) (by omega)
          have fx := hB.frozen s
          have fy := hB.frozen q
          have rx := (HV.out.range (by omega) HR'.out) s (by omega)
          have ry := (HV.out.range (by omega) HR'.out) q (by omega)
          have hcmp := fun z => HS.out.cmp f2 (wr.drewN z) (f2 q) (f2 s) (HS.out.drew _ _ z HJ2.out) ry.1 ry.2 rx.1 rx.2
          have hc2 := cmpI_neg (k (f2 q)) (k (f2 s))
          obtain ⟨C, hC⟩ : ∃ C, cmpI (k (f2 q)) (k (f2 s)) = C := ⟨_, rfl⟩
          have hst : a ≤ s → s < p → k (f2 q) < k (f2 s) → InsI k f' (xchF f2 q s) a p s := by
            subst hs
            exact HV.out.step
          rw [hC] at hc2
          simp only [hC] at hcmp
          by_cases hk : k (f2 q) < k (f2 s)
          · rw [decide_eq_true hk] at hc2
            have hv' := Lib.hid (hst (by omega) (by omega) hk)
            obtain ⟨x, hx⟩ : ∃ x, f2 s = x := ⟨_, rfl⟩
            obtain ⟨y, hy⟩ : ∃ y, f2 q = y := ⟨_, rfl⟩
            rw [hx] at dx
            rw [hy] at dy
            rw [hx, hy] at hcmp
            have HX := Lib.hid hx
            have HY := Lib.hid hy
            have HSS := Lib.hid hs
            have HCMP := Lib.hid hcmp
            clear hx hy hs hB hcmp hC hk rx ry hst
            go_wp2_with fail
            go_quiet ((go_at_fn g; exact Calls.quiet_of (HCMP.out _)))
            go_wp2
            have HJ3 := Lib.hid (HS.out.drew _ _ nq HJ2.out)
            generalize wr.drewN nq = w5 at HJ3 ⊢
            have hB := HS.out.bf _ _ HJ3.out
            have dx := hB.cell (j := s) (by omega)
            have dy := hB.cell (j := q) (by omega)
            have fx := hB.frozen s
            have fy := hB.frozen q
            rw [HX.out] at dx
            rw [HY.out] at dy
            clear hB hc2
            go_big_region
            go_wp2
            refine ⟨⟨s, _, rfl, ?_, ?_, Lib.hid ?_, hv'⟩, ?_⟩
            · have := HSS.out; omega
            · have := HSS.out; omega
            · have := HSS.out
              exact HS.out.drew1 _ _ (HS.out.xch HJ3.out (by omega) (by omega) HX.out HY.out)
            · have := HSS.out; simp only [intOf]; omega
          · rw [decide_eq_false hk] at hc2
            obtain ⟨x, hx⟩ : ∃ x, f2 s = x := ⟨_, rfl⟩
            obtain ⟨y, hy⟩ : ∃ y, f2 q = y := ⟨_, rfl⟩
            rw [hx] at dx
            rw [hy] at dy
            rw [hx, hy] at hcmp
            have HK : Hid (k (f2 s) ≤ k (f2 q)) := Lib.hid (by omega)
            have HSS := Lib.hid hs
            have HCMP := Lib.hid hcmp
            clear hx hy hs hB hcmp hC hk rx ry hst
            go_wp2_with fail
            go_quiet ((go_at_fn g; exact Calls.quiet_of (HCMP.out _)))
            have HJ2 := Lib.hid (HS.out.drew _ _ nq HJ2.out)
            go_wp2
            refine ⟨⟨p + 1, _, rfl, by omega, Lib.hid HJ2.out, Lib.hid ?_, Lib.hid ?_⟩, by simp only [intOf]; omega⟩
            · exact (HV.out.done haq hqp HG.out (Or.inr ⟨hq, by rw [show q - 1 = s by have := HSS.out; omega]; have := HK.out; omega⟩)).1
            · have h1 := (HV.out.done haq hqp HG.out (Or.inr ⟨hq, by rw [show q - 1 = s by have := HSS.out; omega]; have := HK.out; omega⟩)).2
              rw [show min (p + 1) b = p + 1 by omega]
              have h2 := HFm.out
              rw [show min p b = p by omega] at h2
              exact (h2.wide (Nat.le_refl _) (by omega)).trans h1
        · have hqz : ¬ (a : Int) < (q : Int) := by omega
          have HQA : Hid (q = a) := Lib.hid (by omega)
          go_wp2_with fail
          go_region
          have HJ2 := Lib.hid (HS.out.drew1 _ _ HJ2.out)
          go_wp2
          refine ⟨⟨p + 1, _, rfl, by omega, Lib.hid HJ2.out, Lib.hid ?_, Lib.hid ?_⟩, by simp only [intOf]; omega⟩
          · exact (HV.out.done haq hqp HG.out (Or.inl HQA.out)).1
          · have h1 := (HV.out.done haq hqp HG.out (Or.inl HQA.out)).2
            rw [show min (p + 1) b = p + 1 by omega]
            have h2 := HFm.out
            rw [show min p b = p by omega] at h2
            exact (h2.wide (Nat.le_refl _) (by omega)).trans h1
    · go_wp2
      go_end0
      refine ⟨⟨_, rfl⟩, f', HJ.out, HSo.out.sub (Nat.le_refl _) (by omega), ?_⟩
      have h := HFm.out
      rwa [show min p b = b by omega] at h
end Go.Proofs.Ytfbloddffhafdaa

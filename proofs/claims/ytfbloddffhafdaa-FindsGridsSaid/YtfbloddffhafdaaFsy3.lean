/-
  The library's symmetric merge: two runs of two cells or more, the halves' merges being given; and the whole.
-/
import Derived.Test.YtfbloddffhafdaaFsy1
import Derived.Test.YtfbloddffhafdaaFsy2
namespace Go.Proofs.Ytfbloddffhafdaa
open Go.RowKit

theorem rotF_triv {f : Nat → Int} {s m e : Nat} (h : s = m ∨ e = m) : rotF f s m e = f := by
  funext t; unfold rotF
  rcases h with h | h
  · by_cases p : s ≤ t ∧ t < s + (e - m)
    · rw [if_pos p, show t + (m - s) = t by omega]
    · rw [if_neg p, if_neg (by omega)]
  · rw [if_neg (by omega)]
    by_cases p : s + (e - m) ≤ t ∧ t < e
    · rw [if_pos p, show t - (e - m) = t by omega]
    · rw [if_neg p]
/-- What a symmetric merge answers. -/
def SymOk (I : (Nat → Int) → World → Prop) (k : Int → Int) (f : Nat → Int) (a b : Nat) (e : Ending) (w' : World) : Prop := (∃ v, e = .returned v) ∧ ∃ f', I f' w' ∧ srt k f' a b ∧ frm f f' a b
/-- Behind a merge that need not be done the run ascends already. -/
theorem srt_whole {k : Int → Int} {g : Nat → Int} {a s m : Nat} (h1 : srt k g a s) (h2 : srt k g s m) (h : ¬ (a < s ∧ s < m)) (h3 : a ≤ s) (h4 : s ≤ m) : srt k g a m := by
  rcases (show s = a ∨ s = m by omega) with e | e
  · subst e; exact h2
  · subst e; exact h1
theorem srt.congr {k : Int → Int} {f g : Nat → Int} {a b : Nat} (h : srt k f a b) (e : ∀ i, a ≤ i → i < b → g i = f i) : srt k g a b := fun i j p q r => by
  rw [e i p (by omega), e j (by omega) r]; exact h i j p q r
theorem ascP.congr {f g : Nat → Int} {a m b : Nat} (h : ascP f a m b) (e : ∀ i, a ≤ i → i < b → g i = f i) : ascP g a m b := fun i j p q r s => by
  rw [e i p (by omega), e j (by omega) s]; exact h i j p q r s
theorem i64_wrap_nat (s : Nat) (h : s ≤ 1000000) : IntKind.i64.wrap (s : Int) = (s : Int) := by rw [IntKind.wrap_i64]; omega

set_option maxHeartbeats 1000000 in
set_option maxRecDepth 1000000 in
theorem sym3_any {g : Nat} {lb : Array Value} {k : Int → Int} {blk n : Nat} {I : (Nat → Int) → World → Prop} (S : SortI g lb k blk n I) (c a m b : Nat) (f : Nat → Int) (w : World) (hI : I f w) (ham : a + 1 < m) (hbm : m + 1 < b) (hb : b ≤ n) (hn : n ≤ 100000)
    (hr : ∀ i, i < n → 0 ≤ f i ∧ f i < n) (h1 : srt k f a m) (h2 : srt k f m b) (ha : ascP f a m b)
    (IH : ∀ (a' m' b' : Nat) (f' : Nat → Int) (w' : World), b' - a' < b - a → I f' w' → a' < m' → m' < b' → b' ≤ n → (∀ i, i < n → 0 ≤ f' i ∧ f' i < n) → srt k f' a' m' → srt k f' m' b' → ascP f' a' m' b' →
      Calls Try.prog 61 #[.slice (some ⟨blk, 0, none⟩) n c, .int .i64 a', .int .i64 m', .int .i64 b', .func (.func g) #[] lb] w' (SymOk I k f' a' b')) :
    Calls Try.prog 61 #[.slice (some ⟨blk, 0, none⟩) n c, .int .i64 a, .int .i64 m, .int .i64 b, .func (.func g) #[] lb] w (SymOk I k f a b) := by
  have HI := Lib.hid hI
  have HS := Lib.hid S
  have eg := HS.out.en
  have HRG := Lib.hid hr
  have HA := Lib.hid ha
  have H1 := Lib.hid h1
  have H2 := Lib.hid h2
  have HIH := Lib.hid IH
  obtain ⟨d, hd⟩ : ∃ d, d = m - a := ⟨_, rfl⟩
  have ed : (m : Int) - (a : Int) = (d : Int) := by omega
  have ed1 : ((d : Int) == 1) = false := by simp; omega
  obtain ⟨d', hd'⟩ : ∃ d', d' = b - m := ⟨_, rfl⟩
  have ed' : (b : Int) - (m : Int) = (d' : Int) := by omega
  have ed1' : ((d' : Int) == 1) = false := by simp; omega
  obtain ⟨mid, hmid⟩ : ∃ mid, mid = (a + b) / 2 := ⟨_, rfl⟩
  have emid : ((a : Int) + (b : Int)) / 2 = (mid : Int) := by omega
  have hs9 : (a : Int) + (b : Int) ≤ 9223372036854775807 := by omega
  obtain ⟨N, hN⟩ : ∃ N, N = mid + m := ⟨_, rfl⟩
  have eN : (mid : Int) + (m : Int) = (N : Int) := by omega
  have hN9 : (N : Int) ≤ 9223372036854775807 := by omega
  have hm9 : (mid : Int) ≤ 9223372036854775807 := by omega
  obtain ⟨lo, hlo⟩ : ∃ lo, lo = if mid < m then N - b else a := ⟨_, rfl⟩
  obtain ⟨hi, hhi⟩ : ∃ hi, hi = if mid < m then mid else m := ⟨_, rfl⟩
  have hlh : (mid < m ∧ lo = N - b ∧ hi = mid) ∨ (¬ mid < m ∧ lo = a ∧ hi = m) := by
    by_cases e : mid < m
    · rw [if_pos e] at hlo hhi; exact Or.inl ⟨e, hlo, hhi⟩
    · rw [if_neg e] at hlo hhi; exact Or.inr ⟨e, hlo, hhi⟩
  have HLH := Lib.hid hlh
  have HN := Lib.hid hN
  have HMID := Lib.hid hmid
  have HAM := Lib.hid ham
  have HBM := Lib.hid hbm
  clear hI S hr ha h1 h2 hd hd' hlo hhi hlh hN hmid IH ham hbm
  go_enter Try.func61, Try.ntmps61
  go_upto_if 140 with fail
  clear ed ed1 ed' ed1' emid eN
  go_cut [20, 21] from 140 to 146 (fun s t wx => s = .int .i64 (lo : Int) ∧ t = .int .i64 (hi : Int) ∧ wx = w)
  case first =>
    rcases HLH.out with ⟨e1, e2, e3⟩ | ⟨e1, e2, e3⟩
    · have c1 : (mid : Int) < (m : Int) := by omega
      have c2 : (N : Int) - (b : Int) = (lo : Int) := by have := HN.out; have := HMID.out; have := HAM.out; omega
      have E3 := Lib.hid e3
      clear e1 e2 e3
      go_wp2_with fail
      go_meet
      exact ⟨rfl, by rw [E3.out], rfl⟩
    · have c1 : ¬ (mid : Int) < (m : Int) := by omega
      have E2 := Lib.hid e2
      have E3 := Lib.hid e3
      clear e1 e2 e3
      go_wp2_with fail
      go_meet
      exact ⟨by rw [E2.out], by rw [E3.out], rfl⟩
  case rest =>
    obtain ⟨rfl, rfl, rfl⟩ := hcut
    obtain ⟨P, hP⟩ : ∃ P, P + 1 = N := ⟨N - 1, by have := HN.out; have := HAM.out; omega⟩
    have eP : (N : Int) - 1 = (P : Int) := by omega
    have hP9 : (P : Int) ≤ 9223372036854775807 := by omega
    have HP := Lib.hid hP
    have hbd : ∀ h, lo ≤ h → h < hi → h ≤ P ∧ m + h ≤ P ∧ P < b + h ∧ a ≤ h ∧ h < m := by
      intro h h1 h2
      have := HN.out; have := HMID.out; have := HAM.out; have := HBM.out
      rcases HLH.out with ⟨e1, e2, e3⟩ | ⟨e1, e2, e3⟩ <;> omega
    have HBD := Lib.hid hbd
    have hlohi : lo ≤ hi := by
      have := HN.out; have := HMID.out; have := HAM.out; have := HBM.out
      rcases HLH.out with ⟨e1, e2, e3⟩ | ⟨e1, e2, e3⟩ <;> omega
    have hhi : hi ≤ n := by
      have := HN.out; have := HMID.out; have := HAM.out; have := HBM.out
      rcases HLH.out with ⟨e1, e2, e3⟩ | ⟨e1, e2, e3⟩ <;> omega
    clear hbd hP
    go_wp2
    clear eP
    go_loopw [20, 21, 23] (fun s r _ wr => ∃ x y : Nat, s = .int .i64 x ∧ r = .int .i64 y ∧ lo ≤ x ∧ x ≤ y ∧ y ≤ hi ∧ Hid (I f wr) ∧ Hid (x = lo ∨ plt k (f (x - 1)) (f (P + 1 - x))) ∧ Hid (y = hi ∨ plt k (f (P - y)) (f y))) (fun s r _ _ => (intOf r).toNat - (intOf s).toNat)
    case atStart => exact ⟨lo, hi, rfl, rfl, Nat.le_refl _, hlohi, Nat.le_refl _, HI, Lib.hid (Or.inl rfl), Lib.hid (Or.inl rfl)⟩
    case round =>
      obtain ⟨p, q, rfl, rfl, hp, hpq, hq, HJ, HL, HH⟩ := hrel
      by_cases hlt : p < q
      · have hltz : (p : Int) < (q : Int) := by omega
        have hs9' : (p : Int) + (q : Int) ≤ 9223372036854775807 := by omega
        obtain ⟨h, hh⟩ : ∃ h, h = (p + q) / 2 := ⟨_, rfl⟩
        have eh : ((p : Int) + (q : Int)) / 2 = (h : Int) := by omega
        have hh9 : (h : Int) ≤ 9223372036854775806 := by omega
        obtain ⟨z1, z2, z3, z4, z5⟩ := HBD.out h (by omega) (by omega)
        obtain ⟨u, hu⟩ : ∃ u, u = P - h := ⟨_, rfl⟩
        have eu : (P : Int) - (h : Int) = (u : Int) := by omega
        have wu : IntKind.i64.wrap (u : Int) = (u : Int) := i64_wrap_nat u (by omega)
        have hB := HS.out.bf _ _ HJ.out
        have xx1 : (u : Int) < (n : Int) := by omega
        have xx2 : (h : Int) < (n : Int) := by omega
        have dx := hB.cell (j := u) (by omega)
        have dy := hB.cell (j := h) (by omega)
        have rx := HRG.out u (by omega)
        have ry := HRG.out h (by omega)
        have hcmp := fun z => HS.out.cmp f (wr.drewN z) (f u) (f h) (HS.out.drew _ _ z HJ.out) rx.1 rx.2 ry.1 ry.2
        have hc2 := cmpI_neg (k (f u)) (k (f h))
        obtain ⟨C, hC⟩ : ∃ C, cmpI (k (f u)) (k (f h)) = C := ⟨_, rfl⟩
        rw [hC] at hc2
        simp only [hC] at hcmp
        obtain ⟨x, hx⟩ : ∃ x, f u = x := ⟨_, rfl⟩
        obtain ⟨y, hy⟩ : ∃ y, f h = y := ⟨_, rfl⟩
        rw [hx] at dx hcmp hc2
        rw [hy] at dy hcmp hc2
        have HX := Lib.hid hx
        have HY := Lib.hid hy
        have HCMP := Lib.hid hcmp
        clear hx hy hcmp hC rx ry hB
        have hpla : f h < f u := HA.out h u (by omega) (by omega) (by omega) (by omega)
        have HPL := Lib.hid hpla
        have HHH := Lib.hid hh
        have HU := Lib.hid hu
        have HZ := Lib.hid z1
        clear hpla hh hu z1 z2 z3 z4 z5
        by_cases hk : k x < k y
        · rw [decide_eq_true hk] at hc2
          have HK := Lib.hid hk
          clear hk
          go_wp2_with fail
          go_quiet ((go_at_fn g; exact Calls.quiet_of (HCMP.out _)))
          have HJ := Lib.hid (HS.out.drew _ _ nq HJ.out)
          go_wp2
          refine ⟨⟨p, h, rfl, rfl, hp, ?_, ?_, HJ, HL, Lib.hid (Or.inr ?_)⟩, ?_⟩
          · have := HHH.out; omega
          · have := HHH.out; omega
          · have := HK.out
            rw [← HU.out]
            exact Or.inl (by rw [HX.out, HY.out]; exact this)
          · have := HHH.out; simp only [intOf]; omega
        · rw [decide_eq_false hk] at hc2
          have HK := Lib.hid hk
          clear hk
          go_wp2_with fail
          go_quiet ((go_at_fn g; exact Calls.quiet_of (HCMP.out _)))
          have HJ := Lib.hid (HS.out.drew _ _ nq HJ.out)
          go_wp2
          refine ⟨⟨h + 1, q, rfl, rfl, ?_, ?_, hq, HJ, Lib.hid (Or.inr ?_), HH⟩, ?_⟩
          · have := HHH.out; omega
          · have := HHH.out; omega
          · have h1 := HK.out
            have h2 := HPL.out
            have h3 := HX.out
            have h4 := HY.out
            have h5 := HU.out
            subst h3; subst h4
            rw [Nat.add_sub_cancel, show P + 1 - (h + 1) = u by omega]
            unfold plt; omega
          · have := HHH.out; simp only [intOf]; omega
      · obtain rfl : p = q := by omega
        obtain ⟨en, hen⟩ : ∃ en, en = N - p := ⟨_, rfl⟩
        have hf : Cutp k f a m b mid p := by
          have := HN.out; have := HMID.out; have := HAM.out; have := HBM.out; have := HP.out
          have hl := HL.out
          have hu := HH.out
          have e1 : mid + m - p = P + 1 - p := by omega
          have e2 : mid + m - p - 1 = P - p := by omega
          refine ⟨by omega, by omega, by omega, by omega, ?_, ?_, ?_, ?_, ?_, ?_⟩
          · rcases HLH.out with ⟨e1, e2, e3⟩ | ⟨e1, e2, e3⟩ <;> omega
          · rcases HLH.out with ⟨e1, e2, e3⟩ | ⟨e1, e2, e3⟩ <;> omega
          · rcases HLH.out with ⟨e1, e2, e3⟩ | ⟨e1, e2, e3⟩ <;> omega
          · rcases HLH.out with ⟨e1, e2, e3⟩ | ⟨e1, e2, e3⟩ <;> omega
          · rw [e1]
            refine hl.imp (fun e => ?_) id
            rcases HLH.out with ⟨e1, e2, e3⟩ | ⟨e1, e2, e3⟩ <;> omega
          · rw [e2]
            refine hu.imp (fun e => ?_) id
            rcases HLH.out with ⟨e1, e2, e3⟩ | ⟨e1, e2, e3⟩ <;> omega
        have hen2 : mid + m - p = en := by rw [hen, HN.out]
        obtain ⟨c1, c2, c3, c4, c5, c6, c7, c8, _, _⟩ := id hf
        obtain ⟨G, hG⟩ : ∃ G, G = rotF f p m en := ⟨_, rfl⟩
        have hruns := rot_runs hf H1.out H2.out HA.out G (by rw [hen2]; exact hG)
        rw [hen2] at hruns c8
        have ee : (N : Int) - (p : Int) = (en : Int) := by omega
        have en9 : (en : Int) ≤ 9223372036854775807 := by omega
        have ht : ¬ (p < m ∧ m < en) → p = m ∨ en = m := by have := HN.out; omega
        have hmen : m ≤ en := by have := HN.out; omega
        have hmidb : mid < b := c4
        have HEN := Lib.hid hen
        have HRUN := Lib.hid hruns
        have HT := Lib.hid ht
        have HG := Lib.hid hG
        have C5 := Lib.hid c5
        have C6 := Lib.hid c6
        have C7 := Lib.hid c7
        have C8 := Lib.hid c8
        have HME := Lib.hid hmen
        have HMB := Lib.hid hmidb
        clear hf hen hen2 c1 c2 c3 c4 c5 c6 c7 c8 hruns ht hG hp hpq hq hlt hlohi hhi hmen hmidb
        obtain ⟨w2, hw2⟩ : ∃ w2, wr = w2 := ⟨_, rfl⟩
        rw [hw2] at HJ
        rw [hw2]
        clear hw2
        go_upto_region 39 with fail
        clear ee
        obtain ⟨B, hB⟩ : ∃ B, decide (p < m ∧ m < en) = B := ⟨_, rfl⟩
        go_cut [185] from 178 to 185 (fun t wx => t = .bool B ∧ wx = w2)
        case first =>
          by_cases c1 : p < m
          · have c1z : (p : Int) < (m : Int) := by omega
            by_cases c2 : m < en
            · have c2z : (m : Int) < (en : Int) := by omega
              obtain rfl : B = true := by rw [← hB]; exact decide_eq_true ⟨c1, c2⟩
              clear hB
              go_wp2_with fail
              go_meet
              exact ⟨rfl, rfl⟩
            · have c2z : ¬ (m : Int) < (en : Int) := by omega
              obtain rfl : B = false := by rw [← hB]; exact decide_eq_false (fun g => c2 g.2)
              clear hB
              go_wp2_with fail
              go_meet
              exact ⟨rfl, rfl⟩
          · have c1z : ¬ (p : Int) < (m : Int) := by omega
            obtain rfl : B = false := by rw [← hB]; exact decide_eq_false (fun g => c1 g.1)
            clear hB
            go_wp2_with fail
            go_meet
            exact ⟨rfl, rfl⟩
        case rest =>
          obtain ⟨rfl, rfl⟩ := hcut
          have HB := Lib.hid hB
          clear hB
          go_upto_if 185 with fail
          go_cut [] from 185 to 191 (fun wx => Hid (I G wx))
          case first =>
            cases B with
            | true =>
              have hc := of_decide_eq_true HB.out
              go_wp2_with fail
              refine (rotc_any HS.out c p m en f _ HJ.out hc.1 hc.2 (Nat.le_trans C8.out hb) hn).mono ?_
              rintro e w4 ⟨⟨v, rfl⟩, hI'⟩
              rw [← HG.out] at hI'
              have HI' := Lib.hid hI'
              clear hI' hc
              go_wp2_with fail
              go_meet
              exact HI'
            | false =>
              have hc := HT.out (of_decide_eq_false HB.out)
              have hgf : G = f := by rw [HG.out]; exact rotF_triv hc
              have HGF := Lib.hid hgf
              clear hc hgf
              go_wp2_with fail
              go_meet
              exact Lib.hid (by rw [HGF.out]; exact HJ.out)
          case rest =>
            have HJ := Lib.hid hcut.out
            clear hcut
            obtain ⟨w2, hw2⟩ : ∃ w2, wc = w2 := ⟨_, rfl⟩
            rw [hw2] at HJ
            rw [hw2]
            clear hw2
            go_upto_region 41 with fail
            obtain ⟨B, hB⟩ : ∃ B, decide (a < p ∧ p < mid) = B := ⟨_, rfl⟩
            go_cut [199] from 192 to 199 (fun t wx => t = .bool B ∧ wx = w2)
            case first =>
              by_cases c1 : a < p
              · have c1z : (a : Int) < (p : Int) := by omega
                by_cases c2 : p < mid
                · have c2z : (p : Int) < (mid : Int) := by omega
                  obtain rfl : B = true := by rw [← hB]; exact decide_eq_true ⟨c1, c2⟩
                  clear hB
                  go_wp2_with fail
                  go_meet
                  exact ⟨rfl, rfl⟩
                · have c2z : ¬ (p : Int) < (mid : Int) := by omega
                  obtain rfl : B = false := by rw [← hB]; exact decide_eq_false (fun g => c2 g.2)
                  clear hB
                  go_wp2_with fail
                  go_meet
                  exact ⟨rfl, rfl⟩
              · have c1z : ¬ (a : Int) < (p : Int) := by omega
                obtain rfl : B = false := by rw [← hB]; exact decide_eq_false (fun g => c1 g.1)
                clear hB
                go_wp2_with fail
                go_meet
                exact ⟨rfl, rfl⟩
            case rest =>
              obtain ⟨rfl, rfl⟩ := hcut
              have HB := Lib.hid hB
              clear hB
              go_upto_if 199 with fail
              go_cut [] from 199 to 205 (fun wx => ∃ h1, Hid (I h1 wx) ∧ Hid (srt k h1 a mid) ∧ Hid (frm G h1 a mid))
              case first =>
                cases B with
                | true =>
                  have hc := of_decide_eq_true HB.out
                  have HC := Lib.hid hc
                  clear hc
                  go_wp2_with fail
                  refine (HIH.out a p mid G _ (by have := HMB.out; have := HC.out; omega) HJ.out HC.out.1 HC.out.2 (by have := HMB.out; omega) (HRUN.out.2.2.2.2.2.2.2.range hb HRG.out) HRUN.out.1 HRUN.out.2.1 HRUN.out.2.2.1).mono ?_
                  rintro e w4 ⟨⟨v, rfl⟩, h1, r1, r2, r3⟩
                  have R1 := Lib.hid r1
                  have R2 := Lib.hid r2
                  have R3 := Lib.hid r3
                  clear r1 r2 r3
                  go_wp2_with fail
                  go_meet
                  exact ⟨h1, R1, R2, R3⟩
                | false =>
                  go_wp2_with fail
                  go_meet
                  exact ⟨G, HJ, Lib.hid (srt_whole HRUN.out.1 HRUN.out.2.1 (of_decide_eq_false HB.out) C5.out C7.out), Lib.hid (frm.refl _ _ _)⟩
              case rest =>
                obtain ⟨h1, R1, R2, R3⟩ := hcut
                have heq : ∀ i, mid ≤ i → i < b → h1 i = G i := fun i i1 _ => R3.out.1 i (Or.inr i1)
                have hrun2 : srt k h1 mid en ∧ srt k h1 en b ∧ ascP h1 mid en b := by
                  have := HME.out; have := C8.out; have := C7.out; have := HMB.out
                  have hme : mid ≤ en := by have := HEN.out; have := HN.out; have := C6.out; omega
                  exact ⟨HRUN.out.2.2.2.1.congr fun i i1 i2 => heq i i1 (by omega), HRUN.out.2.2.2.2.1.congr fun i i1 i2 => heq i (by omega) i2, HRUN.out.2.2.2.2.2.1.congr heq⟩
                have hme : mid ≤ en := by have := HEN.out; have := HN.out; have := C6.out; omega
                have ham : a ≤ mid := Nat.le_trans C5.out C7.out
                have HRUN2 := Lib.hid hrun2
                have HME2 := Lib.hid hme
                have HAMID := Lib.hid ham
                clear heq hrun2 hme ham
                obtain ⟨w2, hw2⟩ : ∃ w2, wc = w2 := ⟨_, rfl⟩
                rw [hw2] at R1
                rw [hw2]
                clear hw2 HJ
                go_upto_region 43 with fail
                obtain ⟨B, hB⟩ : ∃ B, decide (mid < en ∧ en < b) = B := ⟨_, rfl⟩
                go_cut [213] from 206 to 213 (fun t wx => t = .bool B ∧ wx = w2)
                case first =>
                  by_cases c1 : mid < en
                  · have c1z : (mid : Int) < (en : Int) := by omega
                    by_cases c2 : en < b
                    · have c2z : (en : Int) < (b : Int) := by omega
                      obtain rfl : B = true := by rw [← hB]; exact decide_eq_true ⟨c1, c2⟩
                      clear hB
                      go_wp2_with fail
                      go_meet
                      exact ⟨rfl, rfl⟩
                    · have c2z : ¬ (en : Int) < (b : Int) := by omega
                      obtain rfl : B = false := by rw [← hB]; exact decide_eq_false (fun g => c2 g.2)
                      clear hB
                      go_wp2_with fail
                      go_meet
                      exact ⟨rfl, rfl⟩
                  · have c1z : ¬ (mid : Int) < (en : Int) := by omega
                    obtain rfl : B = false := by rw [← hB]; exact decide_eq_false (fun g => c1 g.1)
                    clear hB
                    go_wp2_with fail
                    go_meet
                    exact ⟨rfl, rfl⟩
                case rest =>
                  obtain ⟨rfl, rfl⟩ := hcut
                  have HB := Lib.hid hB
                  clear hB
                  cases B with
                  | true =>
                    have hc := of_decide_eq_true HB.out
                    have HC := Lib.hid hc
                    clear hc
                    go_wp2_with fail
                    refine (HIH.out mid en b h1 _ (by have := HAM.out; have := HMID.out; have := HMB.out; have := HBM.out; omega) R1.out HC.out.1 HC.out.2 hb (((HRUN.out.2.2.2.2.2.2.2).range hb HRG.out) |> R3.out.range (Nat.le_trans (Nat.le_of_lt HMB.out) hb)) HRUN2.out.1 HRUN2.out.2.1 HRUN2.out.2.2).mono ?_
                    rintro e w4 ⟨⟨v, rfl⟩, h2, r1, r2, r3⟩
                    have Q1 := Lib.hid r1
                    have Q2 := Lib.hid r2
                    have Q3 := Lib.hid r3
                    clear r1 r2 r3
                    go_wp2
                    go_end0
                    exact ⟨⟨_, rfl⟩, h2, Q1.out, merge_join HAMID.out (Nat.le_of_lt HMB.out) HRUN.out.2.2.2.2.2.2.2 HRUN.out.2.2.2.2.2.2.1 R3.out R2.out Q3.out Q2.out⟩
                  | false =>
                    go_wp2
                    go_end0
                    exact ⟨⟨_, rfl⟩, h1, R1.out, merge_join HAMID.out (Nat.le_of_lt HMB.out) HRUN.out.2.2.2.2.2.2.2 HRUN.out.2.2.2.2.2.2.1 R3.out R2.out (frm.refl _ _ _) (srt_whole HRUN2.out.1 HRUN2.out.2.1 (of_decide_eq_false HB.out) HME2.out C8.out)⟩

/-- The symmetric merge, of whatever length. -/
theorem sym_any {g : Nat} {lb : Array Value} {k : Int → Int} {blk n : Nat} {I : (Nat → Int) → World → Prop} (S : SortI g lb k blk n I) (c : Nat) (hn : n ≤ 100000) (z : Nat) :
    ∀ (a m b : Nat) (f : Nat → Int) (w : World), b - a ≤ z → I f w → a < m → m < b → b ≤ n → (∀ i, i < n → 0 ≤ f i ∧ f i < n) → srt k f a m → srt k f m b → ascP f a m b →
      Calls Try.prog 61 #[.slice (some ⟨blk, 0, none⟩) n c, .int .i64 a, .int .i64 m, .int .i64 b, .func (.func g) #[] lb] w (SymOk I k f a b) := by
  induction z with
  | zero => intro a m b f w hz; omega
  | succ z ih =>
    intro a m b f w hz hI h1 h2 hb hr s1 s2 hp
    by_cases c1 : m = a + 1
    · exact sym1_any S c a m b f w hI c1 h2 hb hn hr s2 hp
    · by_cases c2 : b = m + 1
      · exact sym2_any S c a m b f w hI (by omega) c2 hb hn hr s1 hp
      · exact sym3_any S c a m b f w hI (by omega) (by omega) hb hn hr s1 s2 hp fun a' m' b' f' w' hlt => ih a' m' b' f' w' (by omega)
end Go.Proofs.Ytfbloddffhafdaa

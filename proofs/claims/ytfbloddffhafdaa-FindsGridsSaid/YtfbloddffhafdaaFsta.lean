/-
  The library's stable sort of integers: blocks of twenty by insertion, then merges of neighbouring blocks.
-/
import Derived.Test.YtfbloddffhafdaaFsy3
namespace Go.Proofs.Ytfbloddffhafdaa
open Go.RowKit

theorem Lv.last {k : Int → Int} {f : Nat → Int} {s p n : Nat} (h : Lv k f s p n) (hs : s ∣ p) (h1 : n ≤ p + s) (h2 : p ≤ n) : Run k f p n := by
  by_cases e : p = n
  · subst e; exact ⟨fun i j _ _ h => by omega, fun i _ h => by omega⟩
  · have := h p (Nat.le_refl _) (by omega) hs
    rwa [show min (p + s) n = n by omega] at this
/-- A block more by insertion. -/
theorem ins_block {k : Int → Int} {f f' : Nat → Int} {p q n : Nat} (h : Lv k f 20 0 p) (hp : 20 ∣ p) (hq : q ≤ p + 20) (hpq : p ≤ q) (hqn : q ≤ n) (hi : ∀ i, p ≤ i → i < n → f i = (i : Int)) (hs : srt k f' p q) (hf : frm f f' p q) :
    Lv k f' 20 0 q ∧ ∀ i, q ≤ i → i < n → f' i = (i : Int) :=
  ⟨h.snoc hp hq hpq (fun i h => hf.1 i (Or.inl h)) (Run.placed (fun i h1 h2 => hi i h1 (by omega)) hs hf), fun i h1 h2 => by rw [hf.1 i (Or.inr h1)]; exact hi i (by omega) h2⟩
/-- Two blocks are merged. -/
theorem sym_block {k : Int → Int} {f f' : Nat → Int} {s p q n : Nat} (h : Lv k f (2 * s) 0 p) (g : Lv k f s p n) (hp : 2 * s ∣ p) (hs0 : 0 < s) (hq : q = min (p + 2 * s) n) (hm : p + s < n) (hs : srt k f' p q) (hf : frm f f' p q) :
    Lv k f' (2 * s) 0 q ∧ Lv k f' s q n := by
  have hsp : s ∣ p := Nat.dvd_trans (Nat.dvd_mul_left s 2) hp
  have r1 := g.first hsp (by omega) hs0
  have r2 := g.second hsp hm hq
  exact ⟨h.snoc hp (by omega) (by omega) (fun i h => hf.1 i (Or.inl h)) (Run.merged (by omega) (by omega) r1 r2 hs hf), g.keep (by omega) fun i h => hf.1 i (Or.inr h)⟩

set_option maxHeartbeats 1000000 in
set_option maxRecDepth 1000000 in
theorem stable_any {g : Nat} {lb : Array Value} {k : Int → Int} {blk n : Nat} {I : (Nat → Int) → World → Prop} (S : SortI g lb k blk n I) (c : Nat) (f : Nat → Int) (w : World) (hI : I f w) (hn : n ≤ 100000) (hi : ∀ i, i < n → f i = (i : Int)) :
    Calls Try.prog 52 #[.slice (some ⟨blk, 0, none⟩) n c, .int .i64 n, .func (.func g) #[] lb] w fun e w' => (∃ v, e = .returned v) ∧ ∃ f', I f' w' ∧ Run k f' 0 n := by
  have HI := Lib.hid hI
  have HS := Lib.hid S
  have HID := Lib.hid hi
  clear hI S hi
  go_enter Try.func52, Try.ntmps52
  go_wp2
  go_loopw [7, 8] (fun i j wr => ∃ (p : Nat) (f1 : Nat → Int), i = .int .i64 p ∧ j = .int .i64 (p + 20) ∧ p ≤ n ∧ Hid (20 ∣ p) ∧ Hid (I f1 wr) ∧ Hid (Lv k f1 20 0 p) ∧ Hid (∀ i, p ≤ i → i < n → f1 i = (i : Int)) ∧ Hid (∀ i, i < n → 0 ≤ f1 i ∧ f1 i < n)) (fun i _ _ => n - (intOf i).toNat)
  case atStart => exact ⟨0, f, rfl, rfl, Nat.zero_le _, Lib.hid (Nat.dvd_zero _), HI, Lib.hid (fun p _ h _ => by omega), Lib.hid (fun i _ h => HID.out i h), Lib.hid (fun i h => by rw [HID.out i h]; omega)⟩
  case round =>
    obtain ⟨p, f1, rfl, rfl, hpn, HDV, HJ, HLV, HPL, HRG⟩ := hrel
    by_cases hlt : p + 20 ≤ n
    · obtain ⟨q, hq⟩ : ∃ q, q = p + 20 := ⟨_, rfl⟩
      have eq : (p : Int) + 20 = (q : Int) := by omega
      have hqn : (q : Int) ≤ (n : Int) := by omega
      have hq9 : (q : Int) + 20 ≤ 9223372036854775807 := by omega
      have HQ := Lib.hid hq
      clear hlt hq
      go_wp2_with fail
      have hq := HQ.out
      refine (insc_any HS.out c p q f1 _ HJ.out (by omega) (by omega) hn HRG.out (fun i j h1 h2 h3 => by rw [HPL.out i h1 (by omega), HPL.out j (by omega) (by omega)]; omega)).mono ?_
      rintro e w4 ⟨⟨v, rfl⟩, f2, r1, r2, r3⟩
      have hb2 := ins_block HLV.out HDV.out (by omega) (by omega) (by omega) HPL.out r2 r3
      have R1 := Lib.hid r1
      have HLV2 := Lib.hid hb2.1
      have HPL2 := Lib.hid hb2.2
      have HRG2 := Lib.hid (r3.range (by omega) HRG.out)
      clear r1 r2 r3 hb2
      clear hq
      go_wp2
      refine ⟨⟨q, f2, rfl, rfl, by omega, Lib.hid (by rw [HQ.out]; exact Nat.dvd_add HDV.out (Nat.dvd_refl _)), R1, HLV2, HPL2, HRG2⟩, ?_⟩
      have := HQ.out
      simp only [intOf]; omega
    · have hqn : ¬ (p : Int) + 20 ≤ (n : Int) := by omega
      have hq9 : (p : Int) + 20 ≤ 9223372036854775807 := by omega
      go_wp2_with fail
      refine (insc_any HS.out c p n f1 _ HJ.out (by omega) (by omega) hn HRG.out (fun i j h1 h2 h3 => by rw [HPL.out i h1 (by omega), HPL.out j (by omega) (by omega)]; omega)).mono ?_
      rintro e w4 ⟨⟨v, rfl⟩, f2, r1, r2, r3⟩
      have hb2 := ins_block HLV.out HDV.out (by omega) (by omega) (by omega) HPL.out r2 r3
      have R1 := Lib.hid r1
      have HLV2 := Lib.hid hb2.1
      have HPL2 := Lib.hid hb2.2
      have HRG2 := Lib.hid (r3.range (by omega) HRG.out)
      clear r1 r2 r3 hb2
      clear hqn hq9 HLV HPL HRG HPL2 HJ
      go_wp2
      go_loopw [6, 7, 8, 9] (fun z _ _ _ wr => ∃ (s : Nat) (f2 : Nat → Int), z = .int .i64 s ∧ 20 ≤ s ∧ Hid (I f2 wr) ∧ Hid (Lv k f2 s 0 n) ∧ Hid (∀ i, i < n → 0 ≤ f2 i ∧ f2 i < n)) (fun z _ _ _ _ => 300000 - (intOf z).toNat)
      case atStart => exact ⟨20, f2, rfl, Nat.le_refl _, R1, HLV2, HRG2⟩
      case round =>
        clear R1 HLV2 HRG2
        obtain ⟨s, f2, rfl, hs20, HJ, HLV, HRG⟩ := hrel
        by_cases hlt : s < n
        · have hsn : (s : Int) < (n : Int) := by omega
          obtain ⟨z, hz⟩ : ∃ z, z = 2 * s := ⟨_, rfl⟩
          have ez : 2 * (s : Int) = (z : Int) := by omega
          have ez' : (s : Int) * 2 = (z : Int) := by omega
          have hz9 : (z : Int) ≤ 9223372036854775807 := by omega
          have HSS := Lib.hid hz
          clear hz
          go_wp2
          go_loopw [7, 8] (fun i j wr => ∃ (p : Nat) (f3 : Nat → Int), i = .int .i64 p ∧ j = .int .i64 ((p : Int) + (z : Int)) ∧ p ≤ n ∧ Hid (2 * s ∣ p) ∧ Hid (I f3 wr) ∧ Hid (Lv k f3 (2 * s) 0 p) ∧ Hid (Lv k f3 s p n) ∧ Hid (∀ i, i < n → 0 ≤ f3 i ∧ f3 i < n)) (fun i _ _ => n - (intOf i).toNat)
          case atStart => exact ⟨0, f2, rfl, by simp, Nat.zero_le _, Lib.hid (Nat.dvd_zero _), HJ, Lib.hid (fun p _ h _ => by omega), HLV, HRG⟩
          case round =>
            clear HJ HLV HRG
            obtain ⟨p, f3, rfl, rfl, hpn, HDV, HJ, HLVa, HLVb, HRG⟩ := hrel
            have hsz : z = 2 * s := HSS.out
            have hsp : s ∣ p := Nat.dvd_trans (Nat.dvd_mul_left s 2) HDV.out
            obtain ⟨pm, hpm⟩ : ∃ pm, pm = p + s := ⟨_, rfl⟩
            have epm : (p : Int) + (s : Int) = (pm : Int) := by omega
            have hpm9 : (pm : Int) ≤ 9223372036854775807 := by omega
            have HSM := Lib.hid hpm
            have HSP := Lib.hid hsp
            by_cases hle : p + z ≤ n
            · obtain ⟨q, hq⟩ : ∃ q, q = p + z := ⟨_, rfl⟩
              have eq : (p : Int) + (z : Int) = (q : Int) := by omega
              have hqn : (q : Int) ≤ (n : Int) := by omega
              have hq9 : (q : Int) + (z : Int) ≤ 9223372036854775807 := by omega
              have hq8 : (q : Int) ≤ 9223372036854775807 := by omega
              have r1 := HLVb.out.first hsp (by omega) (by omega)
              have r2 := HLVb.out.second (b := q) hsp (by omega) (by omega)
              rw [← hpm] at r1 r2
              have HR1 := Lib.hid r1
              have HR2 := Lib.hid r2
              have HQ := Lib.hid hq
              clear hq hle hpm r1 r2 hsz hsp
              go_wp2_with fail
              have hq := HQ.out
              have hz := HSS.out
              refine (sym_any HS.out c hn n p pm q f3 _ (by omega) HJ.out (by have := HSM.out; omega) (by have := HSM.out; omega) (by omega) HRG.out HR1.out.1 HR2.out.1 (HR1.out.asc HR2.out)).mono ?_
              rintro e w4 ⟨⟨v, rfl⟩, f4, r1, r2, r3⟩
              have hb2 := sym_block (n := n) HLVa.out HLVb.out HDV.out (by have := HSS.out; omega) (by have := HSS.out; omega) (by have := HSM.out; omega) r2 r3
              have R1 := Lib.hid r1
              have HLV3 := Lib.hid hb2.1
              have HLV4 := Lib.hid hb2.2
              have HRG2 := Lib.hid (r3.range (by omega) HRG.out)
              clear r1 r2 r3 hb2
              clear hq hz
              go_wp2
              refine ⟨⟨q, f4, rfl, rfl, by omega, Lib.hid ?_, R1, HLV3, HLV4, HRG2⟩, ?_⟩
              · rw [HQ.out, HSS.out]; exact Nat.dvd_add HDV.out (Nat.dvd_refl _)
              · have := HQ.out
                have := HSS.out
                simp only [intOf]; omega
            · have hqn : ¬ (p : Int) + (z : Int) ≤ (n : Int) := by omega
              have hq9 : (p : Int) + (z : Int) ≤ 9223372036854775807 := by omega
              have HPZ := Lib.hid hle
              by_cases hm : pm < n
              · have hmz : (pm : Int) < (n : Int) := by omega
                have r1 := HLVb.out.first hsp (by omega) (by omega)
                have r2 := HLVb.out.second (b := n) hsp (by omega) (by omega)
                rw [← hpm] at r1 r2
                have HR1 := Lib.hid r1
                have HR2 := Lib.hid r2
                clear hle hpm r1 r2 hsz hsp
                go_wp2_with fail
                have hz := HSS.out
                have hq := HPZ.out
                refine (sym_any HS.out c hn n p pm n f3 _ (by omega) HJ.out (by have := HSM.out; omega) (by have := HSM.out; omega) (by omega) HRG.out HR1.out.1 HR2.out.1 (HR1.out.asc HR2.out)).mono ?_
                rintro e w4 ⟨⟨v, rfl⟩, f4, r1, r2, r3⟩
                have hb2 := sym_block (n := n) HLVa.out HLVb.out HDV.out (by have := HSS.out; omega) (by have := HSS.out; omega) (by have := HSM.out; omega) r2 r3
                have R1 := Lib.hid r1
                have HLV3 := Lib.hid hb2.1
                have HLV4 := Lib.hid hb2.2
                have HRG2 := Lib.hid (r3.range (by omega) HRG.out)
                clear r1 r2 r3 hb2
                clear hq hz
                go_wp2
                have hz := HSS.out
                refine ⟨⟨z, f4, rfl, by omega, R1, Lib.hid (by rw [hz]; exact HLV3.out), HRG2⟩, ?_⟩
                simp only [intOf]; omega
              · have hmz : ¬ (pm : Int) < (n : Int) := by omega
                have HM := Lib.hid hm
                clear hle hpm hsz hsp hm
                go_wp2
                have hz := HSS.out
                have hq := HPZ.out
                have hm := HM.out
                have hpm := HSM.out
                have hlv := HLVa.out.snoc HDV.out (g := f3) (b := n) (by omega) hpn (fun _ _ => rfl) (HLVb.out.last HSP.out (by omega) hpn)
                refine ⟨⟨z, f3, rfl, by omega, HJ, Lib.hid (by rw [hz]; exact hlv), HRG⟩, ?_⟩
                simp only [intOf]; omega
        · have hsn : ¬ (s : Int) < (n : Int) := by omega
          have HLT := Lib.hid hlt
          clear hlt
          go_wp2
          go_end0
          exact ⟨⟨_, rfl⟩, f2, HJ.out, HLV.out.top (by have := HLT.out; omega)⟩
set_option maxHeartbeats 400000 in
theorem sortStable_any {g : Nat} {lb : Array Value} {k : Int → Int} {blk n : Nat} {I : (Nat → Int) → World → Prop} (S : SortI g lb k blk n I) (c : Nat) (f : Nat → Int) (w : World) (hI : I f w) (hn : n ≤ 100000) (hi : ∀ i, i < n → f i = (i : Int)) :
    Calls Try.prog 41 #[.slice (some ⟨blk, 0, none⟩) n c, .func (.func g) #[] lb] w fun e w' => (∃ v, e = .returned v) ∧ ∃ f', I f' w' ∧ Run k f' 0 n := by
  have HI := Lib.hid hI
  have HS := Lib.hid S
  have HID := Lib.hid hi
  clear hI S hi
  go_enter Try.func41, Try.ntmps41
  go_wp2_with fail
  refine (stable_any HS.out c f _ HI.out hn HID.out).mono ?_
  rintro e w4 ⟨⟨v, rfl⟩, f', r1, r2⟩
  have R1 := Lib.hid r1
  have R2 := Lib.hid r2
  clear r1 r2
  go_wp2
  go_end0
  exact ⟨⟨_, rfl⟩, f', R1.out, R2.out⟩
end Go.Proofs.Ytfbloddffhafdaa

/-
  The runes of a string, as a plain function; the reference's Text.
-/
import Derived.Test.YtimpdfafodaadaaDoorTxr
import Derived.Test.YtimpdfafodaadaaDoorIn
namespace Go.Proofs.YtimpdfafodaadaaDoor
open Go.RowKit

def bytesOf (t : ByteArray) : Nat → Nat := fun k => (t.get! k).toNat
def decP (t : ByteArray) : Int × Int := rdec t.size (bytesOf t)
def txL : Nat → ByteArray → Option (List Int)
  | 0, _ => some []
  | f + 1, t => if t.size = 0 then some [] else if (decP t).2 = 0 then none else (txL f (t.extract (decP t).2.toNat t.size)).map fun l => (decP t).1 :: l
def sText (s : ByteArray) : Arr × Int :=
  match txL s.size s with
  | none => (zA, 6)
  | some xs => sVec 2 xs
theorem mulDec_bounds {sz N : Nat} {c0 : Int} {f : Nat → Nat} : (mulDec sz N c0 f).2 = 0 ∨ ((mulDec sz N c0 f).2 = N ∧ N ≤ sz ∧ 0 ≤ (mulDec sz N c0 f).1 ∧ (mulDec sz N c0 f).1 ≤ 1114111 ∧ isRune (mulDec sz N c0 f).1 = true) := by
  unfold mulDec
  split
  · exact .inl rfl
  · split
    · exact .inl rfl
    · split
      · exact .inl rfl
      · split
        · exact .inl rfl
        · rename_i h1 h2 h3 h4
          refine .inr ⟨rfl, by omega, ?_⟩
          have hr : isRune (accC c0 f (N - 1)) = true := by simpa using h3
          have := (rune_iff _).1 hr
          exact ⟨by omega, by omega, hr⟩
theorem rdec_bounds {sz : Nat} {f : Nat → Nat} (hs : 1 ≤ sz) : (rdec sz f).2 = 0 ∨ (1 ≤ (rdec sz f).2 ∧ (rdec sz f).2 ≤ sz ∧ 0 ≤ (rdec sz f).1 ∧ (rdec sz f).1 ≤ 1114111 ∧ isRune (rdec sz f).1 = true) := by
  have key : ∀ N c0, 1 ≤ N → (mulDec sz N c0 f).2 = 0 ∨ (1 ≤ (mulDec sz N c0 f).2 ∧ (mulDec sz N c0 f).2 ≤ sz ∧ 0 ≤ (mulDec sz N c0 f).1 ∧ (mulDec sz N c0 f).1 ≤ 1114111 ∧ isRune (mulDec sz N c0 f).1 = true) := by
    intro N c0 hN
    rcases mulDec_bounds (sz := sz) (N := N) (c0 := c0) (f := f) with h | ⟨h1, h2, h3, h4, h5⟩
    · exact .inl h
    · exact .inr ⟨by omega, by omega, h3, h4, h5⟩
  unfold rdec
  split
  · exact .inr ⟨by simp, by simp; omega, by simp, by simp; omega, by rw [rune_iff]; simp; omega⟩
  · split
    · exact key 2 _ (by omega)
    · split
      · exact key 3 _ (by omega)
      · split
        · exact key 4 _ (by omega)
        · exact .inl rfl
theorem decP_bounds {t : ByteArray} (h : 0 < t.size) : (decP t).2 = 0 ∨ (1 ≤ (decP t).2 ∧ (decP t).2 ≤ t.size ∧ 0 ≤ (decP t).1 ∧ (decP t).1 ≤ 1114111 ∧ isRune (decP t).1 = true) := rdec_bounds h
theorem own_step {w w' : World} {base n : Nat} {e : TypeId} {v : Value} {xs : List Value} (h : w.ownsRow base e 1 v n xs) (hb : Below w.heap.size w w') : w'.ownsRow base e 1 v n xs := by
  refine ⟨h.1, ?_⟩
  rcases h.2 with h1 | ⟨g, cap, cur, h1, hbs, hg, h2⟩
  · exact .inl h1
  · have hlt : g < w.heap.size := by
      rcases Nat.lt_or_ge g w.heap.size with h | h
      · exact h
      · rw [Array.getElem?_eq_none h] at hg; cases hg
    exact .inr ⟨g, cap, cur, h1, hbs, (hb.block g hlt).trans hg, h2⟩
theorem txL_none {f : Nat} {t : ByteArray} (h0 : 0 < t.size) (hf : t.size ≤ f) (h : (decP t).2 = 0) : txL f t = none := by
  obtain ⟨g, rfl⟩ : ∃ g, f = g + 1 := ⟨f - 1, by omega⟩
  unfold txL
  rw [if_neg (by omega), if_pos h]
theorem txL_some {f : Nat} {t : ByteArray} (h0 : 0 < t.size) (h : (decP t).2 ≠ 0) : txL (f + 1) t = (txL f (t.extract (decP t).2.toNat t.size)).map fun l => (decP t).1 :: l := by
  rw [txL, if_neg (by omega), if_neg h]
theorem txL_end {f : Nat} {t : ByteArray} (h : t.size = 0) : txL f t = some [] := by
  cases f with
  | zero => rfl
  | succ f => rw [txL, if_pos h]
def strLen : Value → Nat
  | .string t => t.size
  | _ => 0
theorem decoded_P (t : ByteArray) (w : World) (ht : 0 < t.size) :
    Calls Tryd.prog 51 #[.string t] w fun e w' => e = .returned (.tuple #[.int .i64 (decP t).1, .int .i64 (decP t).2]) ∧ Below w.heap.size w w' := decoded_any t w ht
set_option maxHeartbeats 2000000 in
theorem rText_any (s : ByteArray) (R : Arr × Int) (w : World) (hsz : s.size ≤ 1000000) (h : sText s = R) :
    Calls Tryd.prog 23 #[.string s] w (RetA w R) := by
  obtain ⟨T, hT⟩ : ∃ T, txL s.size s = T := ⟨_, rfl⟩
  unfold sText at h
  rw [hT] at h
  have HR := Lib.hid h
  have HT := Lib.hid hT
  clear h hT
  go_enter Tryd.func23, Tryd.ntmps23
  go_wp2
  go_loopw [0, 4, 5, 6] (fun sv v x y wr => ∃ (t : ByteArray) (f N : Nat) (done : List Int) (V : Option Addr) (vc : Nat), sv = .string t ∧ v = .slice V N vc ∧ t.size ≤ f ∧ N + t.size ≤ 1000000 ∧ Below w.heap.size w wr ∧ Hid (Bx wr w.heap.size #[.int .i64 0, .int .i64 0, .int .i64 0, .int .i64 0, .slice none 0 0] 25) ∧ Hid (wr.ownsRow (w.heap.size + 1) 2 1 (.slice V N vc) N (done.map (Value.int .i64))) ∧ Hid (w.heap.size + 1 ≤ wr.heap.size) ∧ Hid (done.length = N) ∧ Hid ((txL f t).map (fun l => done ++ l) = T)) (fun sv _ _ _ _ => strLen sv)
  case atStart => exact ⟨s, s.size, 0, [], none, 0, rfl, rfl, Nat.le_refl _, by omega, below1 _ _, Lib.hid (Bx.new _ _ _), Lib.hid (World.ownsRow_nil _ _ _ _), Lib.hid (by simp), Lib.hid rfl, Lib.hid (by rw [HT.out]; cases T <;> rfl)⟩
  case round =>
    obtain ⟨t, f, N, done, V, vc, rfl, rfl, hf, hN, hb, HX, HO, HZ, HL, HI⟩ := hrel
    by_cases h0 : 0 < t.size
    · have h0' : (0 : Int) < (t.size : Int) := by omega
      obtain ⟨⟨c, m⟩, hd⟩ : ∃ d, decP t = d := ⟨_, rfl⟩
      have hbd := decP_bounds h0
      have hC := decoded_P t wr h0
      rw [hd] at hbd hC
      simp only at hbd hC
      have HC := Lib.hid hC
      by_cases hm : m = 0
      · subst hm
        have hi := HI.out
        rw [txL_none h0 hf (by rw [hd])] at hi
        subst hi
        have HRR := Lib.hid (show (zA, (6 : Int)) = R from HR.out)
        have d0 : ∀ i, wr.cell? ⟨w.heap.size, i, none⟩ = _ := Bx.cell HX.out
        clear hbd hd hC HI HR
        go_wp2_with fail
        refine HC.out.mono ?_
        rintro e w1 ⟨rfl, hb1⟩
        have X1 := HX.out.step hb1
        have e0 : ∀ i, w1.cell? ⟨w.heap.size, i, none⟩ = _ := Bx.cell X1
        have f0 : ∀ i, w1.frozen? ⟨w.heap.size, i, none⟩ = false := Bx.frozen X1
        have p0 := X1.lt
        clear d0
        go_wp2
        refine retAE (B := w.heap.size) rfl rfl rfl rfl (X1.set5 _ _ _ _ _) ?_
        exact RetA.mk HRR.out.symm (Sl.nil _) (fun b o s e => by cases e) (below_set5 (bst hb hb1) (Nat.le_refl _) _ _ _ _ _)
      · obtain ⟨hm1, hm2, hc1, hc2, hc3⟩ := hbd.resolve_left hm
        obtain ⟨mn, rfl⟩ : ∃ mn : Nat, m = mn := ⟨m.toNat, by omega⟩
        obtain ⟨g, rfl⟩ : ∃ g, f = g + 1 := ⟨f - 1, by omega⟩
        have hi := HI.out
        rw [txL_some h0 (by rw [hd]; exact hm), hd] at hi
        simp only [Int.toNat_natCast] at hi
        obtain ⟨u, hu⟩ : ∃ u, t.extract mn t.size = u := ⟨_, rfl⟩
        rw [hu] at hi
        have hus : u.size = t.size - mn := by rw [← hu, ByteArray.size_extract]; omega
        have HST := Lib.hid (show (txL g u).map (fun l => (done ++ [c]) ++ l) = T by rw [← hi, Option.map_map]; congr 1; funext l; simp)
        have HU := Lib.hid hus
        have hmn : (mn : Int) ≤ (t.size : Int) := by omega
        have hmn0 : ((mn : Int) == 0) = false := by simpa using hm
        have hmn1 : (0 : Int) ≤ (mn : Int) := by omega
        clear hbd hd hC HI hi hc3 hus hm
        go_wp2_with fail
        refine HC.out.mono ?_
        rintro e w1 ⟨rfl, hb1⟩
        have HO1 := Lib.hid ((own_step HO.out hb1).alloc (.cells #[.int .i64 c] 2))
        have HS1 := Lib.hid (slOne w1 c)
        have hzz := HZ.out
        have hsz1 := hb1.size
        have HBZ := Lib.hid (show w.heap.size + 1 ≤ (w1.alloc (.cells #[.int .i64 c] 2)).heap.size by simp; omega)
        have b1 := bst hb hb1
        go_wp2_with (at_builtin; refine wpList_append_sl rfl _ _ rfl rfl (w.heap.size + 1) _ N done rfl HO1.out (some ⟨w1.heap.size, 0, none⟩) 1 1 [c] rfl HS1.out (by omega) HBZ.out ?_)
        intro A2 c2 w2 hg
        have X1 := HX.out.step hb1
        have X2 : Bx w2 w.heap.size #[.int .i64 0, .int .i64 0, .int .i64 0, .int .i64 0, .slice none 0 0] 25 := Bx.grown (Bx.alloc X1 _) hg.2.2 (own_row_ne HO1.out (Bx.alloc X1 _) (by decide))
        have b2 : Below w.heap.size w w2 := hg.below (bal b1 _) (fun k hk => by have := (HO1.out.lt k hk).1; omega)
        have HG := Lib.hid (show w2.ownsRow (w.heap.size + 1) 2 1 (.slice A2 (N + 1) c2) (N + 1) ((done ++ [c]).map (Value.int .i64)) from hg.1)
        have hz2 := X2.lt
        clear hg
        go_wp2
        refine ⟨⟨u, g, N + 1, done ++ [c], A2, c2, ?_, rfl, by rw [HU.out]; omega, by rw [HU.out]; omega, b2, Lib.hid X2, HG, Lib.hid (by omega), Lib.hid (by have := HL.out; simp; omega), HST⟩, ?_⟩
        · simp
        · show u.size < t.size
          rw [HU.out]; omega
    · have hz : t.size = 0 := by omega
      have hi := HI.out
      rw [txL_end hz] at hi
      simp only [Option.map_some, List.append_nil] at hi
      subst hi
      have HRR := Lib.hid (show sVec 2 done = R from HR.out)
      have hN0 : N ≤ 1000000 := by omega
      have hh0 : ¬ (0 : Int) < (t.size : Int) := by omega
      have hr := HRR.out
      unfold sVec at hr
      have hL := HL.out
      have d0 : ∀ i, wr.cell? ⟨w.heap.size, i, none⟩ = _ := Bx.cell HX.out
      have f0 : ∀ i, wr.frozen? ⟨w.heap.size, i, none⟩ = false := Bx.frozen HX.out
      have p0 := HX.out.lt
      rw [hL] at hr
      clear hL HI HR HRR
      by_cases h4 : 400 < N
      · rw [if_pos h4] at hr
        have HQ := Lib.hid hr
        have h4' : (400 : Int) < (N : Int) := by omega
        clear hr
        go_wp2
        refine retAE (B := w.heap.size) rfl rfl rfl rfl (HX.out.set5 _ _ _ _ _) ?_
        exact RetA.mk HQ.out.symm (Sl.nil _) (fun b o s e => by cases e) (below_set5 hb (Nat.le_refl _) _ _ _ _ _)
      · rw [if_neg h4] at hr
        have HQ := Lib.hid hr
        have h4' : ¬ (400 : Int) < (N : Int) := by omega
        clear hr
        go_wp2
        refine retAE (B := w.heap.size) rfl rfl rfl rfl (HX.out.set5 _ _ _ _ _) ?_
        have hO := HO.out
        obtain ⟨_, _, hv, hS, _⟩ := Sl.of_own hO
        cases hv
        exact RetA.mk HQ.out.symm (hS.past5 _ _ _ _ _ fun b o e => own_ne' hO HX.out (by decide) e) (fun b o s e => by have := New.of_own' hO b o s e; omega) (below_set5 hb (Nat.le_refl _) _ _ _ _ _)
end Go.Proofs.YtimpdfafodaadaaDoor

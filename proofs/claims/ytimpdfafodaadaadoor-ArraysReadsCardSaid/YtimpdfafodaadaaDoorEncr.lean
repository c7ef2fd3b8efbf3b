/-
  The reference's encoded, walked.
-/
import Derived.Test.YtimpdfafodaadaaDoorEnc
namespace Go.Proofs.YtimpdfafodaadaaDoor
open Go.RowKit
attribute [local go_sem] Oper.semAt_some

set_option maxHeartbeats 1000000 in
theorem encoded_any (c : Int) (w : World) (hc : isRune c = true) :
    Calls Tryd.prog 44 #[.int .i64 c] w fun e w' => e = .returned (.string (strOfNums (Lib.encodeRuneZ c))) ∧ Below w.heap.size w w' := by
  obtain ⟨h0, h1, _⟩ := isRune_b hc
  have hs0 : 1 ≤ sizeI c := by unfold sizeI; split <;> (try split) <;> (try split) <;> omega
  obtain ⟨N, hN⟩ : ∃ N : Nat, sizeI c = N := ⟨(sizeI c).toNat, by omega⟩
  by_cases hn1 : N = 1
  · subst hn1
    have hlo : c ≤ 127 := by
      unfold sizeI at hN
      split at hN
      · omega
      · split at hN
        · omega
        · split at hN <;> omega
    rw [Lib.encodeRuneZ_one h0 hlo]
    have HN := Lib.hid hN
    have hcv := conv_own (ownByte w w.heap.size c (Nat.le_refl _))
    have e3 : IntKind.u8.wrap c = c := IntWalk.u8_in _ (by omega)
    clear hN hs0 hc
    go_enter Tryd.func44, Tryd.ntmps44
    go_wp2_with fail
    refine (size_any c w).mono ?_
    rintro e w1 ⟨rfl, rfl⟩
    rw [HN.out]
    go_wp2
    go_ret
    exact ⟨rfl, below1 _ _⟩
  · have hN2 : 2 ≤ N := by omega
    obtain ⟨hN4, hf0, hf1, hfe⟩ := enc_fin hc hN hN2
    rw [hfe]
    obtain ⟨⟨cF, oF⟩, hF⟩ : ∃ S, encI (N - 1) (c, []) = S := ⟨_, rfl⟩
    rw [hF] at hf0 hf1
    simp only at hf0 hf1
    rw [hF]
    simp only
    have HN := Lib.hid hN
    have HF := Lib.hid hF
    have hne : ((N : Int) == 1) = false := by simp; omega
    clear hN hs0 hc hF hfe
    go_enter Tryd.func44, Tryd.ntmps44
    go_wp2_with fail
    refine (size_any c w).mono ?_
    rintro e w1 ⟨rfl, rfl⟩
    rw [HN.out]
    go_wp2
    go_loopw [0, 4, 5] (fun cv out i wr => ∃ (j : Nat) (cur : Int) (o : List Int) (V : Option Addr) (vc : Nat), cv = .int .i64 cur ∧ out = .slice V j vc ∧ i = .int .i64 ((j : Int) + 1) ∧ j + 1 ≤ N ∧ 0 ≤ cur ∧ cur ≤ 1114111 ∧ Below w1.heap.size w1 wr ∧ Hid (wr.ownsRow w1.heap.size 5 1 (.slice V j vc) j (o.map (Value.int .u8))) ∧ Hid (encI (N - 1 - j) (cur, o) = (cF, oF))) (fun _ _ i _ => N - (intOf i).toNat)
    case atStart => exact ⟨0, c, [], none, 0, rfl, rfl, rfl, by omega, h0, h1, Below.refl _ _, Lib.hid (World.ownsRow_nil _ _ _ _), HF⟩
    case round =>
      obtain ⟨j, cur, o, V, vc, rfl, rfl, rfl, hj, c0, c1, hb, HO, HE⟩ := hrel
      by_cases hlt : j + 1 < N
      · have hjn : (j : Int) + 1 < (N : Int) := by omega
        obtain ⟨y, hy⟩ : ∃ y, cur % 64 = y := ⟨_, rfl⟩
        obtain ⟨z, hz⟩ : ∃ z, cur / 64 = z := ⟨_, rfl⟩
        have y0 : 0 ≤ y ∧ y < 64 := by omega
        have z0 : 0 ≤ z ∧ z ≤ 1114111 := by omega
        have e1 : Int.tmod cur 64 = y := by rw [← hy]; exact Int.tmod_eq_emod_of_nonneg c0
        have e2 : Int.tdiv cur 64 = z := by rw [← hz]; exact Int.tdiv_eq_ediv_of_nonneg c0
        have e3 : IntKind.u8.wrap (128 + y) = 128 + y := IntWalk.u8_in _ (by omega)
        have e4 : IntKind.i64.wrap (128 + y) = 128 + y := IntWalk.i64_in _ (by omega)
        have HE2 : Hid (encI (N - 1 - (j + 1)) (z, (128 + y) :: o) = (cF, oF)) := Lib.hid (by
          have h := HE.out
          rw [show N - 1 - j = (N - 1 - (j + 1)) + 1 by omega] at h
          simp only [encI, hy, hz] at h
          exact h)
        have hzz := hb.size
        have HB1 := Lib.hid (ownByte wr w1.heap.size (128 + y) hzz)
        have HOA := Lib.hid (HO.out.alloc (.cells #[.int .u8 (128 + y)] 5))
        have HZA := Lib.hid (show w1.heap.size ≤ (wr.alloc (.cells #[.int .u8 (128 + y)] 5)).heap.size by rw [World.size_alloc]; omega)
        clear hy hz
        go_wp2_with (at_builtin; refine wpList_append_u8 rfl _ _ rfl rfl w1.heap.size _ 1 [128 + y] rfl HB1.out w1.heap.size V j vc o rfl HOA.out (by omega) HZA.out ?_)
        intro A3 c3 w3 hO3 hg3
        have b3 : Below w1.heap.size w1 w3 := Below.grown (bal hb _) hg3 (bal hb (.cells #[.int .u8 (128 + y)] 5)).size (fun k hk => by have := (HB1.out.lt k hk).1; omega)
        have HO3 : Hid (w3.ownsRow w1.heap.size 5 1 (.slice A3 (j + 1) c3) (j + 1) (((128 + y) :: o).map (Value.int .u8))) := Lib.hid (by
          rw [Nat.add_comm 1 j] at hO3
          exact hO3)
        have hsw : 1 + j = j + 1 := Nat.add_comm 1 j
        rw [hsw]
        clear hO3 hg3 hsw HB1 HOA HZA HO
        go_wp2
        go_round
        case rel => exact ⟨j + 1, z, _, A3, c3, rfl, rfl, by go_num, by omega, z0.1, z0.2, b3, HO3, HE2⟩
        case measure => simp [intOf]; omega
      · obtain rfl : N = j + 1 := by omega
        have hE := HE.out
        rw [show j + 1 - 1 - j = 0 by omega] at hE
        simp only [encI, Prod.mk.injEq] at hE
        obtain ⟨rfl, rfl⟩ := hE
        have hj13 : j = 1 ∨ j = 2 ∨ j = 3 := by omega
        clear HE HF HN hlt hne hn1 hN2 hN4 hj
        have hzz := hb.size
        have e5 : IntKind.u8.wrap cur = cur := by
          unfold firstB at hf1
          split at hf1
          · exact IntWalk.u8_in _ (by omega)
          · split at hf1 <;> exact IntWalk.u8_in _ (by omega)
        rcases hj13 with rfl | rfl | rfl
        · have hw : cur + 192 ≤ 255 := by simp [firstB] at hf1; omega
          have e6 : IntKind.u8.wrap (192 + cur) = 192 + cur := IntWalk.u8_in _ (by omega)
          have hfb : firstB (1 + 1) = 192 := by simp [firstB]
          have HFB := Lib.hid hfb
          have HB1 := Lib.hid (ownByte wr w1.heap.size (192 + cur) hzz)
          have HOA := Lib.hid (HO.out.alloc (.cells #[.int .u8 (192 + cur)] 5))
          have HZA := Lib.hid (show w1.heap.size ≤ (wr.alloc (.cells #[.int .u8 (192 + cur)] 5)).heap.size by rw [World.size_alloc]; omega)
          clear hf1 hf0 hw hfb
          go_wp2_with (at_builtin; refine wpList_append_u8 rfl _ _ rfl rfl w1.heap.size _ 1 [192 + cur] rfl HB1.out w1.heap.size V 1 vc o rfl HOA.out (by omega) HZA.out ?_)
          intro A3 c3 w3 hO3 hg3
          have b3 : Below w1.heap.size w1 w3 := Below.grown (bal hb _) hg3 (bal hb (.cells #[.int .u8 (192 + cur)] 5)).size (fun k hk => by have := (HB1.out.lt k hk).1; omega)
          have hcv := conv_own (zs := (192 + cur) :: o) hO3
          clear hO3 hg3 HB1 HOA HZA HO
          go_wp2
          go_ret
          exact ⟨by rw [HFB.out]; rfl, b3⟩
        · have hw : cur + 224 ≤ 255 := by simp [firstB] at hf1; omega
          have e6 : IntKind.u8.wrap (224 + cur) = 224 + cur := IntWalk.u8_in _ (by omega)
          have hfb : firstB (2 + 1) = 224 := by simp [firstB]
          have HFB := Lib.hid hfb
          have HB1 := Lib.hid (ownByte wr w1.heap.size (224 + cur) hzz)
          have HOA := Lib.hid (HO.out.alloc (.cells #[.int .u8 (224 + cur)] 5))
          have HZA := Lib.hid (show w1.heap.size ≤ (wr.alloc (.cells #[.int .u8 (224 + cur)] 5)).heap.size by rw [World.size_alloc]; omega)
          clear hf1 hf0 hw hfb
          go_wp2_with (at_builtin; refine wpList_append_u8 rfl _ _ rfl rfl w1.heap.size _ 1 [224 + cur] rfl HB1.out w1.heap.size V 2 vc o rfl HOA.out (by omega) HZA.out ?_)
          intro A3 c3 w3 hO3 hg3
          have b3 : Below w1.heap.size w1 w3 := Below.grown (bal hb _) hg3 (bal hb (.cells #[.int .u8 (224 + cur)] 5)).size (fun k hk => by have := (HB1.out.lt k hk).1; omega)
          have hcv := conv_own (zs := (224 + cur) :: o) hO3
          clear hO3 hg3 HB1 HOA HZA HO
          go_wp2
          go_ret
          exact ⟨by rw [HFB.out]; rfl, b3⟩
        · have hw : cur + 240 ≤ 255 := by simp [firstB] at hf1; omega
          have e6 : IntKind.u8.wrap (240 + cur) = 240 + cur := IntWalk.u8_in _ (by omega)
          have hfb : firstB (3 + 1) = 240 := by simp [firstB]
          have HFB := Lib.hid hfb
          have HB1 := Lib.hid (ownByte wr w1.heap.size (240 + cur) hzz)
          have HOA := Lib.hid (HO.out.alloc (.cells #[.int .u8 (240 + cur)] 5))
          have HZA := Lib.hid (show w1.heap.size ≤ (wr.alloc (.cells #[.int .u8 (240 + cur)] 5)).heap.size by rw [World.size_alloc]; omega)
          clear hf1 hf0 hw hfb
          go_wp2_with (at_builtin; refine wpList_append_u8 rfl _ _ rfl rfl w1.heap.size _ 1 [240 + cur] rfl HB1.out w1.heap.size V 3 vc o rfl HOA.out (by omega) HZA.out ?_)
          intro A3 c3 w3 hO3 hg3
          have b3 : Below w1.heap.size w1 w3 := Below.grown (bal hb _) hg3 (bal hb (.cells #[.int .u8 (240 + cur)] 5)).size (fun k hk => by have := (HB1.out.lt k hk).1; omega)
          have hcv := conv_own (zs := (240 + cur) :: o) hO3
          clear hO3 hg3 HB1 HOA HZA HO
          go_wp2
          go_ret
          exact ⟨by rw [HFB.out]; rfl, b3⟩
end Go.Proofs.YtimpdfafodaadaaDoor

/-
  MovesParts: for every two arrays and every number it returns true, and all read as before.
  Conditions: none beyond the given row's own.
-/
import Derived.Test.YtoapgknkenlcgaaRows
import Derived.Test.YtoapgknkenlcgaaChecked
import Derived.Test.YtoapgknkenlcgaaOpen
import Derived.Test.YtoapgknkenlcgaaLpart
import Derived.Test.YtoapgknkenlcgaaMpart
import Derived.ProofKit
namespace Go.Proofs.Ytoapgknkenlcgaa
open Go.ChangeShapes Go.WideShapes Go.ChangeAt Go.RowKit

theorem lawParts_any (ka ra ua va : Int) (Aa : Option Addr) (na ca : Nat) (xsa : List Int) (kb rb ub vb : Int) (Ab : Option Addr) (nb cb : Nat) (xsb : List Int) (x : Int) (w : World) (hsa : Sl w Aa na ca xsa) (hsb : Sl w Ab nb cb xsb) (hx0 : -9223372036854775808 ≤ x ∧ x ≤ 9223372036854775807) :
    Calls Try.prog 7 #[.agg #[.int .i64 ka, .int .i64 ra, .int .i64 ua, .int .i64 va, .slice Aa na ca], .agg #[.int .i64 kb, .int .i64 rb, .int .i64 ub, .int .i64 vb, .slice Ab nb cb], .int .i64 x] w fun e w' => e = .returned (.bool true) ∧ Below w.heap.size w w' := by
  by_cases hfa : 405 < na
  · exact part_fa ka ra ua va Aa na ca xsa kb rb ub vb Ab nb cb xsb x w hsa hsb hfa
  by_cases hfb : 405 < nb
  · exact part_fb ka ra ua va Aa na ca xsa kb rb ub vb Ab nb cb xsb x w hsa hsb hfa hfb
  by_cases hc : achk ka ra ua va xsa = 0
  · by_cases hr : ra = 1
    · have hrb : (ra != 1) = false := by simpa using hr
      obtain ⟨⟨k1, r1, u1, v1, xs1⟩, ⟨k2, r2, u2, v2, xs2⟩, h1, h2, h3, h5⟩ := parts_law (a := ⟨ka, ra, ua, va, xsa⟩) (b := ⟨kb, rb, ub, vb, xsb⟩) (x := x) hc hr
      have hlen : xsa.length = na := hsa.len
      obtain ⟨⟨⟨k4, r4, u4, v4, xs4⟩, e4⟩, h4⟩ : ∃ R, sCat ⟨ka, ra, ua, va, xsa⟩ ⟨kb, rb, ub, vb, xsb⟩ = R := ⟨_, rfl⟩
      have hX : ∀ y ∈ [x], -9223372036854775808 ≤ y ∧ y ≤ 9223372036854775807 := fun y hy => by rw [List.mem_singleton] at hy; rw [hy]; exact hx0
      simp only [hlen] at h5
      by_cases z4 : e4 = 0
      · subst z4
        obtain ⟨h5, h6⟩ := h5 _ h4
        by_cases hx : x < 0
        · rw [if_pos hx] at h3
          exact part_swap_good ka ra ua va Aa na ca xsa kb rb ub vb Ab nb cb xsb x w hsa hsb hfa hfb hc hrb hX hx k1 r1 u1 v1 xs1 k2 r2 u2 v2 xs2 k4 r4 u4 v4 xs4 h1 h2 h3 h4 h5 h6
        · rw [if_neg hx] at h3
          exact part_stay_good ka ra ua va Aa na ca xsa kb rb ub vb Ab nb cb xsb x w hsa hsb hfa hfb hc hrb hX hx k1 r1 u1 v1 xs1 k2 r2 u2 v2 xs2 k4 r4 u4 v4 xs4 h1 h2 h3 h4 h5 h6
      · have he4 : (e4 != 0) = true := by simpa using z4
        by_cases hx : x < 0
        · rw [if_pos hx] at h3
          exact part_swap_bad ka ra ua va Aa na ca xsa kb rb ub vb Ab nb cb xsb x w hsa hsb hfa hfb hc hrb hX hx k1 r1 u1 v1 xs1 k2 r2 u2 v2 xs2 k4 r4 u4 v4 xs4 e4 h1 h2 h3 h4 he4
        · rw [if_neg hx] at h3
          exact part_stay_bad ka ra ua va Aa na ca xsa kb rb ub vb Ab nb cb xsb x w hsa hsb hfa hfb hc hrb hX hx k1 r1 u1 v1 xs1 k2 r2 u2 v2 xs2 k4 r4 u4 v4 xs4 e4 h1 h2 h3 h4 he4
    · exact part_bad ka ra ua va Aa na ca xsa kb rb ub vb Ab nb cb xsb x w hsa hsb hfa hfb _ rfl (.inr ⟨by simpa using hc, by simpa using hr⟩)
  · exact part_bad ka ra ua va Aa na ca xsa kb rb ub vb Ab nb cb xsb x w hsa hsb hfa hfb _ rfl (.inl (by simpa using hc))

theorem movesParts_own : ownKnob Try.prog.godebug = none := by kernel_rfl
theorem movesParts_laidOut : laidOutB Try.prog = true := by kernel_rfl
theorem movesParts_rec : Try.prog.readableRec 25 = true := by kernel_rfl
theorem movesParts_rows : 25 < Try.prog.types.size := of_decide_eq_true (by kernel_rfl)
set_option maxRecDepth 100000 in
theorem movesParts_lifted (os : Os) (started : os.Started) (H : Type) (enc : TypeId × Value → H) :
    ReturnsInHanded {} Try.checked os 7 .any (Rows.movesPartsSpec.pre6 enc Try.prog Try.f7 Rows.movesPartsRow.domain false) (Rows.movesPartsSpec.post enc Try.prog Try.f7 false true false false) := by
  refine returnsInHanded_of_change (C := Try.checked) movesParts_own started (by kernel_rfl) Try.func7
    (ChangeSpec.witness6 (enc := enc) (C := Try.checked) false ⟨#[], #[.agg #[.int .i64 0, .int .i64 0, .int .i64 0, .int .i64 0, .slice none 0 0], .agg #[.int .i64 0, .int .i64 0, .int .i64 0, .int .i64 0, .slice none 0 0], .int .i64 0], []⟩ 8 (by kernel_rfl) (by kernel_rfl) (by kernel_rfl) (by kernel_rfl)) ?_
  intro W base args ds gs before hval0 hW hcnd _
  have hval : ∀ (j : Nat) t v, Try.f7.params[j]? = some t → args[j]? = some v → Value.okWide Try.prog W .any base t v := hval0
  have hW' := hW
  obtain ⟨p, q, hA0, hV, rfl, hfz, hnd⟩ := hW
  have hA : DataW.TrodAll enc Try.prog W 0 (fun _ => true) true Try.f7.params.toList args.toList ds p := hA0
  rw [Try.params7] at hA hval
  obtain ⟨v0, v1, v2, d0, d1, d2, p0, p1, p2, rfl, rfl, rfl, h0, h1, h2⟩ := trodAll_three hA
  obtain ⟨rfl, rfl⟩ := trodVars_none hV
  obtain ⟨k, r, l0, l1, A, n, c, xs, rfl, hs0, hw0⟩ := open_arr (hval 0 25 v0 rfl rfl) h0
  obtain ⟨k', r', l0', l1', A', n', c', ys, rfl, hs1, hw1⟩ := open_arr (hval 1 25 v1 rfl rfl) h1
  obtain ⟨x, rfl, rfl, rfl, wx⟩ := open_int Try.underlying2 (hval 2 2 v2 rfl rfl) h2
  clear hA0 hval0
  have hlt : ∀ x ∈ p0 ++ p1, x.block < W.heap.size := fun x hx => hW'.lt x (by simpa using hx)
  refine (lawParts_any k r l0 l1 A n c xs k' r' l0' l1' A' n' c' ys x W hs0 hs1 (wf_bounds wx)).mono fun e W' ⟨he, hb⟩ => ?_
  subst he
  have hold : ∀ sp : Nat → Bool, (∀ x ∈ p0 ++ p1, sp x.block = true) → DataW.TrodAll enc Try.prog W' 0 sp true [25, 25, 2] [.agg #[.int .i64 k, .int .i64 r, .int .i64 l0, .int .i64 l1, .slice A n c], .agg #[.int .i64 k', .int .i64 r', .int .i64 l0', .int .i64 l1', .slice A' n' c'], .int .i64 x] [d0, d1, .lit (.int .i64 x)] (p0 ++ p1) := fun sp hsp => by
    have h3 := trodAll_mk3 (WideElems.Trod_stays movesParts_laidOut movesParts_rec movesParts_rows h0 (fun x hx => hb.same (hlt x (List.mem_append.2 (.inl hx)))) (fun x hx => hsp x (List.mem_append.2 (.inl hx))))
      (WideElems.Trod_stays movesParts_laidOut movesParts_rec movesParts_rows h1 (fun x hx => hb.same (hlt x (List.mem_append.2 (.inr hx)))) (fun x hx => hsp x (List.mem_append.2 (.inr hx))))
      (shut_int (enc := enc) (P := Try.prog) (w := W') (base := 0) (spare := sp) (held := true) Try.underlying2 wx)
    simpa using h3
  simp only [List.append_nil] at hW'
  exact ⟨_, rfl, post_of_below (pa := p0 ++ p1) (pv := []) hW' (fun _ _ _ => trodAll_mk1 (shut_bool Try.underlying4 true)) (fun sp hsp => hold sp hsp) (fun _ _ => rfl) (by simp) hb
    (ok_one (by kernel_rfl) rfl (okWide_bool_mk Try.underlying4 true))⟩
theorem movesParts_holds : Rows.MovesPartsSaid :=
  OpenClaim.holds_of_wide 7 Try.f7 rfl rfl rfl rfl rfl rfl rfl ⟨rfl, rfl, rfl, rfl, rfl⟩ rfl rfl rfl rfl rfl (by kernel_rfl) Try.func7 (by kernel_rfl)
    (of_decide_eq_true (by kernel_rfl)) (by unfold Func.isWrapper; rw [if_neg (by decide +kernel)]; exact ⟨rfl, rfl⟩)
    (fun os started H enc _ => movesParts_lifted os started H enc)
end Go.Proofs.Ytoapgknkenlcgaa

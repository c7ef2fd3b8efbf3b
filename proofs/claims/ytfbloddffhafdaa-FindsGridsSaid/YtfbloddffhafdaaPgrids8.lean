/-
  FindsGrids: for every array and number it returns true, and the array reads as before.
  Conditions: none beyond the given row's own.
-/
import Derived.Test.YtfbloddffhafdaaRows
import Derived.Test.YtfbloddffhafdaaChecked
import Derived.Test.YtfbloddffhafdaaOpu
import Derived.Test.YtfbloddffhafdaaLgrids8
import Derived.ProofKit
namespace Go.Proofs.Ytfbloddffhafdaa
open Go.ChangeShapes Go.WideShapes Go.ChangeAt Go.RowKit

theorem findsGrids_own : ownKnob Try.prog.godebug = none := by kernel_rfl
theorem findsGrids_laidOut : laidOutB Try.prog = true := by kernel_rfl
theorem findsGrids_rec0 : Try.prog.readableRec 25 = true := by kernel_rfl
theorem findsGrids_rows0 : 25 < Try.prog.types.size := of_decide_eq_true (by kernel_rfl)
theorem findsGrids_rec1 : Try.prog.readableRec 38 = true := by kernel_rfl
theorem findsGrids_rows1 : 38 < Try.prog.types.size := of_decide_eq_true (by kernel_rfl)
set_option maxRecDepth 100000 in
theorem findsGrids_lifted (os : Os) (started : os.Started) (H : Type) (enc : TypeId × Value → H) :
    ReturnsInHanded {} Try.checked os 10 .any (Rows.findsGridsSpec.pre6 enc Try.prog Try.f10 Rows.findsGridsRow.domain false) (Rows.findsGridsSpec.post enc Try.prog Try.f10 false true false false) := by
  refine returnsInHanded_of_change (C := Try.checked) findsGrids_own started (by kernel_rfl) Try.func10
    (ChangeSpec.witness6 (enc := enc) (C := Try.checked) false ⟨#[], #[.agg #[.int .i64 0, .int .i64 0, .int .i64 0, .int .i64 0, .slice none 0 0], .int .u16 0], []⟩ 8 (by kernel_rfl) (by kernel_rfl) (by kernel_rfl) (by kernel_rfl)) ?_
  intro W base args ds gs before hval0 hW hcnd _
  have hval : ∀ (j : Nat) t v, Try.f10.params[j]? = some t → args[j]? = some v → Value.okWide Try.prog W .any base t v := hval0
  have hW' := hW
  obtain ⟨p, q, hA0, hV, rfl, hfz, hnd⟩ := hW
  have hA : DataW.TrodAll enc Try.prog W 0 (fun _ => true) true Try.f10.params.toList args.toList ds p := hA0
  rw [Try.params10] at hA hval
  obtain ⟨v0, v1, d0, d1, p0, p1, rfl, rfl, rfl, h0, h1⟩ := trodAll_two hA
  obtain ⟨rfl, rfl⟩ := trodVars_none hV
  obtain ⟨ka, ra, a0, a1, Aa, na, ca, xsa, rfl, hsa, hwa⟩ := open_arr (hval 0 25 v0 rfl rfl) h0
  have hx1 := h1
  obtain ⟨z, rfl, _, _, hwz⟩ := open_int Try.underlying38 (hval 1 38 v1 rfl rfl) hx1
  clear hA0 hval0
  have hlt : ∀ x ∈ p0 ++ p1, x.block < W.heap.size := fun x hx => hW'.lt x (by simpa using hx)
  refine (lawGrids8 ka ra a0 a1 Aa na ca xsa z W hsa hwa (wf_u16 hwz)).mono fun e W' ⟨he, hb⟩ => ?_
  subst he
  have hold : ∀ sp : Nat → Bool, (∀ x ∈ p0 ++ p1, sp x.block = true) → DataW.TrodAll enc Try.prog W' 0 sp true [25, 38] [.agg #[.int .i64 ka, .int .i64 ra, .int .i64 a0, .int .i64 a1, .slice Aa na ca], .int .u16 z] [d0, d1] (p0 ++ p1) := fun sp hsp => by
    exact trodAll_mk2 (WideElems.Trod_stays findsGrids_laidOut findsGrids_rec0 findsGrids_rows0 h0 (fun x hx => hb.same (hlt x (List.mem_append.2 (.inl hx)))) (fun x hx => hsp x (List.mem_append.2 (.inl hx))))
      (WideElems.Trod_stays findsGrids_laidOut findsGrids_rec1 findsGrids_rows1 h1 (fun x hx => hb.same (hlt x (List.mem_append.2 (.inr hx)))) (fun x hx => hsp x (List.mem_append.2 (.inr hx))))
  simp only [List.append_nil] at hW'
  exact ⟨_, rfl, post_of_below (pa := p0 ++ p1) (pv := []) hW' (fun _ _ _ => trodAll_mk1 (shut_bool Try.underlying4 true)) (fun sp hsp => hold sp hsp) (fun _ _ => rfl) (by simp) hb
    (ok_one (by kernel_rfl) rfl (okWide_bool_mk Try.underlying4 true))⟩
theorem findsGrids_holds : Rows.FindsGridsSaid :=
  OpenClaim.holds_of_wide 10 Try.f10 rfl rfl rfl rfl rfl rfl rfl ⟨rfl, rfl, rfl, rfl, rfl⟩ rfl rfl rfl rfl rfl (by kernel_rfl) Try.func10 (by kernel_rfl)
    (of_decide_eq_true (by kernel_rfl)) (by unfold Func.isWrapper; rw [if_neg (by decide +kernel)]; exact ⟨rfl, rfl⟩)
    (fun os started H enc _ => findsGrids_lifted os started H enc)
end Go.Proofs.Ytfbloddffhafdaa

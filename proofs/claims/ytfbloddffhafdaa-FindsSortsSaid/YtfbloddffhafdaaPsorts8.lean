/-
  FindsSorts: for every array it returns true, and it reads as before.
  Conditions: none beyond the given row's own.
-/
import Derived.Test.YtfbloddffhafdaaRows
import Derived.Test.YtfbloddffhafdaaChecked
import Derived.Test.YtfbloddffhafdaaOpen
import Derived.Test.YtfbloddffhafdaaLsorts8
import Derived.ProofKit
namespace Go.Proofs.Ytfbloddffhafdaa
open Go.ChangeShapes Go.WideShapes Go.ChangeAt Go.RowKit

theorem findsSorts_own : ownKnob Try.prog.godebug = none := by kernel_rfl
theorem findsSorts_laidOut : laidOutB Try.prog = true := by kernel_rfl
theorem findsSorts_rec0 : Try.prog.readableRec 25 = true := by kernel_rfl
theorem findsSorts_rows0 : 25 < Try.prog.types.size := of_decide_eq_true (by kernel_rfl)
set_option maxRecDepth 100000 in
theorem findsSorts_lifted (os : Os) (started : os.Started) (H : Type) (enc : TypeId × Value → H) :
    ReturnsInHanded {} Try.checked os 6 .any (Rows.findsSortsSpec.pre6 enc Try.prog Try.f6 Rows.findsSortsRow.domain false) (Rows.findsSortsSpec.post enc Try.prog Try.f6 false true false false) := by
  refine returnsInHanded_of_change (C := Try.checked) findsSorts_own started (by kernel_rfl) Try.func6
    (ChangeSpec.witness6 (enc := enc) (C := Try.checked) false ⟨#[], #[.agg #[.int .i64 0, .int .i64 0, .int .i64 0, .int .i64 0, .slice none 0 0]], []⟩ 8 (by kernel_rfl) (by kernel_rfl) (by kernel_rfl) (by kernel_rfl)) ?_
  intro W base args ds gs before hval0 hW hcnd _
  have hval : ∀ (j : Nat) t v, Try.f6.params[j]? = some t → args[j]? = some v → Value.okWide Try.prog W .any base t v := hval0
  have hW' := hW
  obtain ⟨p, q, hA0, hV, rfl, hfz, hnd⟩ := hW
  have hA : DataW.TrodAll enc Try.prog W 0 (fun _ => true) true Try.f6.params.toList args.toList ds p := hA0
  rw [Try.params6] at hA hval
  obtain ⟨v0, d0, rfl, rfl, h0⟩ := trodAll_one hA
  obtain ⟨rfl, rfl⟩ := trodVars_none hV
  obtain ⟨kv, rv, v0, v1, Av, nv, cv, xsv, rfl, hsv, hwv⟩ := open_arr (hval 0 25 v0 rfl rfl) h0
  clear hA0 hval0
  have hlt : ∀ x ∈ p, x.block < W.heap.size := fun x hx => hW'.lt x (by simpa using hx)
  refine (lawSorts8 kv rv v0 v1 Av nv cv xsv W hsv).mono fun e W' ⟨he, hb⟩ => ?_
  subst he
  have hold : ∀ sp : Nat → Bool, (∀ x ∈ p, sp x.block = true) → DataW.TrodAll enc Try.prog W' 0 sp true [25] [.agg #[.int .i64 kv, .int .i64 rv, .int .i64 v0, .int .i64 v1, .slice Av nv cv]] [d0] (p) := fun sp hsp => by
    exact trodAll_mk1 (WideElems.Trod_stays findsSorts_laidOut findsSorts_rec0 findsSorts_rows0 h0 (fun x hx => hb.same (hlt x (hx))) (fun x hx => hsp x (hx)))
  simp only [List.append_nil] at hW'
  exact ⟨_, rfl, post_of_below (pa := p) (pv := []) hW' (fun _ _ _ => trodAll_mk1 (shut_bool Try.underlying4 true)) (fun sp hsp => hold sp hsp) (fun _ _ => rfl) (by simp) hb
    (ok_one (by kernel_rfl) rfl (okWide_bool_mk Try.underlying4 true))⟩
theorem findsSorts_holds : Rows.FindsSortsSaid :=
  OpenClaim.holds_of_wide 6 Try.f6 rfl rfl rfl rfl rfl rfl rfl ⟨rfl, rfl, rfl, rfl, rfl⟩ rfl rfl rfl rfl rfl (by kernel_rfl) Try.func6 (by kernel_rfl)
    (of_decide_eq_true (by kernel_rfl)) (by unfold Func.isWrapper; rw [if_neg (by decide +kernel)]; exact ⟨rfl, rfl⟩)
    (fun os started H enc _ => findsSorts_lifted os started H enc)
end Go.Proofs.Ytfbloddffhafdaa

/-
  FindsPicks: for every two arrays it returns true, and both read as before.
  Conditions: none beyond the given row's own.
-/
import Derived.Test.YtfbloddffhafdaaRows
import Derived.Test.YtfbloddffhafdaaChecked
import Derived.Test.YtfbloddffhafdaaOpen
import Derived.Test.YtfbloddffhafdaaLpicks8
import Derived.ProofKit
namespace Go.Proofs.Ytfbloddffhafdaa
open Go.ChangeShapes Go.WideShapes Go.ChangeAt Go.RowKit

theorem findsPicks_own : ownKnob Try.prog.godebug = none := by kernel_rfl
theorem findsPicks_laidOut : laidOutB Try.prog = true := by kernel_rfl
theorem findsPicks_rec0 : Try.prog.readableRec 25 = true := by kernel_rfl
theorem findsPicks_rows0 : 25 < Try.prog.types.size := of_decide_eq_true (by kernel_rfl)
set_option maxRecDepth 100000 in
theorem findsPicks_lifted (os : Os) (started : os.Started) (H : Type) (enc : TypeId × Value → H) :
    ReturnsInHanded {} Try.checked os 9 .any (Rows.findsPicksSpec.pre6 enc Try.prog Try.f9 Rows.findsPicksRow.domain false) (Rows.findsPicksSpec.post enc Try.prog Try.f9 false true false false) := by
  refine returnsInHanded_of_change (C := Try.checked) findsPicks_own started (by kernel_rfl) Try.func9
    (ChangeSpec.witness6 (enc := enc) (C := Try.checked) false ⟨#[], #[.agg #[.int .i64 0, .int .i64 0, .int .i64 0, .int .i64 0, .slice none 0 0], .agg #[.int .i64 0, .int .i64 0, .int .i64 0, .int .i64 0, .slice none 0 0]], []⟩ 8 (by kernel_rfl) (by kernel_rfl) (by kernel_rfl) (by kernel_rfl)) ?_
  intro W base args ds gs before hval0 hW hcnd _
  have hval : ∀ (j : Nat) t v, Try.f9.params[j]? = some t → args[j]? = some v → Value.okWide Try.prog W .any base t v := hval0
  have hW' := hW
  obtain ⟨p, q, hA0, hV, rfl, hfz, hnd⟩ := hW
  have hA : DataW.TrodAll enc Try.prog W 0 (fun _ => true) true Try.f9.params.toList args.toList ds p := hA0
  rw [Try.params9] at hA hval
  obtain ⟨v0, v1, d0, d1, p0, p1, rfl, rfl, rfl, h0, h1⟩ := trodAll_two hA
  obtain ⟨rfl, rfl⟩ := trodVars_none hV
  obtain ⟨km, rm, m0, m1, Am, nm, cm, xsm, rfl, hsm, hwm⟩ := open_arr (hval 0 25 v0 rfl rfl) h0
  obtain ⟨kv, rv, v0, v1, Av, nv, cv, xsv, rfl, hsv, hwv⟩ := open_arr (hval 1 25 v1 rfl rfl) h1
  clear hA0 hval0
  have hlt : ∀ x ∈ p0 ++ p1, x.block < W.heap.size := fun x hx => hW'.lt x (by simpa using hx)
  refine (lawPicks8 km rm m0 m1 Am nm cm xsm kv rv v0 v1 Av nv cv xsv W hsm hsv).mono fun e W' ⟨he, hb⟩ => ?_
  subst he
  have hold : ∀ sp : Nat → Bool, (∀ x ∈ p0 ++ p1, sp x.block = true) → DataW.TrodAll enc Try.prog W' 0 sp true [25, 25] [.agg #[.int .i64 km, .int .i64 rm, .int .i64 m0, .int .i64 m1, .slice Am nm cm], .agg #[.int .i64 kv, .int .i64 rv, .int .i64 v0, .int .i64 v1, .slice Av nv cv]] [d0, d1] (p0 ++ p1) := fun sp hsp => by
    exact trodAll_mk2 (WideElems.Trod_stays findsPicks_laidOut findsPicks_rec0 findsPicks_rows0 h0 (fun x hx => hb.same (hlt x (List.mem_append.2 (.inl hx)))) (fun x hx => hsp x (List.mem_append.2 (.inl hx))))
      (WideElems.Trod_stays findsPicks_laidOut findsPicks_rec0 findsPicks_rows0 h1 (fun x hx => hb.same (hlt x (List.mem_append.2 (.inr hx)))) (fun x hx => hsp x (List.mem_append.2 (.inr hx))))
  simp only [List.append_nil] at hW'
  exact ⟨_, rfl, post_of_below (pa := p0 ++ p1) (pv := []) hW' (fun _ _ _ => trodAll_mk1 (shut_bool Try.underlying4 true)) (fun sp hsp => hold sp hsp) (fun _ _ => rfl) (by simp) hb
    (ok_one (by kernel_rfl) rfl (okWide_bool_mk Try.underlying4 true))⟩
theorem findsPicks_holds : Rows.FindsPicksSaid :=
  OpenClaim.holds_of_wide 9 Try.f9 rfl rfl rfl rfl rfl rfl rfl ⟨rfl, rfl, rfl, rfl, rfl⟩ rfl rfl rfl rfl rfl (by kernel_rfl) Try.func9 (by kernel_rfl)
    (of_decide_eq_true (by kernel_rfl)) (by unfold Func.isWrapper; rw [if_neg (by decide +kernel)]; exact ⟨rfl, rfl⟩)
    (fun os started H enc _ => findsPicks_lifted os started H enc)
end Go.Proofs.Ytfbloddffhafdaa

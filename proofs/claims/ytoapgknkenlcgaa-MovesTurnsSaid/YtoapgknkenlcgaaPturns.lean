/-
  MovesTurns: for every array it returns true, and it reads as before.
  Conditions: none beyond the given row's own.
-/
import Derived.Test.YtoapgknkenlcgaaRows
import Derived.Test.YtoapgknkenlcgaaChecked
import Derived.Test.YtoapgknkenlcgaaOpen
import Derived.Test.YtoapgknkenlcgaaLturn
import Derived.ProofKit
namespace Go.Proofs.Ytoapgknkenlcgaa
open Go.ChangeShapes Go.WideShapes Go.ChangeAt Go.RowKit

theorem movesTurns_own : ownKnob Try.prog.godebug = none := by kernel_rfl
theorem movesTurns_laidOut : laidOutB Try.prog = true := by kernel_rfl
theorem movesTurns_rec : Try.prog.readableRec 25 = true := by kernel_rfl
theorem movesTurns_rows : 25 < Try.prog.types.size := of_decide_eq_true (by kernel_rfl)
set_option maxRecDepth 100000 in
theorem movesTurns_lifted (os : Os) (started : os.Started) (H : Type) (enc : TypeId × Value → H) :
    ReturnsInHanded {} Try.checked os 9 .any (Rows.movesTurnsSpec.pre6 enc Try.prog Try.f9 Rows.movesTurnsRow.domain false) (Rows.movesTurnsSpec.post enc Try.prog Try.f9 false true false false) := by
  refine returnsInHanded_of_change (C := Try.checked) movesTurns_own started (by kernel_rfl) Try.func9
    (ChangeSpec.witness6 (enc := enc) (C := Try.checked) false ⟨#[], #[.agg #[.int .i64 0, .int .i64 0, .int .i64 0, .int .i64 0, .slice none 0 0]], []⟩ 8 (by kernel_rfl) (by kernel_rfl) (by kernel_rfl) (by kernel_rfl)) ?_
  intro W base args ds gs before hval0 hW hcnd _
  have hval : ∀ (j : Nat) t v, Try.f9.params[j]? = some t → args[j]? = some v → Value.okWide Try.prog W .any base t v := hval0
  have hW' := hW
  obtain ⟨p, q, hA0, hV, rfl, hfz, hnd⟩ := hW
  have hA : DataW.TrodAll enc Try.prog W 0 (fun _ => true) true Try.f9.params.toList args.toList ds p := hA0
  rw [Try.params9] at hA hval
  obtain ⟨v0, d0, rfl, rfl, h0⟩ := trodAll_one hA
  obtain ⟨rfl, rfl⟩ := trodVars_none hV
  obtain ⟨k, r, l0, l1, A, n, c, xs, rfl, hs0, hw0⟩ := open_arr (hval 0 25 v0 rfl rfl) h0
  clear hA0 hval0
  have hlt : ∀ x ∈ p, x.block < W.heap.size := fun x hx => hW'.lt x (by simpa using hx)
  refine (lawTurns_any k r l0 l1 A n c xs W hs0).mono fun e W' ⟨he, hb⟩ => ?_
  subst he
  have hold : ∀ sp : Nat → Bool, (∀ x ∈ p, sp x.block = true) → DataW.TrodAll enc Try.prog W' 0 sp true [25] [.agg #[.int .i64 k, .int .i64 r, .int .i64 l0, .int .i64 l1, .slice A n c]] [d0] p := fun sp hsp =>
    trodAll_mk1 (WideElems.Trod_stays movesTurns_laidOut movesTurns_rec movesTurns_rows h0 (fun x hx => hb.same (hlt x hx)) (fun x hx => hsp x hx))
  simp only [List.append_nil] at hW'
  exact ⟨_, rfl, post_of_below (pa := p) (pv := []) hW' (fun _ _ _ => trodAll_mk1 (shut_bool Try.underlying4 true)) (fun sp hsp => hold sp hsp) (fun _ _ => rfl) (by simp) hb
    (ok_one (by kernel_rfl) rfl (okWide_bool_mk Try.underlying4 true))⟩
theorem movesTurns_holds : Rows.MovesTurnsSaid :=
  OpenClaim.holds_of_wide 9 Try.f9 rfl rfl rfl rfl rfl rfl rfl ⟨rfl, rfl, rfl, rfl, rfl⟩ rfl rfl rfl rfl rfl (by kernel_rfl) Try.func9 (by kernel_rfl)
    (of_decide_eq_true (by kernel_rfl)) (by unfold Func.isWrapper; rw [if_neg (by decide +kernel)]; exact ⟨rfl, rfl⟩)
    (fun os started H enc _ => movesTurns_lifted os started H enc)
end Go.Proofs.Ytoapgknkenlcgaa

/-
  FindsLooks: for every array and two lists of numbers it returns true, and all read as before.
  Conditions: none beyond the given row's own.
-/
import Derived.Test.YtfbloddffhafdaaRows
import Derived.Test.YtfbloddffhafdaaChecked
import Derived.Test.YtfbloddffhafdaaOpu
import Derived.Test.YtfbloddffhafdaaLlooks8
import Derived.ProofKit
namespace Go.Proofs.Ytfbloddffhafdaa
open Go.ChangeShapes Go.WideShapes Go.ChangeAt Go.RowKit

theorem findsLooks_own : ownKnob Try.prog.godebug = none := by kernel_rfl
theorem findsLooks_laidOut : laidOutB Try.prog = true := by kernel_rfl
theorem findsLooks_rec0 : Try.prog.readableRec 25 = true := by kernel_rfl
theorem findsLooks_rows0 : 25 < Try.prog.types.size := of_decide_eq_true (by kernel_rfl)
theorem findsLooks_rec1 : Try.prog.readableRec 37 = true := by kernel_rfl
theorem findsLooks_rows1 : 37 < Try.prog.types.size := of_decide_eq_true (by kernel_rfl)
set_option maxRecDepth 100000 in
theorem findsLooks_lifted (os : Os) (started : os.Started) (H : Type) (enc : TypeId × Value → H) :
    ReturnsInHanded {} Try.checked os 7 .any (Rows.findsLooksSpec.pre6 enc Try.prog Try.f7 Rows.findsLooksRow.domain false) (Rows.findsLooksSpec.post enc Try.prog Try.f7 false true false false) := by
  refine returnsInHanded_of_change (C := Try.checked) findsLooks_own started (by kernel_rfl) Try.func7
    (ChangeSpec.witness6 (enc := enc) (C := Try.checked) false ⟨#[], #[.agg #[.int .i64 0, .int .i64 0, .int .i64 0, .int .i64 0, .slice none 0 0], .slice none 0 0, .slice none 0 0], []⟩ 8 (by kernel_rfl) (by kernel_rfl) (by kernel_rfl) (by kernel_rfl)) ?_
  intro W base args ds gs before hval0 hW hcnd _
  have hval : ∀ (j : Nat) t v, Try.f7.params[j]? = some t → args[j]? = some v → Value.okWide Try.prog W .any base t v := hval0
  have hW' := hW
  obtain ⟨p, q, hA0, hV, rfl, hfz, hnd⟩ := hW
  have hA : DataW.TrodAll enc Try.prog W 0 (fun _ => true) true Try.f7.params.toList args.toList ds p := hA0
  rw [Try.params7] at hA hval
  obtain ⟨v0, v1, v2, d0, d1, d2, p0, p1, p2, rfl, rfl, rfl, h0, h1, h2⟩ := trodAll_three hA
  obtain ⟨rfl, rfl⟩ := trodVars_none hV
  obtain ⟨ka, ra, a0, a1, Aa, na, ca, xsa, rfl, hsa, hwa⟩ := open_arr (hval 0 25 v0 rfl rfl) h0
  obtain ⟨As, ns, cs, xss, rfl, hss⟩ := open_lu16 (hval 1 37 v1 rfl rfl) h1
  obtain ⟨At, nt, ct, xst, rfl, hst⟩ := open_lu16 (hval 2 37 v2 rfl rfl) h2
  clear hA0 hval0
  have hlt : ∀ x ∈ p0 ++ p1 ++ p2, x.block < W.heap.size := fun x hx => hW'.lt x (by simpa using hx)
  refine (lawLooks8 ka ra a0 a1 Aa na ca xsa As ns cs xss At nt ct xst W hsa hss hst hwa).mono fun e W' ⟨he, hb⟩ => ?_
  subst he
  have hold : ∀ sp : Nat → Bool, (∀ x ∈ p0 ++ p1 ++ p2, sp x.block = true) → DataW.TrodAll enc Try.prog W' 0 sp true [25, 37, 37] [.agg #[.int .i64 ka, .int .i64 ra, .int .i64 a0, .int .i64 a1, .slice Aa na ca], .slice As ns cs, .slice At nt ct] [d0, d1, d2] (p0 ++ p1 ++ p2) := fun sp hsp => by
    have hsp' := hsp
    rw [List.append_assoc]
    exact trodAll_mk3 (WideElems.Trod_stays findsLooks_laidOut findsLooks_rec0 findsLooks_rows0 h0 (fun x hx => hb.same (hlt x (List.mem_append.2 (.inl (List.mem_append.2 (.inl hx)))))) (fun x hx => hsp x (List.mem_append.2 (.inl (List.mem_append.2 (.inl hx))))))
      (WideElems.Trod_stays findsLooks_laidOut findsLooks_rec1 findsLooks_rows1 h1 (fun x hx => hb.same (hlt x (List.mem_append.2 (.inl (List.mem_append.2 (.inr hx)))))) (fun x hx => hsp x (List.mem_append.2 (.inl (List.mem_append.2 (.inr hx))))))
      (WideElems.Trod_stays findsLooks_laidOut findsLooks_rec1 findsLooks_rows1 h2 (fun x hx => hb.same (hlt x (List.mem_append.2 (.inr hx)))) (fun x hx => hsp x (List.mem_append.2 (.inr hx))))
  simp only [List.append_nil] at hW'
  exact ⟨_, rfl, post_of_below (pa := p0 ++ p1 ++ p2) (pv := []) hW' (fun _ _ _ => trodAll_mk1 (shut_bool Try.underlying4 true)) (fun sp hsp => hold sp hsp) (fun _ _ => rfl) (by simp) hb
    (ok_one (by kernel_rfl) rfl (okWide_bool_mk Try.underlying4 true))⟩
theorem findsLooks_holds : Rows.FindsLooksSaid :=
  OpenClaim.holds_of_wide 7 Try.f7 rfl rfl rfl rfl rfl rfl rfl ⟨rfl, rfl, rfl, rfl, rfl⟩ rfl rfl rfl rfl rfl (by kernel_rfl) Try.func7 (by kernel_rfl)
    (of_decide_eq_true (by kernel_rfl)) (by unfold Func.isWrapper; rw [if_neg (by decide +kernel)]; exact ⟨rfl, rfl⟩)
    (fun os started H enc _ => findsLooks_lifted os started H enc)
end Go.Proofs.Ytfbloddffhafdaa

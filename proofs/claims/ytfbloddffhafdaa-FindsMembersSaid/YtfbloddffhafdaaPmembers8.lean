/-
  FindsMembers: for every three arrays it returns true, and all read as before.
  Conditions: none beyond the given row's own.
-/
import Derived.Test.YtfbloddffhafdaaRows
import Derived.Test.YtfbloddffhafdaaChecked
import Derived.Test.YtfbloddffhafdaaOpen
import Derived.Test.YtfbloddffhafdaaLmembers8
import Derived.ProofKit
namespace Go.Proofs.Ytfbloddffhafdaa
open Go.ChangeShapes Go.WideShapes Go.ChangeAt Go.RowKit

theorem findsMembers_own : ownKnob Try.prog.godebug = none := by kernel_rfl
theorem findsMembers_laidOut : laidOutB Try.prog = true := by kernel_rfl
theorem findsMembers_rec0 : Try.prog.readableRec 25 = true := by kernel_rfl
theorem findsMembers_rows0 : 25 < Try.prog.types.size := of_decide_eq_true (by kernel_rfl)
set_option maxRecDepth 100000 in
theorem findsMembers_lifted (os : Os) (started : os.Started) (H : Type) (enc : TypeId × Value → H) :
    ReturnsInHanded {} Try.checked os 8 .any (Rows.findsMembersSpec.pre6 enc Try.prog Try.f8 Rows.findsMembersRow.domain false) (Rows.findsMembersSpec.post enc Try.prog Try.f8 false true false false) := by
  refine returnsInHanded_of_change (C := Try.checked) findsMembers_own started (by kernel_rfl) Try.func8
    (ChangeSpec.witness6 (enc := enc) (C := Try.checked) false ⟨#[], #[.agg #[.int .i64 0, .int .i64 0, .int .i64 0, .int .i64 0, .slice none 0 0], .agg #[.int .i64 0, .int .i64 0, .int .i64 0, .int .i64 0, .slice none 0 0], .agg #[.int .i64 0, .int .i64 0, .int .i64 0, .int .i64 0, .slice none 0 0]], []⟩ 8 (by kernel_rfl) (by kernel_rfl) (by kernel_rfl) (by kernel_rfl)) ?_
  intro W base args ds gs before hval0 hW hcnd _
  have hval : ∀ (j : Nat) t v, Try.f8.params[j]? = some t → args[j]? = some v → Value.okWide Try.prog W .any base t v := hval0
  have hW' := hW
  obtain ⟨p, q, hA0, hV, rfl, hfz, hnd⟩ := hW
  have hA : DataW.TrodAll enc Try.prog W 0 (fun _ => true) true Try.f8.params.toList args.toList ds p := hA0
  rw [Try.params8] at hA hval
  obtain ⟨v0, v1, v2, d0, d1, d2, p0, p1, p2, rfl, rfl, rfl, h0, h1, h2⟩ := trodAll_three hA
  obtain ⟨rfl, rfl⟩ := trodVars_none hV
  obtain ⟨ka, ra, a0, a1, Aa, na, ca, xsa, rfl, hsa, hwa⟩ := open_arr (hval 0 25 v0 rfl rfl) h0
  obtain ⟨kv, rv, v0, v1, Av, nv, cv, xsv, rfl, hsv, hwv⟩ := open_arr (hval 1 25 v1 rfl rfl) h1
  obtain ⟨kz, rz, z0, z1, Az, nz, cz, xsz, rfl, hsz, hwz⟩ := open_arr (hval 2 25 v2 rfl rfl) h2
  clear hA0 hval0
  have hlt : ∀ x ∈ p0 ++ p1 ++ p2, x.block < W.heap.size := fun x hx => hW'.lt x (by simpa using hx)
  refine (lawMembers8 ka ra a0 a1 Aa na ca xsa kv rv v0 v1 Av nv cv xsv kz rz z0 z1 Az nz cz xsz W hsa hsv hsz hwa hwv hwz).mono fun e W' ⟨he, hb⟩ => ?_
  subst he
  have hold : ∀ sp : Nat → Bool, (∀ x ∈ p0 ++ p1 ++ p2, sp x.block = true) → DataW.TrodAll enc Try.prog W' 0 sp true [25, 25, 25] [.agg #[.int .i64 ka, .int .i64 ra, .int .i64 a0, .int .i64 a1, .slice Aa na ca], .agg #[.int .i64 kv, .int .i64 rv, .int .i64 v0, .int .i64 v1, .slice Av nv cv], .agg #[.int .i64 kz, .int .i64 rz, .int .i64 z0, .int .i64 z1, .slice Az nz cz]] [d0, d1, d2] (p0 ++ p1 ++ p2) := fun sp hsp => by
    have hsp' := hsp
    rw [List.append_assoc]
    exact trodAll_mk3 (WideElems.Trod_stays findsMembers_laidOut findsMembers_rec0 findsMembers_rows0 h0 (fun x hx => hb.same (hlt x (List.mem_append.2 (.inl (List.mem_append.2 (.inl hx)))))) (fun x hx => hsp x (List.mem_append.2 (.inl (List.mem_append.2 (.inl hx))))))
      (WideElems.Trod_stays findsMembers_laidOut findsMembers_rec0 findsMembers_rows0 h1 (fun x hx => hb.same (hlt x (List.mem_append.2 (.inl (List.mem_append.2 (.inr hx)))))) (fun x hx => hsp x (List.mem_append.2 (.inl (List.mem_append.2 (.inr hx))))))
      (WideElems.Trod_stays findsMembers_laidOut findsMembers_rec0 findsMembers_rows0 h2 (fun x hx => hb.same (hlt x (List.mem_append.2 (.inr hx)))) (fun x hx => hsp x (List.mem_append.2 (.inr hx))))
  simp only [List.append_nil] at hW'
  exact ⟨_, rfl, post_of_below (pa := p0 ++ p1 ++ p2) (pv := []) hW' (fun _ _ _ => trodAll_mk1 (shut_bool Try.underlying4 true)) (fun sp hsp => hold sp hsp) (fun _ _ => rfl) (by simp) hb
    (ok_one (by kernel_rfl) rfl (okWide_bool_mk Try.underlying4 true))⟩
theorem findsMembers_holds : Rows.FindsMembersSaid :=
  OpenClaim.holds_of_wide 8 Try.f8 rfl rfl rfl rfl rfl rfl rfl ⟨rfl, rfl, rfl, rfl, rfl⟩ rfl rfl rfl rfl rfl (by kernel_rfl) Try.func8 (by kernel_rfl)
    (of_decide_eq_true (by kernel_rfl)) (by unfold Func.isWrapper; rw [if_neg (by decide +kernel)]; exact ⟨rfl, rfl⟩)
    (fun os started H enc _ => findsMembers_lifted os started H enc)
end Go.Proofs.Ytfbloddffhafdaa

/-
  ShapesRows: for every shape and list it returns true, and both read as before.
  Conditions: none beyond the given card's own.
-/
import Derived.Test.YteegipfgbcnfkaaDoorCards
import Derived.Test.YteegipfgbcnfkaaDoorTie
import Derived.Test.YteegipfgbcnfkaaDoorOp5
import Derived.Test.YteegipfgbcnfkaaDoorLrow5
import Derived.Test.YteegipfgbcnfkaaDoorOp5l
import Derived.LaidMore
import Derived.Stop.Joined
import Derived.SevenTiedAt
namespace Go.Proofs.YteegipfgbcnfkaaDoor
open Go.ChangeShapes Go.WideShapes Go.ChangeAt Go.RowKit

theorem shapesRows_met (os : Os) (args : Array Value) : laidMetH Tryd.prog Rows.shapesRowsRow.laid ((World.doorLaid Tryd.prog 24 os).forCall (fun _ _ => 0) ⟨#[], args, []⟩).memory :=
  laidMetH_of_parts3 (fuel := 8) (laidMet_of_run' 8 (by kernel_rfl) (by kernel_rfl)) (by kernel_rfl) (by kernel_rfl)
theorem shapesRows_own : ownKnob Tryd.prog.godebug = none := by kernel_rfl
theorem shapesRows_laidOut : laidOutB Tryd.prog = true := by kernel_rfl
theorem shapesRows_rec0 : Tryd.prog.readableRec 24 = true := by kernel_rfl
theorem shapesRows_rows0 : 24 < Tryd.prog.types.size := of_decide_eq_true (by kernel_rfl)
theorem shapesRows_rec1 : Tryd.prog.readableRec 45 = true := by kernel_rfl
theorem shapesRows_rows1 : 45 < Tryd.prog.types.size := of_decide_eq_true (by kernel_rfl)
set_option maxRecDepth 100000 in
theorem shapesRows_lifted (os : Os) (started : os.Started) (H : Type) (enc : TypeId × Value → H) :
    ReturnsInHanded {} Tryd.checked os 9 .any (fun w args => (Rows.shapesRowsSpec.pre enc Tryd.prog Tryd.f9 [] false w args ∧ laidMetH Tryd.prog Rows.shapesRowsRow.laid w) ∧ sizedMet enc Tryd.prog Tryd.f9 (OpenSpec.ofChange Rows.shapesRowsSpec) false w args)
      (Rows.shapesRowsSpec.post enc Tryd.prog Tryd.f9 false true false false) := by
  refine returnsInHanded_of_change_and (C := Tryd.checked) (X := fun w _ => laidMetH Tryd.prog Rows.shapesRowsRow.laid w) (fun _ _ _ hh h => h.of_heap hh) shapesRows_own started (by kernel_rfl) Tryd.func9
    (ChangeSpec.witness_shaped (enc := enc) (C := Tryd.checked) (os := os) (X := fun w _ => laidMetH Tryd.prog Rows.shapesRowsRow.laid w) false (World.doorLaid Tryd.prog 24 os) #[.agg #[.int .i64 0, .int .i64 0, .int .i64 0], .slice none 0 0] 8 rfl (World.shaped_of_RefB (by kernel_rfl) (by kernel_rfl)) (by kernel_rfl) (by kernel_rfl) (by kernel_rfl) (shapesRows_met os _)) ?_
  intro W base args ds gs before hval0 hW _ _ hL _
  have hval : ∀ (j : Nat) t v, Tryd.f9.params[j]? = some t → args[j]? = some v → Value.okWide Tryd.prog W .any base t v := hval0
  have hW' := hW
  obtain ⟨p, q, hA0, hV, rfl, hfz, hnd⟩ := hW
  have hA : DataW.TrodAll enc Tryd.prog W 0 (fun _ => true) true Tryd.f9.params.toList args.toList ds p := hA0
  rw [Tryd.params9] at hA hval
  obtain ⟨v0, v1, d0, d1, p0, p1, rfl, rfl, rfl, h0, h1⟩ := trodAll_two hA
  obtain ⟨rfl, rfl⟩ := trodVars_none hV
  obtain ⟨rs, s0, s1, rfl⟩ := open_shape (hval 0 24 v0 rfl rfl) h0
  obtain ⟨Al, nl, cl, xsl, rfl, hsl⟩ := open_list (hval 1 45 v1 rfl rfl) h1
  clear hA0 hval0
  have hlt : ∀ x ∈ p0 ++ p1, x.block < W.heap.size := fun x hx => hW'.lt x (by simpa using hx)
  refine (lawRows rs s0 s1 Al nl cl xsl W hsl).mono fun e W' ⟨he, hb⟩ => ?_
  subst he
  have hold : ∀ sp : Nat → Bool, (∀ x ∈ p0 ++ p1, sp x.block = true) → DataW.TrodAll enc Tryd.prog W' 0 sp true [24, 45] [.agg #[.int .i64 rs, .int .i64 s0, .int .i64 s1], .slice Al nl cl] [d0, d1] (p0 ++ p1) := fun sp hsp => by
    exact trodAll_mk2 (WideElems.Trod_stays shapesRows_laidOut shapesRows_rec0 shapesRows_rows0 h0 (fun x hx => hb.same (hlt x (List.mem_append.2 (.inl hx)))) (fun x hx => hsp x (List.mem_append.2 (.inl hx))))
      (WideElems.Trod_stays shapesRows_laidOut shapesRows_rec1 shapesRows_rows1 h1 (fun x hx => hb.same (hlt x (List.mem_append.2 (.inr hx)))) (fun x hx => hsp x (List.mem_append.2 (.inr hx))))
  simp only [List.append_nil] at hW'
  exact ⟨_, rfl, post_of_below (pa := p0 ++ p1) (pv := []) hW' (fun _ _ _ => trodAll_mk1 (shut_bool Tryd.underlying4 true)) (fun sp hsp => hold sp hsp) (fun _ _ => rfl) (by simp) hb
    (ok_one (by kernel_rfl) rfl (okWide_bool_mk Tryd.underlying4 true))⟩
theorem shapesRows_holds : Rows.ShapesRowsSaid :=
  OpenClaim.holds_of_wide 9 Tryd.f9 rfl rfl rfl rfl rfl rfl rfl ⟨rfl, rfl, rfl, rfl, rfl⟩ rfl rfl rfl rfl rfl (by kernel_rfl) Tryd.func9 (by kernel_rfl)
    (of_decide_eq_true (by kernel_rfl)) (by unfold Func.isWrapper; first | (rw [if_pos (by decide +kernel)]; kernel_rfl) | (rw [if_neg (by decide +kernel)]; exact ⟨rfl, rfl⟩))
    (fun os started H enc _ => shapesRows_lifted os started H enc)
theorem shapesRows_card : Rows.ShapesRowsCardSaid :=
  Claim7.holds_tied_plain_at .later [] Rows.shapesRowsCard.laidKinds true Rows.shapesRowsCard.stood.harness false
    shapesRows_holds (fun _ h => by cases h) (by kernel_rfl) (fun _ h => by cases h) shapesRows_row_tie rfl ⟨rfl, rfl⟩ (by kernel_rfl) rfl
    (fun f fn hf hfn => by
      obtain rfl : f = 9 := Option.some.inj ((show Tryd.prog.funcNamed Rows.shapesRowsRow.func = some 9 by kernel_rfl).symm.trans hf) |>.symm
      obtain rfl : fn = Tryd.f9 := (Option.some.inj (Tryd.func9.symm.trans hfn)).symm
      exact ⟨by kernel_rfl, fun j t ht => by
        rw [Tryd.params9] at ht
        have hm : t ∈ [24, 45] := by simpa using Array.mem_of_getElem? ht
        have hall : ([24, 45].all fun u => !Tryd.prog.wantsStandIn u) = true := by kernel_rfl
        exact (show Tryd.prog.wantsStandIn t = false by simpa using List.all_eq_true.1 hall t hm)⟩)
    (by kernel_rfl)
end Go.Proofs.YteegipfgbcnfkaaDoor

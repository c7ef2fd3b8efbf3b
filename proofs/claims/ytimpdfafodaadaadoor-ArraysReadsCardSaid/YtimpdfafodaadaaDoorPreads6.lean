/-
  ArraysReads: for every array it returns true, and it reads as before.
  Conditions: none beyond the given card's own.
-/
import Derived.Test.YtimpdfafodaadaaDoorCards
import Derived.Test.YtimpdfafodaadaaDoorTie
import Derived.Test.YtimpdfafodaadaaDoorOp6
import Derived.Test.YtimpdfafodaadaaDoorTab6
import Derived.Test.YtimpdfafodaadaaDoorLrd6
import Derived.Lay
import Derived.LaidMore
import Derived.Stop.Joined
import Derived.SevenTiedAt
namespace Go.Proofs.YtimpdfafodaadaaDoor
open Go.ChangeShapes Go.WideShapes Go.ChangeAt Go.RowKit

theorem arraysReads_own : ownKnob Tryd.prog.godebug = none := by kernel_rfl
theorem arraysReads_laidOut : laidOutB Tryd.prog = true := by kernel_rfl
theorem arraysReads_rec0 : Tryd.prog.readableRec 25 = true := by kernel_rfl
theorem arraysReads_rows0 : 25 < Tryd.prog.types.size := of_decide_eq_true (by kernel_rfl)
set_option maxRecDepth 100000 in
theorem arraysReads_lifted (os : Os) (started : os.Started) (H : Type) (enc : TypeId × Value → H) :
    ReturnsInHanded {} Tryd.checked os 3 .any (fun w args => (Rows.arraysReadsSpec.pre enc Tryd.prog Tryd.f3 [] false w args ∧ laidMetH Tryd.prog Rows.arraysReadsRow.laid w) ∧ sizedMet enc Tryd.prog Tryd.f3 (OpenSpec.ofChange Rows.arraysReadsSpec) false w args)
      (Rows.arraysReadsSpec.post enc Tryd.prog Tryd.f3 false true false false) := by
  refine returnsInHanded_of_change_and (C := Tryd.checked) (X := fun w _ => laidMetH Tryd.prog Rows.arraysReadsRow.laid w) (fun _ _ _ hh h => h.of_heap hh) arraysReads_own started (by kernel_rfl) Tryd.func3
    (ChangeSpec.witness_shaped (enc := enc) (C := Tryd.checked) (os := os) (X := fun w _ => laidMetH Tryd.prog Rows.arraysReadsRow.laid w) false (World.laidAll Tryd.prog os Rows.arraysReadsRow.laid) #[.agg #[.int .i64 0, .int .i64 0, .int .i64 0, .int .i64 0, .slice none 0 0]] 8 (World.laidAll_os _ _ _) (World.shaped_of_ZipB (by kernel_rfl) (by kernel_rfl)) (by kernel_rfl) (by kernel_rfl) (by kernel_rfl) (by rw [MakeChecks.laidMetH_plain _ _ _ (by kernel_rfl)]; exact laidMet_laidAll _ (by kernel_rfl) (by kernel_rfl))) ?_
  intro W base args ds gs before hval0 hW _ _ hL _
  have hval : ∀ (j : Nat) t v, Tryd.f3.params[j]? = some t → args[j]? = some v → Value.okWide Tryd.prog W .any base t v := hval0
  have hW' := hW
  obtain ⟨p, q, hA0, hV, rfl, hfz, hnd⟩ := hW
  have hA : DataW.TrodAll enc Tryd.prog W 0 (fun _ => true) true Tryd.f3.params.toList args.toList ds p := hA0
  rw [Tryd.params3] at hA hval
  obtain ⟨v0, d0, rfl, rfl, h0⟩ := trodAll_one hA
  obtain ⟨rfl, rfl⟩ := trodVars_none hV
  obtain ⟨ka, ra, a0, a1, Aa, na, ca, xsa, rfl, hsa, hwa⟩ := open_arr (hval 0 25 v0 rfl rfl) h0
  clear hA0 hval0
  have hlt : ∀ x ∈ p, x.block < W.heap.size := fun x hx => hW'.lt x (by simpa using hx)
  refine (lawReads6 ka ra a0 a1 Aa na ca xsa W hsa (tab_of_laid hL)).mono fun e W' ⟨he, hb⟩ => ?_
  subst he
  have hold : ∀ sp : Nat → Bool, (∀ x ∈ p, sp x.block = true) → DataW.TrodAll enc Tryd.prog W' 0 sp true [25] [.agg #[.int .i64 ka, .int .i64 ra, .int .i64 a0, .int .i64 a1, .slice Aa na ca]] [d0] (p) := fun sp hsp => by
    exact trodAll_mk1 (WideElems.Trod_stays arraysReads_laidOut arraysReads_rec0 arraysReads_rows0 h0 (fun x hx => hb.same (hlt x (hx))) (fun x hx => hsp x (hx)))
  simp only [List.append_nil] at hW'
  exact ⟨_, rfl, post_of_below (pa := p) (pv := []) hW' (fun _ _ _ => trodAll_mk1 (shut_bool Tryd.underlying4 true)) (fun sp hsp => hold sp hsp) (fun _ _ => rfl) (by simp) hb
    (ok_one (by kernel_rfl) rfl (okWide_bool_mk Tryd.underlying4 true))⟩
theorem arraysReads_holds : Rows.ArraysReadsSaid :=
  OpenClaim.holds_of_wide 3 Tryd.f3 rfl rfl rfl rfl rfl rfl rfl ⟨rfl, rfl, rfl, rfl, rfl⟩ rfl rfl rfl rfl rfl (by kernel_rfl) Tryd.func3 (by kernel_rfl)
    (of_decide_eq_true (by kernel_rfl)) (by unfold Func.isWrapper; first | (rw [if_pos (by decide +kernel)]; kernel_rfl) | (rw [if_neg (by decide +kernel)]; exact ⟨rfl, rfl⟩))
    (fun os started H enc _ => arraysReads_lifted os started H enc)
theorem arraysReads_card : Rows.ArraysReadsCardSaid :=
  Claim7.holds_tied_plain_at .later [] Rows.arraysReadsCard.laidKinds true Rows.arraysReadsCard.stood.harness false
    arraysReads_holds (fun _ h => by cases h) (by kernel_rfl) (fun _ h => by cases h) arraysReads_row_tie rfl ⟨rfl, rfl⟩ (by kernel_rfl) rfl
    (fun f fn hf hfn => by
      obtain rfl : f = 3 := Option.some.inj ((show Tryd.prog.funcNamed Rows.arraysReadsRow.func = some 3 by kernel_rfl).symm.trans hf) |>.symm
      obtain rfl : fn = Tryd.f3 := (Option.some.inj (Tryd.func3.symm.trans hfn)).symm
      exact ⟨by kernel_rfl, fun j t ht => by
        rw [Tryd.params3] at ht
        have hm : t ∈ [25] := by simpa using Array.mem_of_getElem? ht
        have hall : ([25].all fun u => !Tryd.prog.wantsStandIn u) = true := by kernel_rfl
        exact (show Tryd.prog.wantsStandIn t = false by simpa using List.all_eq_true.1 hall t hm)⟩)
    (by kernel_rfl)
end Go.Proofs.YtimpdfafodaadaaDoor

/-
  ArraysBack: for every array, string and number it returns true, and all read as before.
  Conditions: none beyond the given card's own.
-/
import Derived.Test.YtimpdfafodaadaaDoorCards
import Derived.Test.YtimpdfafodaadaaDoorTie
import Derived.Test.YtimpdfafodaadaaDoorOp6
import Derived.Test.YtimpdfafodaadaaDoorTab6
import Derived.Test.YtimpdfafodaadaaDoorLbk6
import Derived.Lay
import Derived.LaidMore
import Derived.Stop.Joined
import Derived.SevenTiedAt
namespace Go.Proofs.YtimpdfafodaadaaDoor
open Go.ChangeShapes Go.WideShapes Go.ChangeAt Go.RowKit

theorem arraysBack_own : ownKnob Tryd.prog.godebug = none := by kernel_rfl
theorem arraysBack_laidOut : laidOutB Tryd.prog = true := by kernel_rfl
theorem arraysBack_rec0 : Tryd.prog.readableRec 25 = true := by kernel_rfl
theorem arraysBack_rows0 : 25 < Tryd.prog.types.size := of_decide_eq_true (by kernel_rfl)
theorem arraysBack_rec1 : Tryd.prog.readableRec 9 = true := by kernel_rfl
theorem arraysBack_rows1 : 9 < Tryd.prog.types.size := of_decide_eq_true (by kernel_rfl)
theorem arraysBack_rec2 : Tryd.prog.readableRec 2 = true := by kernel_rfl
theorem arraysBack_rows2 : 2 < Tryd.prog.types.size := of_decide_eq_true (by kernel_rfl)
set_option maxRecDepth 100000 in
theorem arraysBack_lifted (os : Os) (started : os.Started) (H : Type) (enc : TypeId × Value → H) :
    ReturnsInHanded {} Tryd.checked os 6 .any (fun w args => (Rows.arraysBackSpec.pre enc Tryd.prog Tryd.f6 [] false w args ∧ laidMetH Tryd.prog Rows.arraysBackRow.laid w) ∧ sizedMet enc Tryd.prog Tryd.f6 (OpenSpec.ofChange Rows.arraysBackSpec) false w args)
      (Rows.arraysBackSpec.post enc Tryd.prog Tryd.f6 false true false false) := by
  refine returnsInHanded_of_change_and (C := Tryd.checked) (X := fun w _ => laidMetH Tryd.prog Rows.arraysBackRow.laid w) (fun _ _ _ hh h => h.of_heap hh) arraysBack_own started (by kernel_rfl) Tryd.func6
    (ChangeSpec.witness_shaped (enc := enc) (C := Tryd.checked) (os := os) (X := fun w _ => laidMetH Tryd.prog Rows.arraysBackRow.laid w) false (World.laidAll Tryd.prog os Rows.arraysBackRow.laid) #[.agg #[.int .i64 0, .int .i64 0, .int .i64 0, .int .i64 0, .slice none 0 0], .string (ByteArray.mk #[]), .int .i64 0] 8 (World.laidAll_os _ _ _) (World.shaped_of_ZipB (by kernel_rfl) (by kernel_rfl)) (by kernel_rfl) (by kernel_rfl) (by kernel_rfl) (by rw [MakeChecks.laidMetH_plain _ _ _ (by kernel_rfl)]; exact laidMet_laidAll _ (by kernel_rfl) (by kernel_rfl))) ?_
  intro W base args ds gs before hval0 hW _ _ hL _
  have hval : ∀ (j : Nat) t v, Tryd.f6.params[j]? = some t → args[j]? = some v → Value.okWide Tryd.prog W .any base t v := hval0
  have hW' := hW
  obtain ⟨p, q, hA0, hV, rfl, hfz, hnd⟩ := hW
  have hA : DataW.TrodAll enc Tryd.prog W 0 (fun _ => true) true Tryd.f6.params.toList args.toList ds p := hA0
  rw [Tryd.params6] at hA hval
  obtain ⟨v0, v1, v2, d0, d1, d2, p0, p1, p2, rfl, rfl, rfl, h0, h1, h2⟩ := trodAll_three hA
  obtain ⟨rfl, rfl⟩ := trodVars_none hV
  obtain ⟨ka, ra, a0, a1, Aa, na, ca, xsa, rfl, hsa, hwa⟩ := open_arr (hval 0 25 v0 rfl rfl) h0
  obtain ⟨s, rfl, hss⟩ := open_str (hval 1 9 v1 rfl rfl) h1
  have hx2 := h2
  obtain ⟨v, rfl, _, _, hwv⟩ := open_int Tryd.underlying2 (hval 2 2 v2 rfl rfl) hx2
  clear hA0 hval0
  have hlt : ∀ x ∈ p0 ++ p1 ++ p2, x.block < W.heap.size := fun x hx => hW'.lt x (by simpa using hx)
  refine (lawBack6 ka ra a0 a1 Aa na ca xsa s v W hsa hss (tab_of_laid hL)).mono fun e W' ⟨he, hb⟩ => ?_
  subst he
  have hold : ∀ sp : Nat → Bool, (∀ x ∈ p0 ++ p1 ++ p2, sp x.block = true) → DataW.TrodAll enc Tryd.prog W' 0 sp true [25, 9, 2] [.agg #[.int .i64 ka, .int .i64 ra, .int .i64 a0, .int .i64 a1, .slice Aa na ca], .string s, .int .i64 v] [d0, d1, d2] (p0 ++ p1 ++ p2) := fun sp hsp => by
    have hsp' := hsp
    rw [List.append_assoc]
    exact trodAll_mk3 (WideElems.Trod_stays arraysBack_laidOut arraysBack_rec0 arraysBack_rows0 h0 (fun x hx => hb.same (hlt x (List.mem_append.2 (.inl (List.mem_append.2 (.inl hx)))))) (fun x hx => hsp x (List.mem_append.2 (.inl (List.mem_append.2 (.inl hx))))))
      (WideElems.Trod_stays arraysBack_laidOut arraysBack_rec1 arraysBack_rows1 h1 (fun x hx => hb.same (hlt x (List.mem_append.2 (.inl (List.mem_append.2 (.inr hx)))))) (fun x hx => hsp x (List.mem_append.2 (.inl (List.mem_append.2 (.inr hx))))))
      (WideElems.Trod_stays arraysBack_laidOut arraysBack_rec2 arraysBack_rows2 h2 (fun x hx => hb.same (hlt x (List.mem_append.2 (.inr hx)))) (fun x hx => hsp x (List.mem_append.2 (.inr hx))))
  simp only [List.append_nil] at hW'
  exact ⟨_, rfl, post_of_below (pa := p0 ++ p1 ++ p2) (pv := []) hW' (fun _ _ _ => trodAll_mk1 (shut_bool Tryd.underlying4 true)) (fun sp hsp => hold sp hsp) (fun _ _ => rfl) (by simp) hb
    (ok_one (by kernel_rfl) rfl (okWide_bool_mk Tryd.underlying4 true))⟩
theorem arraysBack_holds : Rows.ArraysBackSaid :=
  OpenClaim.holds_of_wide 6 Tryd.f6 rfl rfl rfl rfl rfl rfl rfl ⟨rfl, rfl, rfl, rfl, rfl⟩ rfl rfl rfl rfl rfl (by kernel_rfl) Tryd.func6 (by kernel_rfl)
    (of_decide_eq_true (by kernel_rfl)) (by unfold Func.isWrapper; first | (rw [if_pos (by decide +kernel)]; kernel_rfl) | (rw [if_neg (by decide +kernel)]; exact ⟨rfl, rfl⟩))
    (fun os started H enc _ => arraysBack_lifted os started H enc)
theorem arraysBack_card : Rows.ArraysBackCardSaid :=
  Claim7.holds_tied_plain_at .later [] Rows.arraysBackCard.laidKinds true Rows.arraysBackCard.stood.harness false
    arraysBack_holds (fun _ h => by cases h) (by kernel_rfl) (fun _ h => by cases h) arraysBack_row_tie rfl ⟨rfl, rfl⟩ (by kernel_rfl) rfl
    (fun f fn hf hfn => by
      obtain rfl : f = 6 := Option.some.inj ((show Tryd.prog.funcNamed Rows.arraysBackRow.func = some 6 by kernel_rfl).symm.trans hf) |>.symm
      obtain rfl : fn = Tryd.f6 := (Option.some.inj (Tryd.func6.symm.trans hfn)).symm
      exact ⟨by kernel_rfl, fun j t ht => by
        rw [Tryd.params6] at ht
        have hm : t ∈ [25, 9, 2] := by simpa using Array.mem_of_getElem? ht
        have hall : ([25, 9, 2].all fun u => !Tryd.prog.wantsStandIn u) = true := by kernel_rfl
        exact (show Tryd.prog.wantsStandIn t = false by simpa using List.all_eq_true.1 hall t hm)⟩)
    (by kernel_rfl)
end Go.Proofs.YtimpdfafodaadaaDoor

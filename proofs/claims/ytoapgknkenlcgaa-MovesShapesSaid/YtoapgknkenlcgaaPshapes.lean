/-
  MovesShapes: for every two arrays and every two lengths it returns true, and all read as before.
  Conditions: none beyond the given row's own.
-/
import Derived.Test.YtoapgknkenlcgaaRows
import Derived.Test.YtoapgknkenlcgaaChecked
import Derived.Test.YtoapgknkenlcgaaOpen
import Derived.Test.YtoapgknkenlcgaaLshj
import Derived.ProofKit
namespace Go.Proofs.Ytoapgknkenlcgaa
open Go.ChangeShapes Go.WideShapes Go.ChangeAt Go.RowKit

section
variable {H : Type} {enc : TypeId × Value → H}
theorem cells_u8 : Try.prog.cellsOf 5 = 1 := by kernel_rfl
theorem cells_bytes2 : Try.prog.cellsOf 40 = 2 := by kernel_rfl
theorem byte_bounds {x : Int} (h : (Lit.int .u8 x).wf = true) : ∃ n : Nat, x = (n : Int) ∧ n ≤ 255 := by
  simp [Lit.wf] at h
  have h1 : IntKind.u8.min = 0 := by decide
  have h2 : IntKind.u8.max = 255 := by decide
  exact ⟨x.toNat, by omega, by omega⟩
theorem open_bytes2 {W : World} {base : Nat} {r : Reach} {b0 : Nat} {v : Value} {d : DataW H} {ps : List MemPlace} (hv : Value.okWide Try.prog W r b0 40 v) (h : DataW.Trod enc Try.prog W base (fun _ => true) true 40 v d ps) :
    ∃ (P Q : Nat), v = .agg #[.int .u8 (P : Int), .int .u8 (Q : Int)] ∧ P ≤ 255 ∧ Q ≤ 255 := by
  have hv' := hv
  simp only [Value.okWide, Try.underlying40] at hv'
  obtain ⟨cs, rfl, hsz, _⟩ := hv'
  rw [cells_bytes2] at hsz
  obtain ⟨l⟩ := cs
  obtain ⟨fuel, hf⟩ := h
  match l, hsz with
  | [c0, c1], _ =>
    obtain ⟨zs, m, _, _, _, hzl, hz⟩ := DataW.trod_array Try.underlying40 hf
    match zs, hzl with
    | [z0, z1], _ =>
      have a0 : DataW.trod enc Try.prog W base (fun _ => true) true m 5 [c0] = some z0 := by simpa [Value.cells, cells_u8] using hz 0 (by omega)
      have a1 : DataW.trod enc Try.prog W base (fun _ => true) true m 5 [c1] = some z1 := by simpa [Value.cells, cells_u8] using hz 1 (by omega)
      obtain ⟨x, e0, _, w0⟩ := DataW.trod_int Try.underlying5 a0
      obtain ⟨y, e1, _, w1⟩ := DataW.trod_int Try.underlying5 a1
      simp only [List.cons.injEq, and_true] at e0 e1
      subst e0 e1
      obtain ⟨P, rfl, hP⟩ := byte_bounds w0
      obtain ⟨Q, rfl, hQ⟩ := byte_bounds w1
      exact ⟨P, Q, rfl, hP, hQ⟩
end

theorem movesShapes_own : ownKnob Try.prog.godebug = none := by kernel_rfl
theorem movesShapes_laidOut : laidOutB Try.prog = true := by kernel_rfl
theorem movesShapes_rec : Try.prog.readableRec 25 = true := by kernel_rfl
theorem movesShapes_rec2 : Try.prog.readableRec 40 = true := by kernel_rfl
theorem movesShapes_rows2 : 40 < Try.prog.types.size := of_decide_eq_true (by kernel_rfl)
theorem movesShapes_rows : 25 < Try.prog.types.size := of_decide_eq_true (by kernel_rfl)
set_option maxRecDepth 100000 in
theorem movesShapes_lifted (os : Os) (started : os.Started) (H : Type) (enc : TypeId × Value → H) :
    ReturnsInHanded {} Try.checked os 10 .any (Rows.movesShapesSpec.pre6 enc Try.prog Try.f10 Rows.movesShapesRow.domain false) (Rows.movesShapesSpec.post enc Try.prog Try.f10 false true false false) := by
  refine returnsInHanded_of_change (C := Try.checked) movesShapes_own started (by kernel_rfl) Try.func10
    (ChangeSpec.witness6 (enc := enc) (C := Try.checked) false ⟨#[], #[.agg #[.int .i64 0, .int .i64 0, .int .i64 0, .int .i64 0, .slice none 0 0], .agg #[.int .i64 0, .int .i64 0, .int .i64 0, .int .i64 0, .slice none 0 0], .agg #[.int .u8 0, .int .u8 0]], []⟩ 8 (by kernel_rfl) (by kernel_rfl) (by kernel_rfl) (by kernel_rfl)) ?_
  intro W base args ds gs before hval0 hW hcnd _
  have hval : ∀ (j : Nat) t v, Try.f10.params[j]? = some t → args[j]? = some v → Value.okWide Try.prog W .any base t v := hval0
  have hW' := hW
  obtain ⟨p, q, hA0, hV, rfl, hfz, hnd⟩ := hW
  have hA : DataW.TrodAll enc Try.prog W 0 (fun _ => true) true Try.f10.params.toList args.toList ds p := hA0
  rw [Try.params10] at hA hval
  obtain ⟨v0, v1, v2, d0, d1, d2, p0, p1, p2, rfl, rfl, rfl, h0, h1, h2⟩ := trodAll_three hA
  obtain ⟨rfl, rfl⟩ := trodVars_none hV
  obtain ⟨k, r, l0, l1, A, n, c, xs, rfl, hs0, hw0⟩ := open_arr (hval 0 25 v0 rfl rfl) h0
  obtain ⟨k', r', l0', l1', A', n', c', ys, rfl, hs1, hw1⟩ := open_arr (hval 1 25 v1 rfl rfl) h1
  obtain ⟨P, Q, rfl, hP, hQ⟩ := open_bytes2 (hval 2 40 v2 rfl rfl) h2
  clear hA0 hval0
  have hlt : ∀ x ∈ p0 ++ p1 ++ p2, x.block < W.heap.size := fun x hx => hW'.lt x (by simpa using hx)
  refine (lawShapes_any k r l0 l1 A n c xs k' r' l0' l1' A' n' c' ys P Q W hs0 hs1 hP hQ).mono fun e W' ⟨he, hb⟩ => ?_
  subst he
  have hold : ∀ sp : Nat → Bool, (∀ x ∈ p0 ++ p1 ++ p2, sp x.block = true) → DataW.TrodAll enc Try.prog W' 0 sp true [25, 25, 40] [.agg #[.int .i64 k, .int .i64 r, .int .i64 l0, .int .i64 l1, .slice A n c], .agg #[.int .i64 k', .int .i64 r', .int .i64 l0', .int .i64 l1', .slice A' n' c'], .agg #[.int .u8 (P : Int), .int .u8 (Q : Int)]] [d0, d1, d2] (p0 ++ p1 ++ p2) := fun sp hsp => by
    rw [List.append_assoc]
    exact trodAll_mk3 (WideElems.Trod_stays movesShapes_laidOut movesShapes_rec movesShapes_rows h0 (fun x hx => hb.same (hlt x (List.mem_append.2 (.inl (List.mem_append.2 (.inl hx)))))) (fun x hx => hsp x (List.mem_append.2 (.inl (List.mem_append.2 (.inl hx))))))
      (WideElems.Trod_stays movesShapes_laidOut movesShapes_rec movesShapes_rows h1 (fun x hx => hb.same (hlt x (List.mem_append.2 (.inl (List.mem_append.2 (.inr hx)))))) (fun x hx => hsp x (List.mem_append.2 (.inl (List.mem_append.2 (.inr hx))))))
      (WideElems.Trod_stays movesShapes_laidOut movesShapes_rec2 movesShapes_rows2 h2 (fun x hx => hb.same (hlt x (List.mem_append.2 (.inr hx)))) (fun x hx => hsp x (List.mem_append.2 (.inr hx))))
  simp only [List.append_nil] at hW'
  exact ⟨_, rfl, post_of_below (pa := p0 ++ p1 ++ p2) (pv := []) hW' (fun _ _ _ => trodAll_mk1 (shut_bool Try.underlying4 true)) (fun sp hsp => hold sp hsp) (fun _ _ => rfl) (by simp) hb
    (ok_one (by kernel_rfl) rfl (okWide_bool_mk Try.underlying4 true))⟩
theorem movesShapes_holds : Rows.MovesShapesSaid :=
  OpenClaim.holds_of_wide 10 Try.f10 rfl rfl rfl rfl rfl rfl rfl ⟨rfl, rfl, rfl, rfl, rfl⟩ rfl rfl rfl rfl rfl (by kernel_rfl) Try.func10 (by kernel_rfl)
    (of_decide_eq_true (by kernel_rfl)) (by unfold Func.isWrapper; rw [if_neg (by decide +kernel)]; exact ⟨rfl, rfl⟩)
    (fun os started H enc _ => movesShapes_lifted os started H enc)
end Go.Proofs.Ytoapgknkenlcgaa

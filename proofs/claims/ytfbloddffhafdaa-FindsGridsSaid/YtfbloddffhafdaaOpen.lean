/-
  An argument that is an api.Array, opened; the row's post from 'Below'.
-/
import Derived.Test.YtfbloddffhafdaaBase
import Derived.Test.YtfbloddffhafdaaRows
import Derived.ProofKit
import Derived.Below
import Derived.ChangeSame
import Derived.Deep.Slices
import Derived.OpenShut
namespace Go.Proofs.Ytfbloddffhafdaa
open Go.ChangeShapes Go.WideShapes Go.ChangeAt Go.RowKit Go.Deep

section
variable {H : Type} {enc : TypeId × Value → H}
theorem cells_int : Try.prog.cellsOf 3 = 1 := by kernel_rfl
theorem cells_int64 : Try.prog.cellsOf 2 = 1 := by kernel_rfl
theorem cells_two : Try.prog.cellsOf 22 = 2 := by kernel_rfl
theorem cells_slice : Try.prog.cellsOf 23 = 1 := by kernel_rfl
theorem cells_arr : Try.prog.cellsOf 25 = 5 := by kernel_rfl

theorem wf_bounds {x : Int} (h : (Lit.int .i64 x).wf = true) : -9223372036854775808 ≤ x ∧ x ≤ 9223372036854775807 := by
  simp [Lit.wf] at h
  have h2 : IntKind.i64.min = -9223372036854775808 := by decide
  omega
theorem open_arr {W : World} {base : Nat} {r : Reach} {b0 : Nat} {v : Value} {d : DataW H} {ps : List MemPlace} (hv : Value.okWide Try.prog W r b0 25 v) (h : DataW.Trod enc Try.prog W base (fun _ => true) true 25 v d ps) :
    ∃ (k rk l0 l1 : Int) (A : Option Addr) (n c : Nat) (xs : List Int), v = .agg #[.int .i64 k, .int .i64 rk, .int .i64 l0, .int .i64 l1, .slice A n c] ∧ Sl W A n c xs ∧ (∀ x ∈ xs, -9223372036854775808 ≤ x ∧ x ≤ 9223372036854775807) := by
  obtain ⟨cs, rfl, hsz⟩ := okWide_struct Try.underlying25 hv
  rw [cells_arr] at hsz
  obtain ⟨l⟩ := cs
  obtain ⟨fuel, hf⟩ := h
  obtain ⟨ys, n, _, _, _, hyl, hg⟩ := DataW.trod_struct Try.underlying25 hf
  match l, hsz with
  | [c0, c1, c2, c3, c4], _ =>
    match ys, hyl with
    | [y0, y1, y2, y3], _ =>
      have g0 : DataW.trod enc Try.prog W base (fun _ => true) true n 3 [c0] = some y0 := by simpa [Value.cells, cells_int] using hg 0 _ rfl
      have g1 : DataW.trod enc Try.prog W base (fun _ => true) true n 3 [c1] = some y1 := by simpa [Value.cells, cells_int] using hg 1 _ rfl
      have g2 : DataW.trod enc Try.prog W base (fun _ => true) true n 22 [c2, c3] = some y2 := by simpa [Value.cells, cells_two] using hg 2 _ rfl
      have g3 : DataW.trod enc Try.prog W base (fun _ => true) true n 23 [c4] = some y3 := by simpa [Value.cells, cells_slice] using hg 3 _ rfl
      obtain ⟨k, e0, _⟩ := DataW.trod_int Try.underlying3 g0
      obtain ⟨rk, e1, _⟩ := DataW.trod_int Try.underlying3 g1
      obtain ⟨zs, m, _, _, _, hzl, hz⟩ := DataW.trod_array Try.underlying22 g2
      match zs, hzl with
      | [z0, z1], _ =>
        have a0 : DataW.trod enc Try.prog W base (fun _ => true) true m 3 [c2] = some z0 := by simpa [cells_int] using hz 0 (by omega)
        have a1 : DataW.trod enc Try.prog W base (fun _ => true) true m 3 [c3] = some z1 := by simpa [cells_int] using hz 1 (by omega)
        obtain ⟨l0, e2, _⟩ := DataW.trod_int Try.underlying3 a0
        obtain ⟨l1, e3, _⟩ := DataW.trod_int Try.underlying3 a1
        simp only [List.cons.injEq, and_true] at e0 e1 e2 e3
        subst e0 e1 e2 e3
        rcases open_ints Try.underlying23 Try.underlying2 cells_int64 g3 with ⟨e4, _⟩ | ⟨a, len, cap, xs, e4, _, hlc, hmx, hxl, _, hc, hw⟩
        · simp only [List.cons.injEq, and_true] at e4
          subst e4
          exact ⟨k, rk, l0, l1, none, 0, 0, [], rfl, Sl.nil W, fun x hx => by cases hx⟩
        · simp only [List.cons.injEq, and_true] at e4
          subst e4
          rw [if_pos rfl] at hxl
          refine ⟨k, rk, l0, l1, some a, len, cap, xs.take len, rfl, ⟨by rw [List.length_take]; omega, hlc, hmx, fun hl => ?_⟩, fun x hx => wf_bounds (hw x (List.mem_of_mem_take hx))⟩
          have h0 := hc 0 (by omega)
          obtain ⟨b, o, sp⟩ := a
          have hsp : sp = none := by
            cases sp with
            | none => rfl
            | some s =>
              simp [World.cell?, Addr.add] at h0
              split at h0 <;> simp at h0
          subst hsp
          have hb : b < W.heap.size := by
            rcases Nat.lt_or_ge b W.heap.size with h | h
            · exact h
            · simp [World.cell?, Addr.add, Array.getElem?_eq_none h] at h0
          refine ⟨b, o, rfl, hb, fun j hj => ?_⟩
          have hj2 := hc j (by omega)
          rw [Addr.add_lit] at hj2
          rw [hj2]
          simp [List.getD, hj]
end

section
variable {H : Type} {enc : TypeId × Value → H} {P : Program}
theorem post_of_below {f : Func} {s : ChangeSpec} {apart fresh handsOn again : Bool} {W W' : World} {args : Array Value} {v : Value} {ds gs : List (DataW H)} {before pa pv : List MemPlace}
    (hW : DataW.Whole enc P f.params.toList s.vars apart W args.toList ds gs before)
    (hres : ∀ (b : Nat) (sp : Nat → Bool) (hd : Bool), DataW.TrodAll enc P W' b sp hd f.resultTypes.toList (v.resultList f.resultTypes.size) (s.fn H (ds ++ gs)).results [])
    (hargs : ∀ sp : Nat → Bool, (∀ p ∈ before, sp p.block = true) → DataW.TrodAll enc P W' 0 sp true f.params.toList args.toList (s.fn H (ds ++ gs)).args pa)
    (hvars : ∀ sp : Nat → Bool, (∀ p ∈ before, sp p.block = true) → DataW.TrodVars enc P W' sp s.vars (s.fn H (ds ++ gs)).vars pv)
    (hps : before = pa ++ pv) (hb : Below W.heap.size W W')
    (hok : ∀ (j : Nat) (t : TypeId) (r : Value), f.resultTypes[j]? = some t → (v.resultList f.resultTypes.size)[j]? = some r → Value.okWide P W' .any 0 t r) :
    s.post enc P f apart fresh handsOn again W args v W' := by
  have hlt : ∀ p ∈ before, p.block < W.heap.size := fun p hp => hW.lt p hp
  have hold : ∀ p ∈ before, (fun b => decide (b < W.heap.size)) p.block = true := fun p hp => by simpa using hlt p hp
  refine ⟨ds, gs, before, [], pa, pv, hW, hres _ _ _, hargs _ hold, hvars _ hold, World.keptBut_mono (fun p hp => ⟨hp, ?_⟩) (hb.frame (· ∈ before)), fun _ => ?_⟩
  · rw [hps, List.mem_append] at hp
    exact Or.inr hp
  · obtain ⟨_, _, _, _, _, hz, hn⟩ := hW
    refine ⟨hok, _, _, ([] ++ pa) ++ pv, ⟨[] ++ pa, pv, trodAll_append (hargs _ (fun _ _ => rfl)) (hres _ _ _), hvars _ (fun _ _ => rfl), rfl, ?_, ?_⟩, ?_⟩
    · intro b off hp
      have hin : MemPlace.cell b off ∈ before := by rw [hps]; simpa using hp
      rw [hb.frozen (hlt _ hin)]
      exact hz b off hin
    · intro ha
      have := hn ha
      rw [hps] at this
      simpa using this
    · intro p hp _
      rw [hps]
      simpa using hp
end
end Go.Proofs.Ytfbloddffhafdaa

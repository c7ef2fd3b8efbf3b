/-
  MovesJoins: for every three arrays it returns true, and all read as before.
  Conditions: none beyond the given row's own.
-/
import Derived.Test.YtoapgknkenlcgaaRows
import Derived.Test.YtoapgknkenlcgaaChecked
import Derived.Test.YtoapgknkenlcgaaOpen
import Derived.Test.YtoapgknkenlcgaaLjoin
import Derived.Test.YtoapgknkenlcgaaMjoin
import Derived.ProofKit
namespace Go.Proofs.Ytoapgknkenlcgaa
open Go.ChangeShapes Go.WideShapes Go.ChangeAt Go.RowKit

theorem lawJoins_any (ka ra ua va : Int) (Aa : Option Addr) (na ca : Nat) (xsa : List Int) (kb rb ub vb : Int) (Ab : Option Addr) (nb cb : Nat) (xsb : List Int) (kd rd ud vd : Int) (Ad : Option Addr) (nd cd : Nat) (xsd : List Int) (w : World) (hsa : Sl w Aa na ca xsa) (hsb : Sl w Ab nb cb xsb) (hsd : Sl w Ad nd cd xsd) :
    Calls Try.prog 8 #[.agg #[.int .i64 ka, .int .i64 ra, .int .i64 ua, .int .i64 va, .slice Aa na ca], .agg #[.int .i64 kb, .int .i64 rb, .int .i64 ub, .int .i64 vb, .slice Ab nb cb], .agg #[.int .i64 kd, .int .i64 rd, .int .i64 ud, .int .i64 vd, .slice Ad nd cd]] w fun e w' => e = .returned (.bool true) ∧ Below w.heap.size w w' := by
  by_cases hfa : 405 < na
  · exact join_fa ka ra ua va Aa na ca xsa kb rb ub vb Ab nb cb xsb kd rd ud vd Ad nd cd xsd w hsa hsb hsd hfa
  by_cases hfb : 405 < nb
  · exact join_fb ka ra ua va Aa na ca xsa kb rb ub vb Ab nb cb xsb kd rd ud vd Ad nd cd xsd w hsa hsb hsd hfa hfb
  by_cases hfd : 405 < nd
  · exact join_fd ka ra ua va Aa na ca xsa kb rb ub vb Ab nb cb xsb kd rd ud vd Ad nd cd xsd w hsa hsb hsd hfa hfb hfd
  obtain ⟨⟨⟨k1, r1, u1, v1, xs1⟩, e1⟩, h1⟩ : ∃ R, sCat ⟨ka, ra, ua, va, xsa⟩ ⟨kb, rb, ub, vb, xsb⟩ = R := ⟨_, rfl⟩
  obtain ⟨⟨⟨k2, r2, u2, v2, xs2⟩, e2⟩, h2⟩ : ∃ R, sCat ⟨kb, rb, ub, vb, xsb⟩ ⟨kd, rd, ud, vd, xsd⟩ = R := ⟨_, rfl⟩
  by_cases z1 : e1 = 0
  · by_cases z2 : e2 = 0
    · have hz1 : catE ⟨ka, ra, ua, va, xsa⟩ ⟨kb, rb, ub, vb, xsb⟩ = 0 := by
        by_cases e : catE ⟨ka, ra, ua, va, xsa⟩ ⟨kb, rb, ub, vb, xsb⟩ = 0
        · exact e
        · rw [sCat_err e] at h1
          have := congrArg Prod.snd h1
          exact absurd (this.trans z1) e
      have hz2 : catE ⟨kb, rb, ub, vb, xsb⟩ ⟨kd, rd, ud, vd, xsd⟩ = 0 := by
        by_cases e : catE ⟨kb, rb, ub, vb, xsb⟩ ⟨kd, rd, ud, vd, xsd⟩ = 0
        · exact e
        · rw [sCat_err e] at h2
          have := congrArg Prod.snd h2
          exact absurd (this.trans z2) e
      obtain ⟨m, q, q', ha, hb, hk, hr, hr0, hl1, hq1⟩ := catE_zero hz1
      obtain ⟨m', q1, q2, hb', hd, hk2, hr2, _, hl2, hq2⟩ := catE_zero hz2
      obtain ⟨rfl, rfl⟩ := okA_one hb hb'
      have c1 := sCat_ok ha hb hk hr hr0 hl1 hq1
      have c2 := sCat_ok hb hd hk2 hr2 (show rb ≠ 0 from fun e => hr0 (hr.trans e)) hl2 hq2
      have asc := sCat_assoc ha hb hd hk hr hk2 hr2 hr0 hl1 hq1 hl2 hq2
      have hab := okA_cat ha hb hk hr hl1 hq1
      have rab := rev_ok hab (by rw [catA_r ha]; exact hr0)
      have raq := rev_ok ha hr0
      have rb' := rev_ok hb (show rb ≠ 0 from fun e => hr0 (hr.trans e))
      have cr := sCat_rev ha hb hk hr hr0 hl1 hq1
      rw [c1] at h1
      rw [c2] at h2
      have g1 := congrArg Prod.fst h1
      have g2 := congrArg Prod.fst h2
      simp only at g1 g2
      rw [g1, g2] at asc
      rw [g1] at rab cr
      obtain ⟨⟨⟨k3, r3, u3, v3, xs3⟩, e3⟩, h3⟩ : ∃ R, sCat ⟨k1, r1, u1, v1, xs1⟩ ⟨kd, rd, ud, vd, xsd⟩ = R := ⟨_, rfl⟩
      subst z1 z2
      exact join_good ka ra ua va Aa na ca xsa kb rb ub vb Ab nb cb xsb kd rd ud vd Ad nd cd xsd w hsa hsb hsd hfa hfb hfd k1 r1 u1 v1 xs1 k2 r2 u2 v2 xs2 k3 r3 u3 v3 xs3 k1 r1 u1 v1 (rv m (q + q') xs1) ka ra ua va (rv m q xsa) kb rb ub vb (rv m q' xsb) e3
        (c1.trans h1) (c2.trans h2) h3 (asc.symm.trans h3) rab raq rb' cr
    · exact join_bad ka ra ua va Aa na ca xsa kb rb ub vb Ab nb cb xsb kd rd ud vd Ad nd cd xsd w hsa hsb hsd hfa hfb hfd k1 r1 u1 v1 xs1 k2 r2 u2 v2 xs2 e1 e2 h1 h2 (.inr ⟨by simp [z1], by simpa using z2⟩)
  · exact join_bad ka ra ua va Aa na ca xsa kb rb ub vb Ab nb cb xsb kd rd ud vd Ad nd cd xsd w hsa hsb hsd hfa hfb hfd k1 r1 u1 v1 xs1 k2 r2 u2 v2 xs2 e1 e2 h1 h2 (.inl (by simpa using z1))

theorem movesJoins_own : ownKnob Try.prog.godebug = none := by kernel_rfl
theorem movesJoins_laidOut : laidOutB Try.prog = true := by kernel_rfl
theorem movesJoins_rec : Try.prog.readableRec 25 = true := by kernel_rfl
theorem movesJoins_rows : 25 < Try.prog.types.size := of_decide_eq_true (by kernel_rfl)
set_option maxRecDepth 100000 in
theorem movesJoins_lifted (os : Os) (started : os.Started) (H : Type) (enc : TypeId × Value → H) :
    ReturnsInHanded {} Try.checked os 8 .any (Rows.movesJoinsSpec.pre6 enc Try.prog Try.f8 Rows.movesJoinsRow.domain false) (Rows.movesJoinsSpec.post enc Try.prog Try.f8 false true false false) := by
  refine returnsInHanded_of_change (C := Try.checked) movesJoins_own started (by kernel_rfl) Try.func8
    (ChangeSpec.witness6 (enc := enc) (C := Try.checked) false ⟨#[], #[.agg #[.int .i64 0, .int .i64 0, .int .i64 0, .int .i64 0, .slice none 0 0], .agg #[.int .i64 0, .int .i64 0, .int .i64 0, .int .i64 0, .slice none 0 0], .agg #[.int .i64 0, .int .i64 0, .int .i64 0, .int .i64 0, .slice none 0 0]], []⟩ 8 (by kernel_rfl) (by kernel_rfl) (by kernel_rfl) (by kernel_rfl)) ?_
  intro W base args ds gs before hval0 hW hcnd _
  have hval : ∀ (j : Nat) t v, Try.f8.params[j]? = some t → args[j]? = some v → Value.okWide Try.prog W .any base t v := hval0
  have hW' := hW
  obtain ⟨p, q, hA0, hV, rfl, hfz, hnd⟩ := hW
  have hA : DataW.TrodAll enc Try.prog W 0 (fun _ => true) true Try.f8.params.toList args.toList ds p := hA0
  rw [Try.params8] at hA hval
  obtain ⟨v0, v1, v2, d0, d1, d2, p0, p1, p2, rfl, rfl, rfl, h0, h1, h2⟩ := trodAll_three hA
  obtain ⟨rfl, rfl⟩ := trodVars_none hV
  obtain ⟨k, r, l0, l1, A, n, c, xs, rfl, hs0, hw0⟩ := open_arr (hval 0 25 v0 rfl rfl) h0
  obtain ⟨k', r', l0', l1', A', n', c', ys, rfl, hs1, hw1⟩ := open_arr (hval 1 25 v1 rfl rfl) h1
  obtain ⟨k2, r2, m0, m1, A2, n2, c2, zs, rfl, hs2, hw2⟩ := open_arr (hval 2 25 v2 rfl rfl) h2
  clear hA0 hval0
  have hlt : ∀ x ∈ p0 ++ p1 ++ p2, x.block < W.heap.size := fun x hx => hW'.lt x (by simpa using hx)
  refine (lawJoins_any k r l0 l1 A n c xs k' r' l0' l1' A' n' c' ys k2 r2 m0 m1 A2 n2 c2 zs W hs0 hs1 hs2).mono fun e W' ⟨he, hb⟩ => ?_
  subst he
  have hold : ∀ sp : Nat → Bool, (∀ x ∈ p0 ++ p1 ++ p2, sp x.block = true) → DataW.TrodAll enc Try.prog W' 0 sp true [25, 25, 25] [.agg #[.int .i64 k, .int .i64 r, .int .i64 l0, .int .i64 l1, .slice A n c], .agg #[.int .i64 k', .int .i64 r', .int .i64 l0', .int .i64 l1', .slice A' n' c'], .agg #[.int .i64 k2, .int .i64 r2, .int .i64 m0, .int .i64 m1, .slice A2 n2 c2]] [d0, d1, d2] (p0 ++ p1 ++ p2) := fun sp hsp => by
    rw [List.append_assoc] at hsp hlt ⊢
    exact trodAll_mk3 (WideElems.Trod_stays movesJoins_laidOut movesJoins_rec movesJoins_rows h0 (fun x hx => hb.same (hlt x (List.mem_append.2 (.inl hx)))) (fun x hx => hsp x (List.mem_append.2 (.inl hx))))
      (WideElems.Trod_stays movesJoins_laidOut movesJoins_rec movesJoins_rows h1 (fun x hx => hb.same (hlt x (List.mem_append.2 (.inr (List.mem_append.2 (.inl hx)))))) (fun x hx => hsp x (List.mem_append.2 (.inr (List.mem_append.2 (.inl hx))))))
      (WideElems.Trod_stays movesJoins_laidOut movesJoins_rec movesJoins_rows h2 (fun x hx => hb.same (hlt x (List.mem_append.2 (.inr (List.mem_append.2 (.inr hx)))))) (fun x hx => hsp x (List.mem_append.2 (.inr (List.mem_append.2 (.inr hx))))))
  simp only [List.append_nil] at hW'
  exact ⟨_, rfl, post_of_below (pa := p0 ++ p1 ++ p2) (pv := []) hW' (fun _ _ _ => trodAll_mk1 (shut_bool Try.underlying4 true)) (fun sp hsp => hold sp hsp) (fun _ _ => rfl) (by simp) hb
    (ok_one (by kernel_rfl) rfl (okWide_bool_mk Try.underlying4 true))⟩
theorem movesJoins_holds : Rows.MovesJoinsSaid :=
  OpenClaim.holds_of_wide 8 Try.f8 rfl rfl rfl rfl rfl rfl rfl ⟨rfl, rfl, rfl, rfl, rfl⟩ rfl rfl rfl rfl rfl (by kernel_rfl) Try.func8 (by kernel_rfl)
    (of_decide_eq_true (by kernel_rfl)) (by unfold Func.isWrapper; rw [if_neg (by decide +kernel)]; exact ⟨rfl, rfl⟩)
    (fun os started H enc _ => movesJoins_lifted os started H enc)
end Go.Proofs.Ytoapgknkenlcgaa

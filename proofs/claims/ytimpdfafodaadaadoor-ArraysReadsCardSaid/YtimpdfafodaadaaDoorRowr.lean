/-
  The reference's Rows.
-/
import Derived.Test.YtimpdfafodaadaaDoorRowp
namespace Go.Proofs.YtimpdfafodaadaaDoor
open Go.RowKit
attribute [local go_sem] Oper.semAt_some

theorem own_ne_own {w : World} {b1 b2 n1 n2 : Nat} {E1 E2 : TypeId} {v1 v2 : Value} {xs1 xs2 : List Value} (h1 : w.ownsRow b1 E1 1 v1 n1 xs1) (h2 : w.ownsRow b2 E2 1 v2 n2 xs2) (hE : E1 ≠ E2) : v1.ownBlock = none ∨ v1.ownBlock ≠ v2.ownBlock := by
  rcases h1.2 with ⟨e1, _⟩ | ⟨g, cap, cur, e1, _, hg, _⟩
  · left; rw [e1]; rfl
  · right
    intro e
    have hx : v2.ownBlock = some g := by rw [← e, e1]; rfl
    exact own_row_ne2 h2 (B := g) (cs := cur) hg (fun h => hE h.symm) hx.symm
/-- The rows that the reference has made: each a row of its own. -/
def OwnR (w : World) (base : Nat) (rs : List RowS) : Prop := ∀ r ∈ rs, w.ownsRow base 2 1 r.val r.xs.length (r.xs.map (Value.int .i64))
theorem OwnR.sl {w : World} {base : Nat} {rs : List RowS} (h : OwnR w base rs) : ∀ r ∈ rs, Sl w r.a r.xs.length r.c r.xs := fun r hr => by
  obtain ⟨A, c, hv, hS, _⟩ := Sl.of_own (h r hr)
  simp only [RowS.val, Value.slice.injEq] at hv
  obtain ⟨rfl, _, rfl⟩ := hv
  exact hS
set_option maxHeartbeats 1000000 in
theorem rRows_any (k r l0 l1 : Int) (A : Option Addr) (n c : Nat) (xs : List Int) (L : List (List Int)) (ec : Int) (w : World) (hs : Sl w A n c xs) (h : sRowsA k r l0 l1 xs = (L, ec)) :
    Calls Tryd.prog 16 #[.agg #[.int .i64 k, .int .i64 r, .int .i64 l0, .int .i64 l1, .slice A n c]] w (RetR w L ec) := by
  have HS := Lib.hid hs
  have HL := Lib.hid hs.len
  have hcap := hs.cap
  have hmx : c ≤ 9223372036854775807 := by have := hs.most; unfold maxLen at this; omega
  clear hs
  unfold sRowsA at h
  by_cases hc : achk k r l0 l1 xs = 0
  · rw [if_neg (fun g => g hc)] at h
    obtain ⟨a, b, hab, hlen, ha, hb4⟩ := rows_nat hc
    rw [hab] at h
    simp only [Int.toNat_natCast] at h
    obtain ⟨rfl, rfl⟩ := Prod.mk.inj h
    have HC := Lib.hid hc
    have HAB := Lib.hid hab
    have hn4 : n ≤ 400 := by rw [← HL.out]; exact achk_len hc
    have HN : Hid (n = a * b) := Lib.hid (by rw [← HL.out, hlen])
    clear h hc hab hlen
    go_enter Tryd.func16, Tryd.ntmps16
    go_wp2_with fail
    refine (racheck_any k r l0 l1 A n c xs 0 _ (HS.out.step (below1 _ _)) HC.out).mono ?_
    rintro e w1 ⟨rfl, hb1⟩
    obtain ⟨X, b1⟩ := after1 hb1
    clear hb1
    have d0 : ∀ i, w1.cell? ⟨w.heap.size, i, none⟩ = _ := Bx.cell X
    have HX := Lib.hid X
    clear X
    go_wp2_with fail
    refine (rrows_any r l0 l1 a b 0 _ HAB.out).mono ?_
    rintro e w2 ⟨rfl, hb1⟩
    have X := Lib.hid (Bx.step HX.out hb1)
    have b2 := bst b1 hb1
    clear hb1 d0 HX b1
    go_wp2
    go_loopw [8, 9] (fun out i wr => ∃ (j : Nat) (V : Option Addr) (vc : Nat) (rs : List RowS), out = .slice V j vc ∧ i = .int .i64 j ∧ j ≤ a ∧ Below w2.heap.size w2 wr ∧ Hid (wr.ownsRow w2.heap.size 23 1 (.slice V j vc) j (rs.map RowS.val)) ∧ Hid (xsOf rs = chunks j b xs) ∧ Hid (OwnR wr w2.heap.size rs)) (fun _ i _ => a - (intOf i).toNat)
    case atStart => exact ⟨0, none, 0, [], rfl, rfl, Nat.zero_le _, Below.refl _ _, Lib.hid (World.ownsRow_nil _ _ _ _), Lib.hid rfl, Lib.hid (fun r hr => by cases hr)⟩
    case round =>
      obtain ⟨j, V, vc, rs, rfl, rfl, hj, hb, HO, HXS, HRS⟩ := hrel
      by_cases hlt : j < a
      · have hjn : (j : Int) < (a : Int) := by omega
        obtain ⟨p, hp⟩ : ∃ p, j * b = p := ⟨_, rfl⟩
        obtain ⟨q, hq⟩ : ∃ q, (j + 1) * b = q := ⟨_, rfl⟩
        have hpq : q = p + b := by rw [← hq, ← hp, Nat.succ_mul]
        have hqn : q ≤ n := by rw [HN.out, ← hq]; exact Nat.mul_le_mul_right b hlt
        have e1 : (j : Int) * (b : Int) = (p : Int) := by rw [← hp]; simp
        have e2 : ((j : Int) + 1) * (b : Int) = (q : Int) := by rw [← hq]; simp
        have HP := Lib.hid hp
        have HQ := Lib.hid hq
        have i1 : (p : Int) ≤ (q : Int) := by omega
        have i2 : (q : Int) ≤ (c : Int) := by omega
        have i3 : (p : Int) ≤ (c : Int) := by omega
        have b0 := bst b2 hb
        have hz := hb.size
        have d0 : ∀ i, wr.cell? ⟨w.heap.size, i, none⟩ = _ := Bx.cell (Bx.step X.out hb)
        have d1 : ∀ i, (wr.alloc (.cells #[] 2)).cell? ⟨w.heap.size, i, none⟩ = _ := Bx.cell (Bx.step (Bx.step X.out hb) (below1 _ _))
        have HPQ := Lib.hid hpq
        have HE1 := Lib.hid (ownEmpty wr w2.heap.size wr.heap.size rfl hz)
        have hSL := ((HS.out.step (bst b0 (below1 wr (.cells #[] 2)))).from (q := p) (by omega)).to (q := q - p) (by omega)
        obtain ⟨RA, hRA⟩ : ∃ RA, (if c = p then A else A.map (·.add p)) = RA := ⟨_, rfl⟩
        rw [hRA] at hSL
        have HSL := Lib.hid hSL
        clear hSL
        have HZ1 := Lib.hid (show w2.heap.size ≤ (wr.alloc (.cells #[] 2)).heap.size by rw [World.size_alloc]; omega)
        have HOE := Lib.hid (HO.out.alloc (.cells #[] 2))
        have hsm : 0 + (q - p) ≤ 10000000 := by omega
        clear hp hq hpq
        go_wp2_with (at_builtin; refine wpList_append_sl rfl _ _ rfl rfl w2.heap.size _ 0 [] rfl HE1.out _ (q - p) (c - p) _ rfl HSL.out hsm HZ1.out ?_)
        all_goals
          intro A3 c3 w3 hg3
          have hly : ((xs.drop p).take (q - p)).length = q - p := HSL.out.len
          have HG3 := Lib.hid hg3
          have b3 : Below w2.heap.size w2 w3 := hg3.below (bal hb _) (fun k hk => (HE1.out.lt k hk).1)
          have HO3 := Lib.hid (HOE.out.kept hg3.2.2 (own_ne_own HOE.out HE1.out (by decide)))
          have HRN : Hid (OwnR w3 w2.heap.size (rs ++ [(⟨A3, c3, (xs.drop p).take (q - p)⟩ : RowS)])) := Lib.hid (fun y hy => by
            rcases List.mem_append.1 hy with h1 | h1
            · exact ((HRS.out y h1).alloc _).kept hg3.2.2 (.inr (fun e => by have := ((HRS.out y h1).lt wr.heap.size e).2; omega))
            · obtain rfl := List.mem_singleton.1 h1
              have := hg3.1
              simpa [RowS.val, hly] using this)
          have HLY := Lib.hid hly
          have hzz := b3.size
          have HOA := Lib.hid (HO3.out.alloc (.cells #[.slice A3 (q - p) c3] 23))
          have HZA := Lib.hid (show w2.heap.size ≤ (w3.alloc (.cells #[.slice A3 (q - p) c3] 23)).heap.size by rw [World.size_alloc]; omega)
          have HCA := Lib.hid ((Bx.new w3 #[.slice A3 (q - p) c3] 23).cell 0)
          clear hg3 hly HOE HZ1 HSL HE1 hsm d0 d1 HRS HO
          go_wp2_with (at_builtin; refine wpList_append_row rfl _ _ rfl w2.heap.size _ j (rs.map RowS.val) rfl HOA.out w3.heap.size (.slice A3 (q - p) c3) rfl rfl HCA.out (by omega) HZA.out ?_)
          intro A4 c4 w4 hO4 hg4
          have b4 : Below w2.heap.size w2 w4 := Below.grown (bal b3 _) hg4 (bal b3 (.cells #[.slice A3 (q - p) c3] 23)).size (fun k hk => by have := (HO3.out.lt k hk).1; omega)
          have HO5 : Hid (w4.ownsRow w2.heap.size 23 1 (.slice A4 (j + 1) c4) (j + 1) ((rs ++ [(⟨A3, c3, (xs.drop p).take (q - p)⟩ : RowS)]).map RowS.val)) := Lib.hid (by
            rw [List.map_append]
            simpa [RowS.val, HLY.out] using hO4)
          have HX5 : Hid (xsOf (rs ++ [(⟨A3, c3, (xs.drop p).take (q - p)⟩ : RowS)]) = chunks (j + 1) b xs) := Lib.hid (by
            have h1 := HXS.out
            unfold chunks at h1 ⊢
            rw [List.range_succ, List.map_append, ← h1]
            have h2 : q - p = b := by have := HPQ.out; omega
            simp [xsOf, h2, HP.out])
          have HR5 : Hid (OwnR w4 w2.heap.size (rs ++ [(⟨A3, c3, (xs.drop p).take (q - p)⟩ : RowS)])) := Lib.hid (fun y hy => ((HRN.out y hy).alloc _).kept hg4 (own_ne_own ((HRN.out y hy).alloc _) HOA.out (by decide)))
          clear hO4 hg4 HOA HZA HCA HO3 HLY
          go_wp2
          go_round
          case rel => exact ⟨j + 1, A4, c4, _, rfl, by go_num, by omega, b4, HO5, HX5, HR5⟩
          case measure => simp [intOf]; omega
      · obtain rfl : j = a := by omega
        go_wp2
        go_ret2
        exact ⟨V, j, vc, rs, rfl, SlR.of_own HO.out HRS.out.sl, HXS.out, bst b2 hb⟩
  · rw [if_pos hc] at h
    obtain ⟨rfl, he⟩ := Prod.mk.inj h
    have HE := Lib.hid he
    have hne : (ec != 0) = true := by rw [← he]; simpa using hc
    clear h he hc
    go_enter Tryd.func16, Tryd.ntmps16
    go_wp2_with fail
    refine (racheck_any k r l0 l1 A n c xs ec _ (HS.out.step (below1 _ _)) HE.out).mono ?_
    rintro e w1 ⟨rfl, hb1⟩
    go_wp2
    go_ret2
    exact ⟨none, 0, 0, [], rfl, SlR.nil _, rfl, bst (below1 _ _) hb1⟩
end Go.Proofs.YtimpdfafodaadaaDoor

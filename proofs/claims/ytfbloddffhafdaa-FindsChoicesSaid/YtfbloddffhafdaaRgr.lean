/-
  The reference's Grade.
-/
import Derived.Test.YtfbloddffhafdaaRsi
import Derived.Test.YtfbloddffhafdaaFgrd
namespace Go.Proofs.Ytfbloddffhafdaa
open Go.RowKit

/-- How many of the first k places come before place i. -/
def rkL (c : List Int) (i k : Nat) : Nat := (iotaL k).countP (fun y => gLt c y (i : Int))
theorem rkL_succ (c : List Int) (i k : Nat) : rkL c i (k + 1) = rkL c i k + if gLt c (k : Int) (i : Int) = true then 1 else 0 := by
  unfold rkL; rw [iotaL_succ, List.countP_append]
  by_cases h : gLt c (k : Int) (i : Int) = true
  · simp [h]
  · simp [h]
theorem ascL_count {c l : List Int} (h : ascL (keyOf c) l) : ∀ p, p < l.length → l.countP (fun y => gLt c y (l.getD p 0)) = p := by
  induction l with
  | nil => intro p hp; simp at hp
  | cons x l ih =>
    intro p hp
    cases p with
    | zero =>
      rw [List.countP_eq_zero]
      intro y hy
      simp only [List.getD_cons_zero]
      intro g
      have g' := (gLt_iff c y x).1 g
      rcases List.mem_cons.1 hy with rfl | hy
      · exact plt.irr g'
      · exact plt.irr ((h.1 y hy).trans g')
    | succ p =>
      have hp' : p < l.length := by simpa using hp
      rw [List.getD_cons_succ, List.countP_cons, ih h.2 p hp']
      have : gLt c x (l.getD p 0) = true := (gLt_iff c _ _).2 (h.1 _ (by rw [getD_get hp']; exact List.getElem_mem hp'))
      rw [if_pos this]
theorem rk_pos (c : List Int) (p : Nat) (hp : p < c.length) : ∃ i : Nat, i < c.length ∧ (gradeL c).getD p 0 = (i : Int) ∧ rkL c i c.length = p := by
  have hl : p < (gradeL c).length := by rw [gradeL_len]; exact hp
  have hm := mem_gradeL.1 (show (gradeL c).getD p 0 ∈ gradeL c by rw [getD_get hl]; exact List.getElem_mem hl)
  refine ⟨((gradeL c).getD p 0).toNat, by omega, by omega, ?_⟩
  unfold rkL
  rw [show (((gradeL c).getD p 0).toNat : Int) = (gradeL c).getD p 0 by omega, ← (gradeL_perm c).countP_eq]
  exact ascL_count (gradeL_asc c) p hl
theorem rk_get (c : List Int) (i : Nat) (hi : i < c.length) : rkL c i c.length < c.length ∧ (gradeL c).getD (rkL c i c.length) 0 = (i : Int) := by
  obtain ⟨p, hp, e⟩ := List.getElem_of_mem (mem_gradeL.2 (show 0 ≤ (i : Int) ∧ (i : Int) < c.length by omega))
  have hp' : p < c.length := by rwa [gradeL_len] at hp
  obtain ⟨i', h1, h2, h3⟩ := rk_pos c p hp'
  rw [getD_get hp, e] at h2
  have : i = i' := by omega
  subst this
  rw [h3]
  exact ⟨hp', by rw [getD_get hp]; exact e⟩
theorem rkL_le (c : List Int) (i k : Nat) : rkL c i k ≤ k := by
  unfold rkL
  have := List.countP_le_length (p := fun y => gLt c y (i : Int)) (l := iotaL k)
  rwa [iotaL_len] at this

set_option maxHeartbeats 1000000 in
theorem rgrade_any (k r l0 l1 : Int) (A : Option Addr) (n c : Nat) (xs : List Int) (R : Arr × Int) (w : World) (hs : Sl w A n c xs) (h : sGrade ⟨k, r, l0, l1, xs⟩ = R) :
    Calls Try.prog 25 #[.agg #[.int .i64 k, .int .i64 r, .int .i64 l0, .int .i64 l1, .slice A n c]] w (RetA w R) := by
  obtain ⟨er, her⟩ : ∃ er, fE (k == 1) (r == 1) (achk k r l0 l1 xs) = er := ⟨_, rfl⟩
  unfold sGrade gradeE chkA at h
  simp only [her] at h
  have HE := Lib.hid her
  have HS := Lib.hid hs
  clear hs
  by_cases h0 : er = 0
  · subst h0
    obtain ⟨hec, hk, hr⟩ := fE_zero her
    obtain rfl : k = 1 := by simpa using hk
    obtain rfl : r = 1 := by simpa using hr
    rw [if_neg (fun g => g rfl)] at h
    have hn4 : n ≤ 400 := by rw [← HS.out.len]; exact achk_len hec
    have hlen := HS.out.len
    rw [hlen] at h
    have HR := Lib.hid h
    have HL := Lib.hid hlen
    clear her hk hr hec h hlen
    obtain ⟨i0, hi, hz0, hz1, hz2⟩ := info_parts infoI64
    go_enter Try.func25, Try.ntmps25
    go_wp2_with fail
    refine (rone_any _ _ _ _ _ _ _ xs 1 _ _ (HS.out.step (below2 _ _ _)) HE.out).mono ?_
    rintro e w1 ⟨rfl, hb1⟩
    obtain ⟨X0, X1, b1⟩ := after2 hb1
    clear hb1
    have g1 : ∀ i, w1.cell? ⟨w.heap.size + 1, i, none⟩ = _ := Bx.cell X1
    have f1 : ∀ i, w1.frozen? ⟨w.heap.size + 1, i, none⟩ = false := Bx.frozen X1
    have q1 := Bx.lt X1
    clear g1 f1
    have g0 : ∀ i, w1.cell? ⟨w.heap.size, i, none⟩ = _ := Bx.cell X0
    go_wp2_with (with_reducible refine wpList_make_row _ rfl _ _ 23 rfl 2 i0 (.int .i64 0) Try.underlying23 hi hz0 hz1 rfl .i64 .i64 n rfl rfl (by rw [hz2]; omega) (by omega) ?_)
    have HB : Bf (w1.alloc (Obj.cells (madeCells #[Value.int IntKind.i64 0] n) 2)) w1.heap.size n (fun _ => 0) := bf_made w1 n
    have b2 : Below w.heap.size w (w1.alloc (Obj.cells (madeCells #[Value.int IntKind.i64 0] n) 2)) := bal b1 _
    replace X0 := Bx.alloc X0 (Obj.cells (madeCells #[Value.int IntKind.i64 0] n) 2)
    replace X1 := Bx.alloc X1 (Obj.cells (madeCells #[Value.int IntKind.i64 0] n) 2)
    obtain ⟨w2, hw2⟩ : ∃ w2, w1.alloc (Obj.cells (madeCells #[Value.int IntKind.i64 0] n) 2) = w2 := ⟨_, rfl⟩
    rw [hw2] at HB b2 X0 X1
    rw [hw2]
    obtain ⟨B, hB⟩ : ∃ B, w1.heap.size = B := ⟨_, rfl⟩
    rw [hB] at HB q1
    rw [hB]
    have hG : GrI w B l0 l1 A n c (fun _ => 0) w2 := ⟨b2, X0, X1, HB⟩
    have HG := Lib.hid hG
    have HSO := Lib.hid (grade_sort w B l0 l1 A n c xs HS.out (by omega))
    clear g0 hw2 hB X0 X1 b1 b2 HB hG
    go_loopw [6, 7, 8] (fun i _ _ wr => ∃ (j : Nat) (F : Nat → Int), i = .int .i64 j ∧ j ≤ n ∧ Hid (GrI w B l0 l1 A n c F wr) ∧ Hid (∀ i', i' < j → F (rkL xs i' n) = (i' : Int))) (fun i _ _ _ => n - (intOf i).toNat)
    case atStart => exact ⟨0, _, rfl, Nat.zero_le _, HG, Lib.hid (fun i' h => absurd h (Nat.not_lt_zero _))⟩
    case round =>
      clear HG
      obtain ⟨j, F, rfl, hj, HG, HF⟩ := hrel
      have d0 : ∀ i, wr.cell? ⟨w.heap.size, i, none⟩ = _ := Bx.cell HG.out.2.1
      by_cases hlt : j < n
      · have k1 : (j : Int) < (n : Int) := by omega
        have k0 : (0 : Int) ≤ (j : Int) := by omega
        obtain ⟨b, o, rfl, hbl, hc1⟩ := HS.out.at_ hlt
        obtain ⟨y, hy⟩ : ∃ y, xs.getD j 0 = y := ⟨_, rfl⟩
        rw [hy] at hc1
        have HY := Lib.hid hy
        have HC1 := Lib.hid hc1
        clear hy hc1
        go_wp2
        clear d0
        go_loopw [7, 8] (fun t i wr => ∃ (i' T : Nat), i = .int .i64 i' ∧ t = .int .i64 T ∧ i' ≤ n ∧ Hid (rkL xs j i' = T) ∧ Hid (GrI w B l0 l1 (some ⟨b, o, none⟩) n c F wr)) (fun _ i _ => n - (intOf i).toNat)
        case atStart => exact ⟨0, 0, rfl, rfl, Nat.zero_le _, Lib.hid rfl, HG⟩
        case round =>
          clear HG
          obtain ⟨i, t, rfl, rfl, hin, HTT, HG2⟩ := hrel
          by_cases hlt2 : i < n
          · have i1 : (i : Int) < (n : Int) := by omega
            have i0' : (0 : Int) ≤ (i : Int) := by omega
            have hc0' := HS.out.at_ hlt2
            obtain ⟨b', o', hbo, _, hc0⟩ := hc0'
            obtain ⟨rfl, rfl⟩ : b = b' ∧ o = o' := by simpa using hbo
            obtain ⟨x, hx⟩ : ∃ x, xs.getD i 0 = x := ⟨_, rfl⟩
            rw [hx] at hc0
            have hc1 := HC1.out
            have hsu := rkL_succ xs j i
            have hle := rkL_le xs j i
            have hgl : gLt xs (i : Int) (j : Int) = decide (x < y ∨ (x = y ∧ (i : Int) < (j : Int))) := by
              unfold gLt
              rw [Int.toNat_natCast, Int.toNat_natCast, hx, HY.out]
            rw [hgl] at hsu
            have dx0 := (HG2.out.1.cell (p := ⟨b, o + i, none⟩) hbl).trans hc0
            have dy0 := (HG2.out.1.cell (p := ⟨b, o + j, none⟩) hbl).trans hc1
            have d0 : ∀ i, wr.cell? ⟨w.heap.size, i, none⟩ = _ := Bx.cell HG2.out.2.1
            rw [HTT.out] at hsu hle
            have ht9 : (t : Int) + 1 ≤ 9223372036854775807 := by omega
            clear hbo hc0 hc1 hx hgl
            by_cases c1 : x < y
            · have hsu2 := Lib.hid hsu
              have C1 := Lib.hid c1
              clear hsu
              go_wp2_with fail
              go_quiet (fail)
              have HG3 := Lib.hid (HSO.out.drew _ _ nq HG2.out)
              go_wp2
              refine ⟨⟨i + 1, _, rfl, rfl, by omega, Lib.hid ?_, HG3⟩, by simp only [intOf]; omega⟩
              have := hsu2.out
              rw [if_pos (decide_eq_true (.inl C1.out))] at this
              exact this
            · have c1d : decide (x < y) = false := decide_eq_false c1
              by_cases c2 : i < j
              · have c2z : (i : Int) < (j : Int) := by omega
                by_cases c3 : x = y
                · have c3z : (x == y) = true := by simpa using c3
                  have hsu2 := Lib.hid hsu
                  have C3 := Lib.hid c3
                  clear hsu c3 c1
                  go_wp2_with fail
                  go_quiet (fail)
                  have HG3 := Lib.hid (HSO.out.drew _ _ nq HG2.out)
                  go_wp2
                  refine ⟨⟨i + 1, _, rfl, rfl, by omega, Lib.hid ?_, HG3⟩, by simp only [intOf]; omega⟩
                  have := hsu2.out
                  rw [if_pos (decide_eq_true (.inr ⟨C3.out, by omega⟩))] at this
                  exact this
                · have c3z : (x == y) = false := by simpa using c3
                  have hsu2 := Lib.hid hsu
                  have C1 := Lib.hid c1
                  have C3 := Lib.hid c3
                  clear hsu c3 c1
                  go_wp2_with fail
                  go_quiet (fail)
                  have HG3 := Lib.hid (HSO.out.drew _ _ nq HG2.out)
                  go_wp2
                  refine ⟨⟨i + 1, _, rfl, rfl, by omega, Lib.hid ?_, HG3⟩, by simp only [intOf]; omega⟩
                  have := hsu2.out
                  rw [if_neg (by simp only [decide_eq_true_eq]; rintro (h | h); exact absurd h (by have := C1.out; omega); exact C3.out h.1)] at this
                  exact this
              · have c2z : decide (i < j) = false := decide_eq_false c2
                have hsu2 := Lib.hid hsu
                have C1 := Lib.hid c1
                have C2 := Lib.hid c2
                clear hsu c1 c2
                go_wp2_with fail
                go_quiet (fail)
                have HG3 := Lib.hid (HSO.out.drew _ _ nq HG2.out)
                go_wp2
                refine ⟨⟨i + 1, _, rfl, rfl, by omega, Lib.hid ?_, HG3⟩, by simp only [intOf]; omega⟩
                have := hsu2.out
                rw [if_neg (by simp only [decide_eq_true_eq]; rintro (h | h); exact absurd h (by have := C1.out; omega); exact absurd h.2 (by have := C2.out; omega))] at this
                exact this
          · obtain rfl : i = n := by omega
            have hrk := rk_get xs j (by rw [HL.out]; exact hlt)
            rw [HL.out] at hrk
            have HRK := Lib.hid hrk
            rw [HTT.out] at hrk
            have t1 : (t : Int) < (i : Int) := by omega
            have t0 : (0 : Int) ≤ (t : Int) := by omega
            have dt := HG2.out.2.2.2.cell (j := t) hrk.1
            have ft := HG2.out.2.2.2.frozen t
            have d0 : ∀ q, wr.cell? ⟨w.heap.size, q, none⟩ = _ := Bx.cell HG2.out.2.1
            clear hrk
            go_wp2
            refine ⟨⟨j + 1, _, rfl, by omega, Lib.hid (HSO.out.set _ _ t (j : Int) HG2.out (by omega)), Lib.hid (fun i' hi' => ?_)⟩, by simp only [intOf]; omega⟩
            unfold updF
            by_cases e : i' = j
            · subst e; rw [if_pos HTT.out]
            · rw [if_neg, HF.out i' (by omega)]
              intro g
              have h2 := rk_get xs i' (by rw [HL.out]; omega)
              rw [HL.out, g, ← HTT.out, HRK.out.2] at h2
              exact e (by have := h2.2; omega)
      · obtain rfl : j = n := by omega
        go_wp2_with fail
        have hgr : ∀ p, p < j → F p = (gradeL xs).getD p 0 := fun p hp => by
          obtain ⟨i, h1, h2, h3⟩ := rk_pos xs p (by rw [HL.out]; exact hp)
          rw [HL.out] at h1 h3
          rw [h2, ← h3]
          exact HF.out i h1
        have S2 := Lib.hid (Bf.sl (xs := gradeL xs) (c := j) (HG.out.2.2.2.congr hgr) (by rw [gradeL_len, HL.out]) (Nat.le_refl _) (by unfold maxLen; omega))
        clear hgr d0
        refine (rVector_any 1 _ _ _ (gradeL xs) _ S2.out (by omega)).mono ?_
        rintro e w3 ⟨⟨A4, n4, c4, rfl, hS4, hN4⟩, hb3⟩
        have b3 := bst HG.out.1 hb3
        have X1 := Bx.step HG.out.2.2.1 hb3
        have HS4 := Lib.hid hS4
        have hne := Lib.hid (fun (b : Nat) (o : Nat) (e : A4 = some ⟨b, o, none⟩) => (show b ≠ w.heap.size + 1 by have := hN4 b o none e; have := Bx.lt HG.out.2.2.1; omega))
        have HN4 := Lib.hid (hN4.mono HG.out.1.size)
        have g1 : ∀ i, w3.cell? ⟨w.heap.size + 1, i, none⟩ = _ := Bx.cell X1
        have f1 : ∀ i, w3.frozen? ⟨w.heap.size + 1, i, none⟩ = false := Bx.frozen X1
        have q3 := Bx.lt X1
        clear hS4 hN4
        go_wp2
        refine retAE (B := w.heap.size + 1) rfl rfl rfl rfl (Bx.set5 X1 _ _ _ _ _) ?_
        exact RetA.mk HR.out.symm (HS4.out.past5 _ _ _ _ _ fun b o e => hne.out b o e) HN4.out (below_set5 b3 (by omega) _ _ _ _ _)
  · rw [if_pos h0] at h
    have HR := Lib.hid h
    have hne : (er != 0) = true := by simpa using h0
    clear h h0 her
    go_enter Try.func25, Try.ntmps25
    go_wp2_with fail
    refine (rone_any _ _ _ _ _ _ _ xs 1 _ _ (HS.out.step (below2 _ _ _)) HE.out).mono ?_
    rintro e w1 ⟨rfl, hb1⟩
    obtain ⟨X0, X1, b1⟩ := after2 hb1
    clear hb1
    have g1 : ∀ i, w1.cell? ⟨w.heap.size + 1, i, none⟩ = _ := Bx.cell X1
    have f1 : ∀ i, w1.frozen? ⟨w.heap.size + 1, i, none⟩ = false := Bx.frozen X1
    have q1 := Bx.lt X1
    go_wp2
    refine retAE (B := w.heap.size + 1) rfl rfl rfl rfl (Bx.set5 X1 _ _ _ _ _) ?_
    exact RetA.mk HR.out.symm (Sl.nil _) (fun _ _ _ h => by cases h) (below_set5 b1 (by omega) _ _ _ _ _)
end Go.Proofs.Ytfbloddffhafdaa

/-
  finds.Grade.
-/
import Derived.Test.YtfbloddffhafdaaFiot
import Derived.Test.YtfbloddffhafdaaFsta
import Derived.WalkSmall
namespace Go.Proofs.Ytfbloddffhafdaa
open Go.RowKit

set_option maxHeartbeats 1000000 in
/-- The comparison that Grade hands to the sort. -/
theorem gcmp_any (vb : Nat) (k r l0 l1 : Int) (A : Option Addr) (n c : Nat) (xs : List Int) (x y : Nat) (w : World) (hs : Sl w A n c xs) (hb : Bx w vb #[.int .i64 k, .int .i64 r, .int .i64 l0, .int .i64 l1, .slice A n c] 25) (hx : x < n) (hy : y < n) :
    Calls Try.prog 42 (#[.int .i64 x, .int .i64 y] ++ #[.pointer (some ⟨vb, 0, none⟩)]) w fun e w' => e = .returned (.int .i64 (cmpI (xs.getD x 0) (xs.getD y 0))) ∧ ∃ q, w' = w.drewN q := by
  have d0 : ∀ i, w.cell? ⟨vb, i, none⟩ = _ := Bx.cell hb
  obtain ⟨b, o, rfl, _, hv0⟩ := hs.at_ hx
  obtain ⟨b', o', h, _, hv1⟩ := hs.at_ hy
  simp only [Option.some.injEq, Addr.mk.injEq] at h
  obtain ⟨rfl, rfl, _⟩ := h
  obtain ⟨u, hu⟩ : ∃ u, xs.getD x 0 = u := ⟨_, rfl⟩
  obtain ⟨v, hv⟩ : ∃ v, xs.getD y 0 = v := ⟨_, rfl⟩
  rw [hu] at hv0 ⊢
  rw [hv] at hv1 ⊢
  have x0 : (x : Int) < (n : Int) := by omega
  have y0 : (y : Int) < (n : Int) := by omega
  clear hs hb hu hv
  show Calls Try.prog 42 #[.int .i64 x, .int .i64 y, .pointer (some ⟨vb, 0, none⟩)] w _
  go_enter Try.func42, Try.ntmps42
  go_wp2_with fail
  go_quiet ((go_at_call 43; exact Calls.quiet_of_same (cmp_i64 u v _)))
  go_wp2
  go_ret
  exact ⟨rfl, nq, rfl⟩

def GrI (w : World) (B : Nat) (l0 l1 : Int) (A : Option Addr) (n c : Nat) (f : Nat → Int) (W : World) : Prop :=
  Below w.heap.size w W ∧ Bx W w.heap.size #[.int .i64 1, .int .i64 1, .int .i64 l0, .int .i64 l1, .slice A n c] 25 ∧ Bx W (w.heap.size + 1) #[.int .i64 0, .int .i64 0, .int .i64 0, .int .i64 0, .slice none 0 0] 25 ∧ Bf W B n f
theorem grade_sort (w : World) (B : Nat) (l0 l1 : Int) (A : Option Addr) (n c : Nat) (xs : List Int) (hs : Sl w A n c xs) (hB : w.heap.size + 1 < B) :
    SortI 42 #[.pointer (some ⟨w.heap.size, 0, none⟩)] (keyOf xs) B n (GrI w B l0 l1 A n c) where
  bf := fun _ _ h => h.2.2.2
  set := fun f W i y h _ => ⟨bsc h.1 (by show _ ≤ B; omega) _, Bx.far h.2.1 (by show _ ≠ B; omega) _, Bx.far h.2.2.1 (by show _ ≠ B; omega) _, h.2.2.2.set i y⟩
  drew := fun _ _ q h => ⟨below_drewN h.1 q, h.2.1, h.2.2.1, h.2.2.2.block rfl⟩
  drew1 := fun _ _ h => ⟨bdr h.1, h.2.1, h.2.2.1, h.2.2.2.block rfl⟩
  en := enters_of Try.func42 (by kernel_rfl) rfl
  cmp := fun f W x y h x0 x1 y0 y1 => by
    obtain ⟨x, rfl⟩ : ∃ z : Nat, x = (z : Int) := ⟨x.toNat, by omega⟩
    obtain ⟨y, rfl⟩ : ∃ z : Nat, y = (z : Int) := ⟨y.toNat, by omega⟩
    exact gcmp_any w.heap.size 1 1 l0 l1 A n c xs x y W (hs.step h.1) h.2.1 (by omega) (by omega)

set_option maxHeartbeats 1000000 in
theorem fgrade_any (k r l0 l1 : Int) (A : Option Addr) (n c : Nat) (xs : List Int) (R : Arr × Int) (w : World) (hs : Sl w A n c xs) (h : sGrade ⟨k, r, l0, l1, xs⟩ = R) :
    Calls Try.prog 24 #[.agg #[.int .i64 k, .int .i64 r, .int .i64 l0, .int .i64 l1, .slice A n c]] w (RetA w R) := by
  obtain ⟨ec, hec⟩ : ∃ ec, achk k r l0 l1 xs = ec := ⟨_, rfl⟩
  unfold sGrade gradeE chkA at h
  simp only [hec] at h
  have HE := Lib.hid hec
  have HS := Lib.hid hs
  have Z0 : Bx (((w.alloc (.cells #[.int .i64 k, .int .i64 r, .int .i64 l0, .int .i64 l1, .slice A n c] 25)).alloc (.cells #[.int .i64 0, .int .i64 0, .int .i64 0, .int .i64 0, .slice none 0 0] 25)).alloc (.cells #[.int .i64 k, .int .i64 r, .int .i64 l0, .int .i64 l1, .slice A n c] 25)) (w.heap.size + 1 + 1) #[.int .i64 k, .int .i64 r, .int .i64 l0, .int .i64 l1, .slice A n c] 25 := by
    have := Bx.new ((w.alloc (.cells #[.int .i64 k, .int .i64 r, .int .i64 l0, .int .i64 l1, .slice A n c] 25)).alloc (.cells #[.int .i64 0, .int .i64 0, .int .i64 0, .int .i64 0, .slice none 0 0] 25)) #[.int .i64 k, .int .i64 r, .int .i64 l0, .int .i64 l1, .slice A n c] 25
    simpa [World.size_alloc] using this
  clear hs
  obtain ⟨er, her⟩ : ∃ er, fE (k == 1) (r == 1) ec = er := ⟨_, rfl⟩
  rw [her] at h
  by_cases h0 : er = 0
  · subst h0
    obtain ⟨rfl, hk, hr⟩ := fE_zero her
    obtain rfl : k = 1 := by simpa using hk
    obtain rfl : r = 1 := by simpa using hr
    rw [if_neg (fun g => g rfl)] at h
    have hn4 : n ≤ 400 := by rw [← HS.out.len]; exact achk_len hec
    rw [HS.out.len] at h
    have HR := Lib.hid h
    clear her hk hr hec h
    obtain ⟨i0, hi, hz0, hz1, hz2⟩ := info_parts infoI64
    go_enter Try.func24, Try.ntmps24
    go_wp2_with fail
    refine (fcheck1 true true _ _ _ _ _ _ _ xs _ _ _ (HS.out.step (below3 _ _ _ _)) HE.out Z0).mono ?_
    rintro e w1 ⟨rfl, hb1⟩
    obtain ⟨X0, X1, X2, b1⟩ := after3 hb1
    clear hb1
    rw [fE_ok]
    have g1 : ∀ i, w1.cell? ⟨w.heap.size + 1, i, none⟩ = _ := Bx.cell X1
    have f1 : ∀ i, w1.frozen? ⟨w.heap.size + 1, i, none⟩ = false := Bx.frozen X1
    have q1 := Bx.lt X1
    clear g1 f1
    have g0 : ∀ i, w1.cell? ⟨w.heap.size, i, none⟩ = _ := Bx.cell X0
    go_wp2_with (with_reducible refine wpList_make_row _ rfl _ _ 23 rfl 2 i0 (.int .i64 0) Try.underlying23 hi hz0 hz1 rfl .i64 .i64 n rfl rfl (by rw [hz2]; omega) (by omega) ?_)
    have HB : Bf (w1.alloc (Obj.cells (madeCells #[Value.int IntKind.i64 0] n) 2)) w1.heap.size n (fun _ => 0) := bf_made w1 n
    have b2 : Below w.heap.size w (w1.alloc (Obj.cells (madeCells #[Value.int IntKind.i64 0] n) 2)) := bal b1 _
    have q2 := Bx.lt X2
    replace X0 := Bx.alloc X0 (Obj.cells (madeCells #[Value.int IntKind.i64 0] n) 2)
    replace X1 := Bx.alloc X1 (Obj.cells (madeCells #[Value.int IntKind.i64 0] n) 2)
    obtain ⟨w2, hw2⟩ : ∃ w2, w1.alloc (Obj.cells (madeCells #[Value.int IntKind.i64 0] n) 2) = w2 := ⟨_, rfl⟩
    rw [hw2] at HB b2 X0 X1
    rw [hw2]
    obtain ⟨B, hB⟩ : ∃ B, w1.heap.size = B := ⟨_, rfl⟩
    rw [hB] at HB q1 q2
    rw [hB]
    have hG : GrI w B l0 l1 A n c (fun _ => 0) w2 := ⟨b2, X0, X1, HB⟩
    have HG := Lib.hid hG
    have HSO := Lib.hid (grade_sort w B l0 l1 A n c xs HS.out (by omega))
    clear g0 hw2 hB X0 X1 X2 b1 b2 HB hG
    go_loopw [6, 26] (fun _ i wr => ∃ j : Nat, i = .int .i64 j ∧ j ≤ n ∧ Hid (GrI w B l0 l1 A n c (fun p => if p < j then (p : Int) else 0) wr)) (fun _ i _ => n - (intOf i).toNat)
    case atStart => exact ⟨0, rfl, Nat.zero_le _, Lib.hid ⟨HG.out.1, HG.out.2.1, HG.out.2.2.1, HG.out.2.2.2.congr fun j _ => by simp⟩⟩
    case round =>
      clear HG
      obtain ⟨j, rfl, hj, HG⟩ := hrel
      by_cases hlt : j < n
      · have k0 : (0 : Int) ≤ (j : Int) := by omega
        have k1 : (j : Int) < (n : Int) := by omega
        have dj := HG.out.2.2.2.cell hlt
        have fj := HG.out.2.2.2.frozen j
        go_wp2
        refine ⟨⟨j + 1, rfl, by omega, Lib.hid ⟨bsc HG.out.1 (by show _ ≤ B; omega) _, Bx.far HG.out.2.1 (by show _ ≠ B; omega) _, Bx.far HG.out.2.2.1 (by show _ ≠ B; omega) _, HG.out.2.2.2.fill rfl⟩⟩, ?_⟩
        simp only [intOf]; omega
      · obtain rfl : j = n := by omega
        go_wp2_with fail
        refine (sortStable_any HSO.out j _ _ HG.out (by omega) (fun i h => by rw [if_pos h])).mono ?_
        rintro e w4 ⟨⟨v, rfl⟩, f', r1, r2⟩
        have R1 := Lib.hid r1
        have R2 := Lib.hid r2
        clear r1 r2 HG
        go_wp2_with fail
        refine (fvec_any 1 _ _ _ _).mono ?_
        rintro e w3 ⟨rfl, hb3⟩
        have b3 := bst R1.out.1 hb3
        have X1 := Bx.step R1.out.2.2.1 hb3
        have hlen := HS.out.len
        have hgr : ∀ p, p < j → f' p = (gradeL xs).getD p 0 := fun p hp => by
          have h := R2.out
          rw [← hlen] at h
          rw [← h.grade]
          simp [hlen, hp]
        have S3 := Lib.hid ((Bf.sl (xs := gradeL xs) (c := j) (R1.out.2.2.2.congr hgr) (by rw [gradeL_len, hlen]) (Nat.le_refl _) (by unfold maxLen; omega)).step hb3)
        have g1 : ∀ i, w3.cell? ⟨w.heap.size + 1, i, none⟩ = _ := Bx.cell X1
        have f1 : ∀ i, w3.frozen? ⟨w.heap.size + 1, i, none⟩ = false := Bx.frozen X1
        have q3 := Bx.lt X1
        clear hlen hgr
        go_wp2
        refine retAE (B := w.heap.size + 1) rfl rfl rfl rfl (Bx.set5 X1 _ _ _ _ _) ?_
        exact RetA.mk HR.out.symm (S3.out.past5 _ _ _ _ _ (fun b o e => by cases e; omega)) (fun b o s e => by cases e; omega) (below_set5 b3 (by omega) _ _ _ _ _)
  · rw [if_pos h0] at h
    have HR := Lib.hid h
    have hne : (er != 0) = true := by simpa using h0
    have HEC := Lib.hid her
    clear hec h h0 her
    go_enter Try.func24, Try.ntmps24
    go_wp2_with fail
    refine (fcheck1 (k == 1) (r == 1) _ _ _ _ _ _ _ xs _ _ _ (HS.out.step (below3 _ _ _ _)) HE.out Z0).mono ?_
    rintro e w1 ⟨rfl, hb1⟩
    obtain ⟨X0, X1, X2, b1⟩ := after3 hb1
    clear hb1
    rw [HEC.out]
    have g1 : ∀ i, w1.cell? ⟨w.heap.size + 1, i, none⟩ = _ := Bx.cell X1
    have f1 : ∀ i, w1.frozen? ⟨w.heap.size + 1, i, none⟩ = false := Bx.frozen X1
    have q1 := Bx.lt X1
    go_wp2
    refine retAE (B := w.heap.size + 1) rfl rfl rfl rfl (Bx.set5 X1 _ _ _ _ _) ?_
    exact RetA.mk HR.out.symm (Sl.nil _) (fun _ _ _ h => by cases h) (below_set5 b1 (by omega) _ _ _ _ _)
end Go.Proofs.Ytfbloddffhafdaa

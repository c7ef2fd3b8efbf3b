/-
  moves.Cat, whole; plain laws of Cat.
-/
import Derived.Test.YtoapgknkenlcgaaMcat
namespace Go.Proofs.Ytoapgknkenlcgaa
open Go.RowKit

/-- What an array that Cat takes is. -/
def okA (a : Arr) (m q : Nat) : Prop := achk a.k a.r a.l0 a.l1 a.c = 0 ∧ a.c.length = m * q ∧ m ≤ 400 ∧ q ≤ 400 ∧ ((a.r = 1 ∧ m = 1 ∧ a.l0 = q ∧ a.l1 = 0) ∨ (a.r = 2 ∧ a.l0 = m ∧ a.l1 = q))
theorem catL_one {xs ys : List Int} {q q' : Nat} (hx : xs.length = 1 * q) (hy : ys.length = 1 * q') : catL xs ys q q' (List.range 1) = xs ++ ys := by
  have h1 : xs.take q = xs := List.take_of_length_le (by omega)
  have h2 : ys.take q' = ys := List.take_of_length_le (by omega)
  simp [catL, h1, h2]
theorem catE_zero {a b : Arr} (h : catE a b = 0) : ∃ m q q', okA a m q ∧ okA b m q' ∧ a.k = b.k ∧ a.r = b.r ∧ a.r ≠ 0 ∧ a.c.length + b.c.length ≤ 400 ∧ q + q' ≤ 400 := by
  unfold catE at h
  split at h
  · rename_i h1; exact absurd h h1
  split at h
  · cases h
  split at h
  · cases h
  split at h
  · cases h
  split at h
  · cases h
  rename_i h1 h2 h3 h4 h5
  have hk : a.k = b.k := by
    by_cases e : a.k = b.k
    · exact e
    · exact absurd e h2
  have hr : a.r = b.r := by
    by_cases e : a.r = b.r
    · exact e
    · exact absurd (.inl e) h3
  have hr0 : a.r ≠ 0 := fun e => h3 (.inr e)
  have hor : orE (chkA a) (chkA b) = 0 := by
    by_cases e : orE (chkA a) (chkA b) = 0
    · exact e
    · exact absurd e h1
  unfold orE at hor
  have ha : chkA a = 0 := by
    by_cases e : chkA a = 0
    · exact e
    · rw [if_neg e] at hor; exact absurd hor e
  rw [if_pos ha] at hor
  obtain ⟨m, q, hl, hm, hq, hc⟩ := rows_len ha hr0
  obtain ⟨m', q', hl', hm', hq', hc'⟩ := rows_len hor (by rw [← hr]; exact hr0)
  have hmm : m = m' := by
    rcases hc with ⟨e1, e2, _⟩ | ⟨e1, e2, _⟩
    · rcases hc' with ⟨_, e4, _⟩ | ⟨e3, _⟩
      · omega
      · omega
    · rcases hc' with ⟨e3, _⟩ | ⟨_, e4, _⟩
      · omega
      · have : a.l0 = b.l0 := by
          by_cases e : a.l0 = b.l0
          · exact e
          · exact absurd ⟨e1, e⟩ h4
        omega
  subst hmm
  refine ⟨m, q, q', ⟨ha, hl, hm, hq, hc⟩, ⟨hor, hl', hm', hq', hc'⟩, hk, hr, hr0, by omega, ?_⟩
  have hb : ¬ 400 < colsN a + colsN b := fun e => h5 (.inr e)
  unfold colsN at hb
  rcases hc with ⟨e1, e2, e3, _⟩ | ⟨e1, e2, e3⟩
  · rcases hc' with ⟨f1, _, f3, _⟩ | ⟨f1, _⟩
    · rw [if_neg (by omega), if_neg (by omega)] at hb
      omega
    · omega
  · rcases hc' with ⟨f1, _⟩ | ⟨f1, _, f3⟩
    · omega
    · rw [if_pos e1, if_pos f1] at hb
      omega
/-- Cat where it does not fail. -/
def catA (a b : Arr) (m q q' : Nat) : Arr := if a.r = 1 then ⟨a.k, 1, ((m * (q + q') : Nat) : Int), 0, catL a.c b.c q q' (List.range m)⟩ else ⟨a.k, 2, m, (q : Int) + (q' : Int), catL a.c b.c q q' (List.range m)⟩
theorem sCat_ok {a b : Arr} {m q q' : Nat} (ha : okA a m q) (hb : okA b m q') (hk : a.k = b.k) (hr : a.r = b.r) (hr0 : a.r ≠ 0) (h1 : a.c.length + b.c.length ≤ 400) (h2 : q + q' ≤ 400) : sCat a b = (catA a b m q q', 0) := by
  obtain ⟨ha1, ha2, ha3, ha4, ha5⟩ := ha
  obtain ⟨hb1, hb2, hb3, hb4, hb5⟩ := hb
  have ca : chkA a = 0 := ha1
  have cb : chkA b = 0 := hb1
  unfold sCat
  rw [if_neg (by rw [ca, cb]; decide), if_neg (fun h => h hk), if_neg (fun h => h.elim (fun h => h hr) hr0)]
  rcases ha5 with ⟨e1, e2, e3, e4⟩ | ⟨e1, e2, e3⟩
  · rcases hb5 with ⟨f1, f2, f3, f4⟩ | ⟨f1, _⟩
    · rw [if_neg (by omega), if_neg (by unfold colsN; rw [if_neg (by omega), if_neg (by omega)]; omega), if_pos e1]
      unfold catA vecA
      rw [if_pos e1]
      subst e2
      rw [catL_one ha2 hb2, List.length_append, ha2, hb2]
      simp [Nat.mul_add]
    · omega
  · rcases hb5 with ⟨f1, _⟩ | ⟨f1, f2, f3⟩
    · omega
    · have hcat : catA a b m q q' = ⟨a.k, 2, m, (q : Int) + (q' : Int), catL a.c b.c q q' (List.range m)⟩ := by
        unfold catA
        rw [if_neg (by omega)]
      rw [hcat, if_neg (fun h => h.2 (by omega)), if_neg (by unfold colsN; rw [if_pos e1, if_pos f1]; omega), if_neg (by omega)]
      simp [matA, rowsN, colsN, e1, e2, e3, f1, f3, catL, rowOf]
theorem mCat_any (k r l0 l1 : Int) (A : Option Addr) (n c : Nat) (xs : List Int) (k' r' l0' l1' : Int) (A' : Option Addr) (n' c' : Nat) (ys : List Int) (R : Arr × Int) (w : World)
    (hs : Sl w A n c xs) (hs' : Sl w A' n' c' ys) (h : sCat ⟨k, r, l0, l1, xs⟩ ⟨k', r', l0', l1', ys⟩ = R) :
    Calls Try.prog 22 #[.agg #[.int .i64 k, .int .i64 r, .int .i64 l0, .int .i64 l1, .slice A n c], .agg #[.int .i64 k', .int .i64 r', .int .i64 l0', .int .i64 l1', .slice A' n' c']] w (RetA w R) := by
  by_cases he : catE ⟨k, r, l0, l1, xs⟩ ⟨k', r', l0', l1', ys⟩ = 0
  · obtain ⟨m, q, q', ha, hb, hk, hr, hr0, h1, h2⟩ := catE_zero he
    rw [sCat_ok ha hb hk hr hr0 h1 h2] at h
    obtain ⟨ha1, ha2, ha3, ha4, ha5⟩ := ha
    obtain ⟨hb1, hb2, hb3, hb4, hb5⟩ := hb
    simp only at hk hr hr0 ha1 ha2 ha5 hb1 hb2 hb5 h1
    subst hk hr
    have hrb : (r == 0) = false := by simpa using hr0
    have hn : n = m * q := hs.len.symm.trans ha2
    have hn' : n' = m * q' := hs'.len.symm.trans hb2
    have hx := hs.len
    have hy := hs'.len
    unfold catA at h
    simp only at h
    rcases ha5 with ⟨rfl, rfl, rfl, rfl⟩ | ⟨rfl, rfl, rfl⟩
    · rcases hb5 with ⟨_, _, rfl, rfl⟩ | ⟨f1, _⟩
      · rw [if_pos rfl] at h
        exact mCat_ok k 1 q 0 A n c xs q' 0 A' n' c' ys 1 q q' R w hs hs' ha1 hb1 (fun W => height1 _ _ _ _ _ _ _) (fun W => height1 _ _ _ _ _ _ _) (fun W => columns1 _ _ _ _ _ _ _) (fun W => columns1 _ _ _ _ _ _ _) hn hn' ha3 ha4 hb4 (by omega) h2 hrb (.inl ⟨rfl, h.symm⟩)
      · omega
    · rcases hb5 with ⟨f1, _⟩ | ⟨_, rfl, rfl⟩
      · omega
      · rw [if_neg (by decide)] at h
        exact mCat_ok k 2 m q A n c xs m q' A' n' c' ys m q q' R w hs hs' ha1 hb1 (fun W => height2 _ _ _ _ _ _ _) (fun W => height2 _ _ _ _ _ _ _) (fun W => columns2 _ _ _ _ _ _ _) (fun W => columns2 _ _ _ _ _ _ _) hn hn' ha3 ha4 hb4 (by omega) h2 hrb (.inr ⟨rfl, h.symm⟩)
  · exact mCat_err k r l0 l1 A n c xs k' r' l0' l1' A' n' c' ys R w hs hs' h he
end Go.Proofs.Ytoapgknkenlcgaa

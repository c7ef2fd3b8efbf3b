/-
  The order of places (by their cells, then by themselves) and the plain laws of the library's stable sort: insertion, rotation, symmetric merging.
  States are functions from an index to a place.
-/
import Derived.Test.YtfbloddffhafdaaFdef
namespace Go.Proofs.Ytfbloddffhafdaa
open Go.RowKit

/-- Places are ordered by their keys; of equal keys the lesser place comes first. -/
def plt (k : Int → Int) (x y : Int) : Prop := k x < k y ∨ (k x = k y ∧ x < y)
theorem plt.trans {k : Int → Int} {x y z : Int} (h : plt k x y) (g : plt k y z) : plt k x z := by unfold plt at *; omega
theorem plt.irr {k : Int → Int} {x : Int} : ¬ plt k x x := by unfold plt; omega
theorem plt.tri {k : Int → Int} {x y : Int} (h : ¬ plt k x y) (g : x ≠ y) : plt k y x := by unfold plt at *; omega
/-- Ascending between two indices. -/
def srt (k : Int → Int) (f : Nat → Int) (a b : Nat) : Prop := ∀ i j, a ≤ i → i < j → j < b → plt k (f i) (f j)
/-- All places before m are lesser than those from m on. -/
def ascP (f : Nat → Int) (a m b : Nat) : Prop := ∀ i j, a ≤ i → i < m → m ≤ j → j < b → f i < f j
/-- g has between a and b only what f has there, and is f elsewhere. -/
def frm (f g : Nat → Int) (a b : Nat) : Prop := (∀ i, i < a ∨ b ≤ i → g i = f i) ∧ ∀ i, a ≤ i → i < b → ∃ j, a ≤ j ∧ j < b ∧ g i = f j
theorem frm.refl (f : Nat → Int) (a b : Nat) : frm f f a b := ⟨fun _ _ => rfl, fun i h1 h2 => ⟨i, h1, h2, rfl⟩⟩
theorem frm.trans {f g h : Nat → Int} {a b : Nat} (F : frm f g a b) (G : frm g h a b) : frm f h a b := by
  refine ⟨fun i hi => (G.1 i hi).trans (F.1 i hi), fun i h1 h2 => ?_⟩
  obtain ⟨j, j1, j2, e⟩ := G.2 i h1 h2
  obtain ⟨l, l1, l2, e'⟩ := F.2 j j1 j2
  exact ⟨l, l1, l2, e.trans e'⟩
theorem frm.wide {f g : Nat → Int} {a b a' b' : Nat} (F : frm f g a b) (h1 : a' ≤ a) (h2 : b ≤ b') : frm f g a' b' := by
  refine ⟨fun i hi => F.1 i (by omega), fun i j1 j2 => ?_⟩
  by_cases h : a ≤ i ∧ i < b
  · obtain ⟨j, p, q, e⟩ := F.2 i h.1 h.2
    exact ⟨j, by omega, by omega, e⟩
  · exact ⟨i, j1, j2, F.1 i (by omega)⟩
theorem frm.range {f g : Nat → Int} {a b n : Nat} (F : frm f g a b) (hb : b ≤ n) (hr : ∀ i, i < n → 0 ≤ f i ∧ f i < n) : ∀ i, i < n → 0 ≤ g i ∧ g i < n := by
  intro i hi
  by_cases h : a ≤ i ∧ i < b
  · obtain ⟨j, _, q, e⟩ := F.2 i h.1 h.2
    rw [e]; exact hr j (by omega)
  · rw [F.1 i (by omega)]; exact hr i hi
/-- Two neighbouring parts are exchanged: [a, m) and [m, b). -/
def rotF (f : Nat → Int) (a m b : Nat) : Nat → Int := fun i => if a ≤ i ∧ i < a + (b - m) then f (i + (m - a)) else if a + (b - m) ≤ i ∧ i < b then f (i - (b - m)) else f i
/-- Two parts of one length are exchanged. -/
def swpF (f : Nat → Int) (a b n : Nat) : Nat → Int := fun i => if a ≤ i ∧ i < a + n then f (i - a + b) else if b ≤ i ∧ i < b + n then f (i - b + a) else f i
theorem swpF_zero (f : Nat → Int) (a b : Nat) : swpF f a b 0 = f := by
  funext i; unfold swpF
  rw [if_neg (by omega), if_neg (by omega)]
theorem swpF_succ (f : Nat → Int) (a b n : Nat) (h : a + n < b) :
    swpF f a b (n + 1) = fun j => if j = b + n then (swpF f a b n) (a + n) else if j = a + n then (swpF f a b n) (b + n) else (swpF f a b n) j := by
  funext i; unfold swpF
  have e1 : a + n - a + b = b + n := by omega
  have e2 : b + n - b + a = a + n := by omega
  by_cases p1 : i = b + n
  · subst p1
    rw [if_neg (by omega), if_pos (by omega), if_pos rfl, if_neg (by omega), if_neg (by omega), e2]
  · rw [if_neg p1]
    by_cases p2 : i = a + n
    · subst p2
      rw [if_pos (by omega), if_pos rfl, if_neg (by omega), if_neg (by omega), e1]
    · rw [if_neg p2]
      by_cases p3 : a ≤ i ∧ i < a + n
      · rw [if_pos (by omega), if_pos p3]
      · rw [if_neg (by omega), if_neg p3]
        by_cases p4 : b ≤ i ∧ i < b + n
        · rw [if_pos (by omega), if_pos p4]
        · rw [if_neg (by omega), if_neg p4]
theorem rot_gt (f : Nat → Int) (m i j : Nat) (h1 : j < i) (h2 : i ≤ m) : rotF f (m - i) m (m + j) = rotF (swpF f (m - i) m j) (m - (i - j)) m (m + j) := by
  funext x; unfold rotF swpF
  by_cases p1 : m - i ≤ x ∧ x < m - i + j
  · rw [if_pos (by omega), if_neg (by omega), if_neg (by omega), if_pos p1]
    congr 1; omega
  · rw [if_neg (by omega)]
    by_cases p2 : m - i + j ≤ x ∧ x < m + j
    · rw [if_pos (by omega)]
      by_cases p3 : x < m - i + j + j
      · rw [if_pos (by omega), if_neg (by omega), if_pos (by omega)]
        congr 1; omega
      · rw [if_neg (by omega), if_pos (by omega), if_neg (by omega), if_neg (by omega)]
    · rw [if_neg (by omega), if_neg (by omega), if_neg (by omega), if_neg (by omega), if_neg (by omega)]
theorem rot_lt (f : Nat → Int) (m i j : Nat) (h1 : i < j) (h2 : i ≤ m) : rotF f (m - i) m (m + j) = rotF (swpF f (m - i) (m + j - i) i) (m - i) m (m + (j - i)) := by
  funext x; unfold rotF swpF
  by_cases p1 : m - i ≤ x ∧ x < m - i + (j - i)
  · rw [if_pos (by omega), if_pos (by omega), if_neg (by omega), if_neg (by omega)]
  · by_cases p2 : m - i + (j - i) ≤ x ∧ x < m + (j - i)
    · by_cases p3 : x < m - i + j
      · rw [if_pos (by omega), if_neg (by omega), if_pos (by omega), if_pos (by omega)]
        congr 1; omega
      · omega
    · by_cases p3 : m + (j - i) ≤ x ∧ x < m + j
      · rw [if_neg (by omega), if_pos (by omega), if_neg (by omega), if_neg (by omega), if_neg (by omega), if_pos (by omega)]
        congr 1; omega
      · rw [if_neg (by omega), if_neg (by omega), if_neg (by omega), if_neg (by omega), if_neg (by omega), if_neg (by omega)]
theorem rot_eq (f : Nat → Int) (m i : Nat) (h2 : i ≤ m) : rotF f (m - i) m (m + i) = swpF f (m - i) m i := by
  funext x; unfold rotF swpF
  by_cases p1 : m - i ≤ x ∧ x < m
  · rw [if_pos (by omega), if_pos (by omega)]
    congr 1; omega
  · by_cases p2 : m ≤ x ∧ x < m + i
    · rw [if_neg (by omega), if_pos (by omega), if_neg (by omega), if_pos (by omega)]
      congr 1; omega
    · rw [if_neg (by omega), if_neg (by omega), if_neg (by omega), if_neg (by omega)]
theorem frm_rot (f : Nat → Int) (a m b : Nat) (h1 : a ≤ m) (h2 : m ≤ b) : frm f (rotF f a m b) a b := by
  refine ⟨fun i hi => ?_, fun i i1 i2 => ?_⟩
  · unfold rotF; rw [if_neg (by omega), if_neg (by omega)]
  · by_cases p : i < a + (b - m)
    · exact ⟨i + (m - a), by omega, by omega, by unfold rotF; rw [if_pos (by omega)]⟩
    · exact ⟨i - (b - m), by omega, by omega, by unfold rotF; rw [if_neg (by omega), if_pos (by omega)]⟩
/-- What the search in a symmetric merge has found: from lo to start the left cells stay, from start to hi they go. -/
structure Cutp (k : Int → Int) (f : Nat → Int) (a m b mid start : Nat) : Prop where
  am : a < m
  mb : m < b
  mid1 : a ≤ mid
  mid2 : mid < b
  s1 : a ≤ start
  s2 : start ≤ m
  s3 : start ≤ mid
  e2 : mid + m - start ≤ b
  lo : (a = start ∨ mid + m - start = b) ∨ plt k (f (start - 1)) (f (mid + m - start))
  hi : (start = m ∨ start = mid) ∨ plt k (f (mid + m - start - 1)) (f start)
theorem srt.sub {k : Int → Int} {f : Nat → Int} {a b a' b' : Nat} (h : srt k f a b) (h1 : a ≤ a') (h2 : b' ≤ b) : srt k f a' b' := fun i j p q r => h i j (by omega) q (by omega)
/-- Two ascending runs, all of the first before all of the second. -/
theorem srt_join {k : Int → Int} {f : Nat → Int} {a m b : Nat} (h1 : srt k f a m) (h2 : srt k f m b) (hx : ∀ i j, a ≤ i → i < m → m ≤ j → j < b → plt k (f i) (f j)) : srt k f a b := by
  intro i j p q r
  by_cases c1 : j < m
  · exact h1 i j p q c1
  · by_cases c2 : m ≤ i
    · exact h2 i j c2 q r
    · exact hx i j p (by omega) (by omega) r
/-- What rotation leaves: four runs, the first two before the last two. -/
theorem rot_runs {k : Int → Int} {f : Nat → Int} {a m b mid start : Nat} (C : Cutp k f a m b mid start) (h1 : srt k f a m) (h2 : srt k f m b) (hp : ascP f a m b)
    (g : Nat → Int) (hg : g = rotF f start m (mid + m - start)) :
    srt k g a start ∧ srt k g start mid ∧ ascP g a start mid ∧ srt k g mid (mid + m - start) ∧ srt k g (mid + m - start) b ∧ ascP g mid (mid + m - start) b ∧
    (∀ i j, a ≤ i → i < mid → mid ≤ j → j < b → plt k (g i) (g j)) ∧ frm f g a b := by
  obtain ⟨c1, c2, c3, c4, c5, c6, c7, c8, clo, chi⟩ := C
  -- where each part lies
  have A1 : ∀ i, i < start → g i = f i := fun i hi => by rw [hg]; unfold rotF; rw [if_neg (by omega), if_neg (by omega)]
  have A2 : ∀ i, start ≤ i → i < mid → g i = f (i + (m - start)) := fun i p q => by rw [hg]; unfold rotF; rw [if_pos (by omega)]
  have A3 : ∀ i, mid ≤ i → i < mid + m - start → g i = f (i - (mid - start)) := fun i p q => by
    rw [hg]; unfold rotF; rw [if_neg (by omega), if_pos (by omega)]; congr 1; omega
  have A4 : ∀ i, mid + m - start ≤ i → g i = f i := fun i p => by rw [hg]; unfold rotF; rw [if_neg (by omega), if_neg (by omega)]
  have L : ∀ i, a ≤ i → i < start → ∀ j, mid + m - start ≤ j → j < b → plt k (f i) (f j) := by
    intro i i1 i2 j j1 j2
    rcases clo with (h | h) | h
    · omega
    · omega
    · have x1 : f i = f (start - 1) ∨ plt k (f i) (f (start - 1)) := by
        by_cases e : i = start - 1
        · exact Or.inl (by rw [e])
        · exact Or.inr (h1 i (start - 1) i1 (by omega) (by omega))
      have x2 : f j = f (mid + m - start) ∨ plt k (f (mid + m - start)) (f j) := by
        by_cases e : j = mid + m - start
        · exact Or.inl (by rw [e])
        · exact Or.inr (h2 (mid + m - start) j (by omega) (by omega) (by omega))
      rcases x1 with x1 | x1 <;> rcases x2 with x2 | x2
      · rw [x1, x2]; exact h
      · rw [x1]; exact h.trans x2
      · rw [x2]; exact x1.trans h
      · exact (x1.trans h).trans x2
  have H : ∀ i, m ≤ i → i < mid + m - start → ∀ j, start ≤ j → j < m → plt k (f i) (f j) := by
    intro i i1 i2 j j1 j2
    rcases chi with (h | h) | h
    · omega
    · omega
    · have x1 : f i = f (mid + m - start - 1) ∨ plt k (f i) (f (mid + m - start - 1)) := by
        by_cases e : i = mid + m - start - 1
        · exact Or.inl (by rw [e])
        · exact Or.inr (h2 i (mid + m - start - 1) i1 (by omega) (by omega))
      have x2 : f j = f start ∨ plt k (f start) (f j) := by
        by_cases e : j = start
        · exact Or.inl (by rw [e])
        · exact Or.inr (h1 start j (by omega) (by omega) (by omega))
      rcases x1 with x1 | x1 <;> rcases x2 with x2 | x2
      · rw [x1, x2]; exact h
      · rw [x1]; exact h.trans x2
      · rw [x2]; exact x1.trans h
      · exact (x1.trans h).trans x2
  refine ⟨?_, ?_, ?_, ?_, ?_, ?_, ?_, ?_⟩
  · intro i j p q r; rw [A1 i (by omega), A1 j r]; exact h1 i j p q (by omega)
  · intro i j p q r; rw [A2 i p (by omega), A2 j (by omega) r]; exact h2 _ _ (by omega) (by omega) (by omega)
  · intro i j p q r s; rw [A1 i q, A2 j r s]; exact hp _ _ p (by omega) (by omega) (by omega)
  · intro i j p q r; rw [A3 i p (by omega), A3 j (by omega) r]; exact h1 _ _ (by omega) (by omega) (by omega)
  · intro i j p q r; rw [A4 i p, A4 j (by omega)]; exact h2 _ _ (by omega) q r
  · intro i j p q r s; rw [A3 i p q, A4 j r]; exact hp _ _ (by omega) (by omega) (by omega) s
  · intro i j p q r s
    by_cases p1 : i < start
    · rw [A1 i p1]
      by_cases p2 : j < mid + m - start
      · rw [A3 j r p2]; exact h1 _ _ p (by omega) (by omega)
      · rw [A4 j (by omega)]; exact L i p p1 j (by omega) s
    · rw [A2 i (by omega) q]
      by_cases p2 : j < mid + m - start
      · rw [A3 j r p2]; exact H _ (by omega) (by omega) _ (by omega) (by omega)
      · rw [A4 j (by omega)]; exact h2 _ _ (by omega) (by omega) s
  · rw [hg]; exact (frm_rot f start m (mid + m - start) c6 (by omega)).wide c5 c8
/-- Behind the two merges of the halves the whole ascends. -/
theorem merge_join {k : Int → Int} {f g h1 h2 : Nat → Int} {a mid b : Nat} (c3 : a ≤ mid) (c4 : mid ≤ b) (F : frm f g a b)
    (X : ∀ i j, a ≤ i → i < mid → mid ≤ j → j < b → plt k (g i) (g j))
    (F1 : frm g h1 a mid) (S1 : srt k h1 a mid) (F2 : frm h1 h2 mid b) (S2 : srt k h2 mid b) : srt k h2 a b ∧ frm f h2 a b := by
  refine ⟨srt_join (m := mid) ?_ S2 ?_, F.trans ((F1.wide (Nat.le_refl _) c4).trans (F2.wide c3 (Nat.le_refl _)))⟩
  · intro i j p q r
    rw [F2.1 i (by omega), F2.1 j (by omega)]
    exact S1 i j p q r
  · intro i j p q r s
    obtain ⟨l, l1, l2, e⟩ := F2.2 j r s
    rw [F2.1 i (by omega), e, F1.1 l (by omega)]
    obtain ⟨u, u1, u2, e'⟩ := F1.2 i p q
    rw [e']
    exact X u l u1 u2 l1 l2

/-! Insertion. -/
/-- A cell is set. -/
def updF (f : Nat → Int) (i : Nat) (v : Int) : Nat → Int := fun t => if t = i then v else f t
/-- Two cells are exchanged, as the code does it: first i, then j. -/
def xchF (f : Nat → Int) (i j : Nat) : Nat → Int := updF (updF f i (f j)) j (f i)
theorem xchF_at (f : Nat → Int) (i j t : Nat) : xchF f i j t = if t = j then f i else if t = i then f j else f t := rfl
theorem swpF_step (f : Nat → Int) (a b n : Nat) (h : a + n < b) : swpF f a b (n + 1) = xchF (swpF f a b n) (a + n) (b + n) := swpF_succ f a b n h
/-- The cell that is put in stands at j; what is behind it up to i is greater; without it all ascend. -/
structure InsI (k : Int → Int) (g f : Nat → Int) (a i j : Nat) : Prop where
  out : ∀ p, p < a ∨ i < p → f p = g p
  at_ : f j = g i
  of_ : ∀ p, a ≤ p → p ≤ i → p ≠ j → ∃ l, a ≤ l ∧ l < i ∧ f p = g l
  asc : ∀ p q, a ≤ p → p < q → q ≤ i → q ≠ j → plt k (f p) (f q)
theorem InsI.start {k : Int → Int} {g : Nat → Int} {a i : Nat} (h : srt k g a i) : InsI k g g a i i :=
  ⟨fun _ _ => rfl, rfl, fun p h1 h2 h3 => ⟨p, h1, by omega, rfl⟩, fun p q h1 h2 h3 h4 => h p q h1 h2 (by omega)⟩
theorem InsI.step {k : Int → Int} {g f : Nat → Int} {a i j : Nat} (h : InsI k g f a i (j + 1)) (haj : a ≤ j) (hji : j < i) (hk : k (f (j + 1)) < k (f j)) : InsI k g (xchF f (j + 1) j) a i j := by
  refine ⟨fun p hp => ?_, ?_, fun p h1 h2 h3 => ?_, fun p q h1 h2 h3 h4 => ?_⟩
  · rw [xchF_at, if_neg (by omega), if_neg (by omega)]; exact h.out p hp
  · rw [xchF_at, if_pos rfl]; exact h.at_
  · rw [xchF_at, if_neg h3]
    by_cases e : p = j + 1
    · rw [if_pos e]; exact h.of_ j (by omega) (by omega) (by omega)
    · rw [if_neg e]; exact h.of_ p h1 h2 e
  · have hlt : plt k (f (j + 1)) (f j) := Or.inl hk
    rw [xchF_at, xchF_at, if_neg h4]
    by_cases e1 : q = j + 1
    · rw [if_pos e1]
      by_cases e2 : p = j
      · rw [if_pos e2]; exact hlt
      · rw [if_neg e2, if_neg (by omega)]; exact h.asc p j h1 (by omega) (by omega) (by omega)
    · rw [if_neg e1]
      by_cases e2 : p = j
      · rw [if_pos e2]; exact h.asc (j + 1) q (by omega) (by omega) h3 e1
      · rw [if_neg e2]
        by_cases e3 : p = j + 1
        · rw [if_pos e3]; exact h.asc j q (by omega) (by omega) h3 e1
        · rw [if_neg e3]; exact h.asc p q h1 h2 h3 e1
theorem InsI.range {k : Int → Int} {g f : Nat → Int} {a i j n : Nat} (h : InsI k g f a i j) (hi : i < n) (hr : ∀ p, p < n → 0 ≤ g p ∧ g p < n) : ∀ p, p < n → 0 ≤ f p ∧ f p < n := by
  intro p hp
  by_cases h1 : p < a ∨ i < p
  · rw [h.out p h1]; exact hr p hp
  · by_cases e : p = j
    · rw [e, h.at_]; exact hr i hi
    · obtain ⟨l, _, l2, e'⟩ := h.of_ p (by omega) (by omega) e
      rw [e']; exact hr l (by omega)
/-- Where it stops: at the begin, or behind a cell that is not greater. -/
theorem InsI.done {k : Int → Int} {g f : Nat → Int} {a i j : Nat} (h : InsI k g f a i j) (haj : a ≤ j) (hji : j ≤ i) (hg : ∀ l, a ≤ l → l < i → g l < g i)
    (hs : j = a ∨ (a < j ∧ ¬ k (f j) < k (f (j - 1)))) : srt k f a (i + 1) ∧ frm g f a (i + 1) := by
  refine ⟨fun p q h1 h2 h3 => ?_, fun p hp => h.out p (by omega), fun p h1 h2 => ?_⟩
  · by_cases e : q = j
    · subst e
      rcases hs with rfl | ⟨hl, hk⟩
      · omega
      · have hj1 : plt k (f (q - 1)) (f q) := by
          obtain ⟨l, l1, l2, e'⟩ := h.of_ (q - 1) (by omega) (by omega) (by omega)
          have := hg l l1 l2
          rw [← h.at_, ← e'] at this
          unfold plt; omega
        by_cases e2 : p = q - 1
        · rw [e2]; exact hj1
        · exact (h.asc p (q - 1) h1 (by omega) (by omega) (by omega)).trans hj1
    · exact h.asc p q h1 h2 (by omega) e
  · by_cases e : p = j
    · exact ⟨i, by omega, by omega, by rw [e]; exact h.at_⟩
    · obtain ⟨l, l1, l2, e'⟩ := h.of_ p h1 (by omega) e
      exact ⟨l, l1, by omega, e'⟩

/-! Runs and levels. -/
/-- A sorted run that holds just its own places. -/
def Run (k : Int → Int) (f : Nat → Int) (p q : Nat) : Prop := srt k f p q ∧ ∀ i, p ≤ i → i < q → (p : Int) ≤ f i ∧ f i < (q : Int)
theorem Run.congr {k : Int → Int} {f g : Nat → Int} {p q : Nat} (h : Run k f p q) (e : ∀ i, p ≤ i → i < q → g i = f i) : Run k g p q :=
  ⟨fun i j h1 h2 h3 => by rw [e i h1 (by omega), e j (by omega) h3]; exact h.1 i j h1 h2 h3, fun i h1 h2 => by rw [e i h1 h2]; exact h.2 i h1 h2⟩
theorem Run.asc {k : Int → Int} {f : Nat → Int} {p m q : Nat} (h1 : Run k f p m) (h2 : Run k f m q) : ascP f p m q := fun i j a b c d => by
  have := (h1.2 i a b).2; have := (h2.2 j c d).1; omega
theorem Run.merged {k : Int → Int} {f g : Nat → Int} {p m q : Nat} (hpm : p ≤ m) (hmq : m ≤ q) (h1 : Run k f p m) (h2 : Run k f m q) (hs : srt k g p q) (hf : frm f g p q) : Run k g p q := by
  refine ⟨hs, fun i a b => ?_⟩
  obtain ⟨j, c, d, e⟩ := hf.2 i a b
  rw [e]
  by_cases h : j < m
  · have := h1.2 j c h; omega
  · have := h2.2 j (by omega) d; omega
theorem Run.placed {k : Int → Int} {f g : Nat → Int} {p q : Nat} (h : ∀ i, p ≤ i → i < q → f i = (i : Int)) (hs : srt k g p q) (hf : frm f g p q) : Run k g p q := by
  refine ⟨hs, fun i a b => ?_⟩
  obtain ⟨j, c, d, e⟩ := hf.2 i a b
  rw [e, h j c d]; omega
/-- Runs of length s from lo to hi. -/
def Lv (k : Int → Int) (f : Nat → Int) (s lo hi : Nat) : Prop := ∀ p, lo ≤ p → p < hi → s ∣ p → Run k f p (min (p + s) hi)
theorem dvd_lt {d p a : Nat} (h1 : d ∣ p) (h2 : d ∣ a) (h : p < a) : p + d ≤ a := by
  obtain ⟨u, rfl⟩ := h1
  obtain ⟨v, rfl⟩ := h2
  have : u < v := Nat.lt_of_mul_lt_mul_left h
  have := Nat.mul_le_mul_left d (show u + 1 ≤ v by omega)
  rw [Nat.mul_add] at this; omega
/-- One run more. -/
theorem Lv.snoc {k : Int → Int} {f g : Nat → Int} {s a b : Nat} (h : Lv k f s 0 a) (ha : s ∣ a) (hb : b ≤ a + s) (hab : a ≤ b) (e : ∀ i, i < a → g i = f i) (r : Run k g a b) : Lv k g s 0 b := by
  intro p _ hp hd
  by_cases c : p < a
  · have := dvd_lt hd ha c
    have h1 := h p (Nat.zero_le _) c hd
    rw [show min (p + s) b = p + s by omega]
    rw [show min (p + s) a = p + s by omega] at h1
    exact h1.congr fun i _ i2 => e i (by omega)
  · by_cases c2 : p = a
    · subst c2; rw [show min (p + s) b = b by omega]; exact r
    · have := dvd_lt ha hd (by omega); omega
theorem Lv.keep {k : Int → Int} {f g : Nat → Int} {s a b n : Nat} (h : Lv k f s a n) (hab : a ≤ b) (e : ∀ i, b ≤ i → g i = f i) : Lv k g s b n :=
  fun p h1 h2 h3 => (h p (by omega) h2 h3).congr fun i i1 _ => e i (by omega)
theorem Lv.top {k : Int → Int} {f : Nat → Int} {s n : Nat} (h : Lv k f s 0 n) (hn : n ≤ s) : Run k f 0 n := by
  by_cases c : n = 0
  · subst c; exact ⟨fun i j _ _ h => by omega, fun i _ h => by omega⟩
  · have := h 0 (Nat.le_refl _) (by omega) (Nat.dvd_zero _)
    rwa [show min (0 + s) n = n by omega] at this
theorem Lv.first {k : Int → Int} {f : Nat → Int} {s a n : Nat} (h : Lv k f s a n) (ha : s ∣ a) (hn : a + s ≤ n) (hs : 0 < s) : Run k f a (a + s) := by
  have := h a (Nat.le_refl _) (by omega) ha
  rwa [show min (a + s) n = a + s by omega] at this
theorem Lv.second {k : Int → Int} {f : Nat → Int} {s a b n : Nat} (h : Lv k f s a n) (ha : s ∣ a) (hm : a + s < n) (hb : b = min (a + 2 * s) n) : Run k f (a + s) b := by
  have := h (a + s) (by omega) hm (Nat.dvd_add ha (Nat.dvd_refl _))
  rwa [show min (a + s + s) n = b by omega] at this

/-! What ascends is unique. -/
theorem gIns_perm (c : List Int) (x : Int) (l : List Int) : (gIns c x l).Perm (x :: l) := by
  induction l with
  | nil => exact List.Perm.refl _
  | cons y l ih =>
    unfold gIns
    by_cases h : gLt c x y = true
    · rw [if_pos h]
    · rw [if_neg h]; exact ((List.Perm.cons y ih).trans (List.Perm.swap x y l))
theorem gSort_perm (c : List Int) (l : List Int) : (gSort c l).Perm l := by
  induction l with
  | nil => exact List.Perm.refl _
  | cons x l ih => exact (gIns_perm c x _).trans (List.Perm.cons x ih)
def keyOf (c : List Int) (x : Int) : Int := c.getD x.toNat 0
theorem gLt_iff (c : List Int) (x y : Int) : gLt c x y = true ↔ plt (keyOf c) x y := by
  unfold gLt plt keyOf; exact decide_eq_true_iff
/-- A list ascends. -/
def ascL (k : Int → Int) : List Int → Prop
  | [] => True
  | x :: l => (∀ y ∈ l, plt k x y) ∧ ascL k l
theorem ascL_eq {k : Int → Int} {l m : List Int} (h : l.Perm m) (hl : ascL k l) (hm : ascL k m) : l = m := by
  induction l generalizing m with
  | nil => exact (List.nil_perm.1 h).symm
  | cons x l ih =>
    cases m with
    | nil => exact absurd h.length_eq (by simp)
    | cons y m =>
      have e : x = y := by
        have hx : x ∈ y :: m := h.subset (by simp)
        have hy : y ∈ x :: l := h.symm.subset (by simp)
        rcases List.mem_cons.1 hx with e | hx
        · exact e
        · rcases List.mem_cons.1 hy with e | hy
          · exact e.symm
          · exact absurd ((hm.1 x hx).trans (hl.1 y hy)) plt.irr
      subst e
      rw [ih ((List.perm_cons x).1 h) hl.2 hm.2]
theorem gIns_asc {c : List Int} {x : Int} {l : List Int} (h : ascL (keyOf c) l) (hx : x ∉ l) : ascL (keyOf c) (gIns c x l) := by
  induction l with
  | nil => exact ⟨fun _ h => by simp at h, trivial⟩
  | cons y l ih =>
    have hxy : x ≠ y := fun e => hx (by simp [e])
    have hxl : x ∉ l := fun e => hx (by simp [e])
    unfold gIns
    by_cases g : gLt c x y = true
    · rw [if_pos g]
      have g' := (gLt_iff c x y).1 g
      refine ⟨fun z hz => ?_, h⟩
      rcases List.mem_cons.1 hz with rfl | hz
      · exact g'
      · exact g'.trans (h.1 z hz)
    · rw [if_neg g]
      have g' : plt (keyOf c) y x := plt.tri (fun q => g ((gLt_iff c x y).2 q)) hxy
      refine ⟨fun z hz => ?_, ih h.2 hxl⟩
      rcases List.mem_cons.1 ((gIns_perm c x l).subset hz) with rfl | hz
      · exact g'
      · exact h.1 z hz
theorem gSort_asc {c : List Int} {l : List Int} (h : l.Nodup) : ascL (keyOf c) (gSort c l) := by
  induction l with
  | nil => trivial
  | cons x l ih =>
    rw [List.nodup_cons] at h
    exact gIns_asc (ih h.2) (fun g => h.1 ((gSort_perm c l).subset g))
theorem ascL_nodup {k : Int → Int} {l : List Int} (h : ascL k l) : l.Nodup := by
  induction l with
  | nil => exact List.nodup_nil
  | cons x l ih => exact List.nodup_cons.2 ⟨fun g => plt.irr (h.1 x g), ih h.2⟩
/-- As many different ones, all of them of the others: the same. -/
theorem perm_of {l m : List Int} (h : l.Nodup) (hs : ∀ x ∈ l, x ∈ m) (hl : m.length ≤ l.length) : l.Perm m := by
  induction l generalizing m with
  | nil => cases m with
    | nil => exact List.Perm.refl _
    | cons _ _ => simp at hl
  | cons x l ih =>
    rw [List.nodup_cons] at h
    have hx : x ∈ m := hs x (by simp)
    have hp := List.perm_cons_erase hx
    have hlen := hp.length_eq
    refine (List.Perm.cons x (ih h.2 (fun y hy => ?_) ?_)).trans hp.symm
    · have hy' : y ∈ m := hs y (by simp [hy])
      rcases List.mem_cons.1 (hp.subset hy') with rfl | h'
      · exact absurd hy h.1
      · exact h'
    · simp only [List.length_cons] at hl hlen; omega
theorem iotaL_nodup (n : Nat) : (iotaL n).Nodup := by
  unfold iotaL
  have := @List.nodup_range n
  unfold List.Nodup at *
  rw [List.pairwise_map]
  exact this.imp fun h e => h (Int.ofNat.inj e)
theorem mem_iotaL {n : Nat} {x : Int} : x ∈ iotaL n ↔ 0 ≤ x ∧ x < n := by
  unfold iotaL
  rw [List.mem_map]
  constructor
  · rintro ⟨a, h, rfl⟩
    have := List.mem_range.1 h
    simp only [Int.ofNat_eq_natCast]; omega
  · rintro ⟨h1, h2⟩
    exact ⟨x.toNat, List.mem_range.2 (by omega), by simp only [Int.ofNat_eq_natCast]; omega⟩
theorem gradeL_perm (c : List Int) : (gradeL c).Perm (iotaL c.length) := gSort_perm c _
theorem gradeL_len (c : List Int) : (gradeL c).length = c.length := by rw [(gradeL_perm c).length_eq, iotaL_len]
theorem gradeL_asc (c : List Int) : ascL (keyOf c) (gradeL c) := gSort_asc (iotaL_nodup _)
theorem gradeL_nodup (c : List Int) : (gradeL c).Nodup := ascL_nodup (gradeL_asc c)
theorem mem_gradeL {c : List Int} {x : Int} : x ∈ gradeL c ↔ 0 ≤ x ∧ x < c.length := by rw [(gradeL_perm c).mem_iff, mem_iotaL]
/-- The only list of all places that ascends. -/
theorem gradeL_unique {c l : List Int} (hl : l.length = c.length) (hr : ∀ x ∈ l, 0 ≤ x ∧ x < c.length) (ha : ascL (keyOf c) l) : l = gradeL c :=
  ascL_eq ((perm_of (ascL_nodup ha) (fun x hx => mem_iotaL.2 (hr x hx)) (by rw [iotaL_len, hl]; exact Nat.le_refl _)).trans (gradeL_perm c).symm) ha (gradeL_asc c)
theorem ascL_of {k : Int → Int} {l : List Int} (h : ∀ i j, i < j → j < l.length → plt k (l.getD i 0) (l.getD j 0)) : ascL k l := by
  induction l with
  | nil => trivial
  | cons x l ih =>
    refine ⟨fun y hy => ?_, ih fun i j p q => ?_⟩
    · obtain ⟨i, hi, rfl⟩ := List.getElem_of_mem hy
      have := h 0 (i + 1) (by omega) (by simpa using hi)
      simpa [hi] using this
    · have := h (i + 1) (j + 1) (by omega) (by simpa using q)
      simpa using this
theorem ascL_at {k : Int → Int} {l : List Int} (h : ascL k l) : ∀ i j, i < j → j < l.length → plt k (l.getD i 0) (l.getD j 0) := by
  induction l with
  | nil => intro i j _ h; simp at h
  | cons x l ih =>
    intro i j p q
    cases j with
    | zero => omega
    | succ j =>
      have q' : j < l.length := by simpa using q
      cases i with
      | zero =>
        have := h.1 l[j] (List.getElem_mem q')
        simpa [q'] using this
      | succ i => simpa using ih h.2 i j (by omega) q'
/-- What the sort leaves is the grade. -/
theorem Run.grade {c : List Int} {f : Nat → Int} (h : Run (keyOf c) f 0 c.length) : (List.range c.length).map f = gradeL c := by
  refine gradeL_unique (by simp) (fun x hx => ?_) (ascL_of fun i j p q => ?_)
  · obtain ⟨i, hi, rfl⟩ := List.mem_map.1 hx
    have := h.2 i (Nat.zero_le _) (List.mem_range.1 hi); omega
  · have hj : j < c.length := by simpa using q
    have hi : i < c.length := by omega
    simpa [hi, hj] using h.1 i j (Nat.zero_le _) p hj
end Go.Proofs.Ytfbloddffhafdaa

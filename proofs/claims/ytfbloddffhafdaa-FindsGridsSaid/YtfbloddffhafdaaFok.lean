/-
  Plain laws of chapter 8: what the functions answer at vectors; sorting.
-/
import Derived.Test.YtfbloddffhafdaaFord
namespace Go.Proofs.Ytfbloddffhafdaa
open Go.RowKit

theorem achk_mk {k r l0 l1 : Int} {xs : List Int} (hk : k = 1 ∨ k = 2) (hs : shp r l0 l1 = 0) (hl : (xs.length : Int) = prodI r l0 l1) (ha : ∀ x ∈ xs, rightB k x = true) : achk k r l0 l1 xs = 0 := by
  unfold achk
  rw [if_neg (by omega), if_neg (fun h => h hs), if_neg (fun h => h hl), if_neg]
  rw [List.any_eq_true]
  rintro ⟨x, hx, h⟩
  rw [ha x hx] at h
  cases h
theorem achk_all {k r l0 l1 : Int} {xs : List Int} (h : achk k r l0 l1 xs = 0) : ∀ x ∈ xs, rightB k x = true := by
  obtain ⟨_, _, _, h4⟩ := achk_ok h
  intro x hx
  rw [List.any_eq_false] at h4
  have := h4 x hx
  simpa using this
theorem vec_ok {k l0 l1 : Int} {xs : List Int} (h : achk k 1 l0 l1 xs = 0) : (k = 1 ∨ k = 2) ∧ l0 = (xs.length : Int) ∧ l1 = 0 ∧ xs.length ≤ 400 := by
  have h0 := achk_ok h
  have h1 := achk_len h
  have h2 := h0.2.2.1
  rcases shp_ok h0.2.1 with ⟨e, _⟩ | ⟨_, e1, e2, e3⟩ | ⟨e, _⟩
  · omega
  · simp [prodI] at h2
    exact ⟨by have := h0.1; omega, by omega, e3, h1⟩
  · omega
theorem vec_mk {k : Int} {xs : List Int} (hk : k = 1 ∨ k = 2) (hl : xs.length ≤ 400) (ha : ∀ x ∈ xs, rightB k x = true) : achk k 1 (xs.length : Int) 0 xs = 0 := by
  have h1 : shp 1 (xs.length : Int) 0 = 0 := by
    unfold shp
    simp only [prodI]
    rw [if_neg (by omega), if_neg (by omega), if_neg (by omega), if_neg (by simp; omega)]
  exact achk_mk hk h1 (by simp [prodI]) ha
theorem right_int (x : Int) : rightB 1 x = true := by simp [rightB]
theorem ivec_mk {xs : List Int} (hl : xs.length ≤ 400) : achk 1 1 (xs.length : Int) 0 xs = 0 := vec_mk (.inl rfl) hl fun x _ => right_int x
theorem ivec_mk' {xs : List Int} {n : Nat} (hl : xs.length = n) (hn : n ≤ 400) : achk 1 1 (n : Int) 0 xs = 0 := by subst hl; exact ivec_mk hn
theorem sGrade_vec {l0 l1 : Int} {xs : List Int} (h : achk 1 1 l0 l1 xs = 0) : sGrade ⟨1, 1, l0, l1, xs⟩ = (⟨1, 1, xs.length, 0, gradeL xs⟩, 0) := by
  unfold sGrade gradeE chkA
  simp only [h]
  rfl
theorem sIota_int {n : Nat} (h : n ≤ 400) : sIota ⟨1, 0, 0, 0, [(n : Int)]⟩ = (⟨1, 1, n, 0, iotaL n⟩, 0) := by
  have hc : achk 1 0 0 0 [(n : Int)] = 0 := achk_mk (.inl rfl) (by decide) rfl fun x _ => right_int x
  have e : iotaE ⟨1, 0, 0, 0, [(n : Int)]⟩ = 0 := by unfold iotaE chkA; simp only [hc]; rfl
  unfold sIota
  rw [if_neg (fun g => g e)]
  simp only [List.getD_cons_zero]
  rw [if_neg (by omega), if_neg (by omega), Int.toNat_natCast]
theorem sFAt_vec {k l0 l1 m0 m1 : Int} {xs ps : List Int} (hv : achk k 1 l0 l1 xs = 0) (hi : achk 1 1 m0 m1 ps = 0) (hin : ∀ p ∈ ps, 0 ≤ p ∧ p < (xs.length : Int)) :
    sFAt ⟨k, 1, l0, l1, xs⟩ ⟨1, 1, m0, m1, ps⟩ = (⟨k, 1, m0, m1, ps.map (fun x => xs.getD x.toNat 0)⟩, 0) := by
  have e : atE ⟨k, 1, l0, l1, xs⟩ ⟨1, 1, m0, m1, ps⟩ = 0 := by unfold atE chkA; simp only [hv, hi]; rfl
  unfold sFAt
  rw [if_neg (fun g => g e), if_neg]
  have : ps.all (inR xs.length) = true := by
    rw [List.all_eq_true]
    intro p hp
    exact decide_eq_true (hin p hp)
  simp [this]
theorem sFIn_vec {k l0 l1 m0 m1 : Int} {xs ys : List Int} (hv : achk k 1 l0 l1 xs = 0) (hi : achk k 1 m0 m1 ys = 0) :
    sFIn ⟨k, 1, l0, l1, xs⟩ ⟨k, 1, m0, m1, ys⟩ = (⟨1, 1, l0, l1, xs.map (isIn ys)⟩, 0) := by
  have e : inE ⟨k, 1, l0, l1, xs⟩ ⟨k, 1, m0, m1, ys⟩ = 0 := by unfold inE chkA; simp only [hv, hi]; simp [fE, orE]
  unfold sFIn
  rw [if_neg (fun g => g e)]
theorem sPick_vec {k l0 l1 m0 m1 : Int} {ms xs : List Int} (hm : achk 1 1 m0 m1 ms = 0) (hv : achk k 1 l0 l1 xs = 0) (hl : ms.length = xs.length) :
    sPick ⟨1, 1, m0, m1, ms⟩ ⟨k, 1, l0, l1, xs⟩ = (⟨k, 1, (pickL ms xs).length, 0, pickL ms xs⟩, 0) := by
  have e : pickE ⟨1, 1, m0, m1, ms⟩ ⟨k, 1, l0, l1, xs⟩ = 0 := by unfold pickE chkA; simp only [hm, hv]; rfl
  unfold sPick
  rw [if_neg (fun g => g e), if_neg (fun g => g hl)]

/-! Sorting. -/
/-- The cells in their order. -/
def srtL (c : List Int) : List Int := (gradeL c).map (fun x => c.getD x.toNat 0)
theorem srtL_len (c : List Int) : (srtL c).length = c.length := by rw [srtL, List.length_map, gradeL_len]
theorem map_at (f : Int → Int) (l : List Int) (j : Nat) (h : j < l.length) : (l.map f).getD j 0 = f (l.getD j 0) := by simp [h]
theorem srtL_at (c : List Int) (j : Nat) (h : j < c.length) : (srtL c).getD j 0 = keyOf c ((gradeL c).getD j 0) := by
  rw [srtL, map_at _ _ _ (by rw [gradeL_len]; exact h)]; rfl
theorem gradeL_in (c : List Int) (j : Nat) (h : j < c.length) : 0 ≤ (gradeL c).getD j 0 ∧ (gradeL c).getD j 0 < c.length :=
  mem_gradeL.1 (by rw [getD_get (by rw [gradeL_len]; exact h)]; exact List.getElem_mem _)
theorem gradeL_lt (c : List Int) (i j : Nat) (h : i < j) (hj : j < c.length) : plt (keyOf c) ((gradeL c).getD i 0) ((gradeL c).getD j 0) :=
  ascL_at (gradeL_asc c) i j h (by rw [gradeL_len]; exact hj)
/-- Grade of what is sorted: 0, 1, 2 and so on. -/
theorem sorted_grade (c : List Int) : gradeL (srtL c) = iotaL c.length := by
  refine (gradeL_unique (by rw [iotaL_len, srtL_len]) (fun x hx => by rw [srtL_len]; exact mem_iotaL.1 hx) (ascL_of fun i j h hj => ?_)).symm
  rw [iotaL_len] at hj
  rw [iotaL_get _ _ (by omega), iotaL_get _ _ hj]
  have h1 := srtL_at c i (by omega)
  have h2 := srtL_at c j hj
  have h3 := gradeL_lt c i j h hj
  unfold plt at h3
  show _ ∨ _
  unfold keyOf at *
  rw [Int.toNat_natCast, Int.toNat_natCast, h1, h2]
  omega
/-- Where each place goes. -/
theorem back_places (c : List Int) : (gradeL (gradeL c)).map (fun x => (gradeL c).getD x.toNat 0) = iotaL c.length := by
  have hb : (gradeL (gradeL c)).length = c.length := by rw [gradeL_len, gradeL_len]
  have ha : ascL (fun x => x) ((gradeL (gradeL c)).map (fun x => (gradeL c).getD x.toNat 0)) := by
    refine ascL_of fun i j h hj => ?_
    rw [List.length_map, hb] at hj
    rw [map_at _ _ _ (by omega), map_at _ _ _ (by omega)]
    have h3 := gradeL_lt (gradeL c) i j h (by rw [gradeL_len]; exact hj)
    have i1 := gradeL_in (gradeL c) i (by rw [gradeL_len]; omega)
    have i2 := gradeL_in (gradeL c) j (by rw [gradeL_len]; omega)
    rw [gradeL_len] at i1 i2
    rcases h3 with h3 | ⟨h3, h4⟩
    · exact .inl h3
    · exfalso
      have h5 : ((gradeL (gradeL c)).getD i 0).toNat < ((gradeL (gradeL c)).getD j 0).toNat := by omega
      have h6 := gradeL_lt c _ _ h5 (by omega)
      unfold keyOf at h3
      rw [h3] at h6
      exact plt.irr h6
  have hi : ascL (fun x : Int => x) (iotaL c.length) := ascL_of fun i j h hj => by
    rw [iotaL_len] at hj
    rw [iotaL_get _ _ (by omega), iotaL_get _ _ hj]
    exact .inl (Int.ofNat_lt.2 h)
  refine ascL_eq (perm_of (ascL_nodup ha) (fun x hx => ?_) (by rw [List.length_map, hb, iotaL_len]; exact Nat.le_refl _)) ha hi
  obtain ⟨y, hy, rfl⟩ := List.mem_map.1 hx
  have := mem_gradeL.1 hy
  rw [gradeL_len] at this
  exact mem_iotaL.2 (gradeL_in c _ (by omega))
theorem back_sorted (c : List Int) : (gradeL (gradeL c)).map (fun x => (srtL c).getD x.toNat 0) = c := by
  have hb : (gradeL (gradeL c)).length = c.length := by rw [gradeL_len, gradeL_len]
  apply List.ext_getElem
  · rw [List.length_map, hb]
  · intro p h1 h2
    rw [← getD_get h1, ← getD_get h2, map_at _ _ _ (by omega)]
    have i1 := gradeL_in (gradeL c) p (by rw [gradeL_len]; exact h2)
    rw [gradeL_len] at i1
    rw [srtL_at c _ (by omega)]
    have h3 := congrArg (fun l => l.getD p 0) (back_places c)
    rw [map_at _ _ _ (by omega), iotaL_get _ _ h2] at h3
    rw [h3, keyOf, Int.toNat_natCast]
/-- No place twice. -/
theorem gradeL_new (c : List Int) (i : Nat) (h : i < c.length) : (gradeL c).getD i 0 ∉ (gradeL c).take i := by
  intro g
  obtain ⟨p, hp, e⟩ := List.getElem_of_mem g
  rw [List.length_take, gradeL_len] at hp
  rw [List.getElem_take] at e
  have h1 := gradeL_lt c p i (by omega) h
  rw [← e, getD_get (by rw [gradeL_len]; omega)] at h1
  exact plt.irr h1
end Go.Proofs.Ytfbloddffhafdaa

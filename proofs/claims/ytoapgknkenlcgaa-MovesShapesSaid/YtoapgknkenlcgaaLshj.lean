/-
  The law MovesShapes: it returns true.
-/
import Derived.Test.YtoapgknkenlcgaaMshp
import Derived.Test.YtoapgknkenlcgaaLsx1
import Derived.Test.YtoapgknkenlcgaaLsx2
import Derived.Test.YtoapgknkenlcgaaLsx3
import Derived.Test.YtoapgknkenlcgaaLsx4
namespace Go.Proofs.Ytoapgknkenlcgaa
open Go.RowKit

theorem lawShapes_any (km rm um vm : Int) (Am : Option Addr) (nm cm : Nat) (xsm : List Int) (kv rv uv vv : Int) (Av : Option Addr) (nv cv : Nat) (xsv : List Int) (P Q : Nat) (w : World) (hsm : Sl w Am nm cm xsm) (hsv : Sl w Av nv cv xsv) (hPb : P ≤ 255) (hQb : Q ≤ 255) :
    Calls Try.prog 10 #[.agg #[.int .i64 km, .int .i64 rm, .int .i64 um, .int .i64 vm, .slice Am nm cm], .agg #[.int .i64 kv, .int .i64 rv, .int .i64 uv, .int .i64 vv, .slice Av nv cv], .agg #[.int .u8 (P : Int), .int .u8 (Q : Int)]] w fun e w' => e = .returned (.bool true) ∧ Below w.heap.size w w' := by
  by_cases hfa : 405 < nm
  · exact shape_fa km rm um vm Am nm cm xsm kv rv uv vv Av nv cv xsv P Q w hsm hsv hfa
  by_cases hfb : 405 < nv
  · exact shape_fb km rm um vm Am nm cm xsm kv rv uv vv Av nv cv xsv P Q w hsm hsv hfa hfb
  obtain ⟨ecm, hM⟩ : ∃ ecm, achk km rm um vm xsm = ecm := ⟨_, rfl⟩
  obtain ⟨tv, hT⟩ : ∃ tv : Bool, (tv = false ∧ (ecm == 0) = false) ∨ (tv = false ∧ ecm = 0 ∧ (rm == 2) = false) ∨ (tv = true ∧ ecm = 0 ∧ rm = 2 ∧ sRavel ⟨km, 2, um, vm, xsm⟩ = (⟨km, 1, (nm : Int), 0, xsm⟩, 0) ∧ sGrid ⟨1, 1, 2, 0, [um, vm]⟩ ⟨km, 1, (nm : Int), 0, xsm⟩ = (⟨km, 2, um, vm, xsm⟩, 0)) := by
    by_cases h0 : ecm = 0
    · by_cases h2 : rm = 2
      · subst h2
        obtain ⟨g1, g2⟩ := ravel_grid (hM.trans h0) hsm.len
        exact ⟨true, .inr (.inr ⟨rfl, h0, rfl, g1, g2⟩)⟩
      · exact ⟨false, .inr (.inl ⟨rfl, h0, by simpa using h2⟩)⟩
    · exact ⟨false, .inl ⟨rfl, by simpa using h0⟩⟩
  by_cases hV : achk kv rv uv vv xsv = 0
  · by_cases hr : rv = 1
    · subst hr
      have hrv : ((1 : Int) != 1) = false := rfl
      obtain ⟨x, hx⟩ : ∃ x, x = P % 25 := ⟨_, rfl⟩
      obtain ⟨y, hy⟩ : ∃ y, y = Q % 25 := ⟨_, rfl⟩
      have hP : Int.tmod (P : Int) 25 = (x : Int) := by rw [hx]; rfl
      have hQ : Int.tmod (Q : Int) 25 = (y : Int) := by rw [hy]; rfl
      have hx4 : x ≤ 24 := by omega
      have hy4 : y ≤ 24 := by omega
      have hNb : x * y ≤ 576 := Nat.mul_le_mul hx4 hy4
      have hc : ((x * y : Nat) : Int) = (x : Int) * (y : Int) := by simp
      have hN : IntKind.i64.wrap ((x : Int) * (y : Int)) = ((x * y : Nat) : Int) := by
        rw [← hc]; exact IntWalk.i64_in _ (by omega)
      obtain ⟨hk, _, _, _⟩ := achk_ok hV
      have hall := achk_all hV
      have hgp := grid_pair (a := (x : Int)) (b := (y : Int)) (v := ⟨kv, 1, uv, vv, xsv⟩) hV rfl (by omega) (by omega) (by omega) (by omega)
      have hlen : xsv.length = nv := hsv.len
      have e1 : ((x : Int) * (y : Int)).toNat = x * y := by rw [← hc]; rfl
      simp only [hlen, e1] at hgp
      clear hx hy
      by_cases h4 : 400 < x * y
      · rw [if_pos (by omega)] at hgp
        exact shapeX_err15 km rm um vm Am nm cm xsm kv 1 uv vv Av nv cv xsv P Q w hsm hsv hfa hfb ecm hM tv hT hV hrv x y hP hQ hPb hQb hx4 hy4 (x * y) hN hNb (by simp; omega) _ _ _ _ _ hgp
      · rw [if_neg (by omega)] at hgp
        by_cases hn : nv = 0
        · have hnv : ((nv : Int) == 0) = true := by simpa using hn
          by_cases h0 : x * y = 0
          · rw [if_neg (by omega)] at hgp
            have hag : again xsv (x * y) = [] := by rw [h0]; rfl
            rw [hag] at hgp
            have hm := chk_mat (k := kv) (x := x) (y := y) (gs := []) hk (by omega) (by omega) (by omega) (by simp; omega) (fun z hz => by cases hz)
            have hR := (ravel_grid (n := x * y) hm (by simp; omega)).1
            exact shapeX_empty km rm um vm Am nm cm xsm kv 1 uv vv Av nv cv xsv P Q w hsm hsv hfa hfb ecm hM tv hT hV hrv x y hP hQ hPb hQb hx4 hy4 (x * y) hN hNb [] hgp hR (by simp; omega) hnv h0
          · rw [if_pos (by omega)] at hgp
            exact shapeX_err13 km rm um vm Am nm cm xsm kv 1 uv vv Av nv cv xsv P Q w hsm hsv hfa hfb ecm hM tv hT hV hrv x y hP hQ hPb hQb hx4 hy4 (x * y) hN hNb (by simp; omega) (by omega) hnv _ _ _ _ _ hgp
        · rw [if_neg (by omega)] at hgp
          have hga : (again xsv (x * y)).length = x * y := again_len _ _
          have hm := chk_mat (k := kv) (x := x) (y := y) hk (by omega) (by omega) (by omega) hga (fun z hz => hall z (again_mem (.inr (by omega)) z hz))
          have hR := (ravel_grid (n := x * y) hm hga).1
          have hv0 : xsv.getD 0 0 ∈ xsv := getD_mem (by omega)
          have hvr := hall _ hv0
          have hF : sFill ⟨1, 0, 0, 0, [(y : Int)]⟩ ⟨kv, 0, 0, 0, [xsv.getD 0 0]⟩ = (⟨kv, 1, (y : Int), 0, List.replicate y (xsv.getD 0 0)⟩, 0) := by
            unfold sFill
            rw [if_neg (fun g => g (two_scalars hk hvr))]
            simp only [List.getD_cons_zero]
            rw [if_neg (by omega), if_neg (by omega)]
            simp [vecA]
          have hone : chkA ⟨kv, 1, 1, 0, [xsv.getD 0 0]⟩ = 0 := (okA_vec (c := [xsv.getD 0 0]) hk (by simp) (fun z hz => by rw [List.mem_singleton] at hz; rw [hz]; exact hvr)).1
          have hG2 := grid_pair (a := 1) (b := (y : Int)) hone rfl (by decide) (by omega) (by decide) (by omega)
          rw [if_neg (by omega), if_neg (by simp)] at hG2
          have e2 : ((1 : Int) * (y : Int)).toNat = y := by omega
          rw [e2, again_one] at hG2
          have hm2 := chk_mat (k := kv) (x := 1) (y := y) (gs := List.replicate y (xsv.getD 0 0)) hk (by omega) (by omega) (by omega) (by simp) (fun z hz => by rw [(List.mem_replicate.1 hz).2]; exact hvr)
          have hR2 := (ravel_grid (n := y) hm2 (by simp)).1
          exact shapeX_full km rm um vm Am nm cm xsm kv 1 uv vv Av nv cv xsv P Q w hsm hsv hfa hfb ecm hM tv hT hV hrv x y hP hQ hPb hQb hx4 hy4 (x * y) hN hNb _ hgp hR hga (by omega) (fun j hj => by rw [again_getD hj, hlen]) _ rfl _ hF hG2 hR2 (fun z hz => by rw [List.mem_singleton] at hz; omega)
    · exact shapeX_bad km rm um vm Am nm cm xsm kv rv uv vv Av nv cv xsv P Q w hsm hsv hfa hfb ecm hM tv hT _ rfl (.inr ⟨by simpa using hV, by simpa using hr⟩)
  · exact shapeX_bad km rm um vm Am nm cm xsm kv rv uv vv Av nv cv xsv P Q w hsm hsv hfa hfb ecm hM tv hT _ rfl (.inl (by simpa using hV))
end Go.Proofs.Ytoapgknkenlcgaa

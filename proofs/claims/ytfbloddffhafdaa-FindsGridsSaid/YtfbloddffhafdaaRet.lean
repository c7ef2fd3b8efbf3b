/-
  A call's return whose first result is an array that lies in a block of the call's own.
-/
import Derived.Test.YtfbloddffhafdaaBase2
import Derived.Test.YtfbloddffhafdaaProg
namespace Go.Proofs.Ytfbloddffhafdaa
open Go.RowKit

theorem retA {fn : Func} {tB : Tmp} {a : Act} {w : World} {R : Ending → World → Prop} {B : Nat} {k r l0 l1 : Int} {A : Option Addr} {n c : Nat}
    (hres : fn.results = #[.cell tB 25]) (hd : a.defers = []) (hp : a.tmps.getD tB undef = .pointer (some ⟨B, 0, none⟩))
    (hb : Bx w B #[.int .i64 k, .int .i64 r, .int .i64 l0, .int .i64 l1, .slice A n c] 25) (hR : R (.returned (.agg #[.int .i64 k, .int .i64 r, .int .i64 l0, .int .i64 l1, .slice A n c])) w) : bodyPost Try.prog fn R .ret a w := by
  have g := hb.cell
  rw [Array.getD_eq_getD_getElem?] at hp
  refine bodyPost_ret (v := .agg #[.int .i64 k, .int .i64 r, .int .i64 l0, .int .i64 l1, .slice A n c]) ?_ hd hR
  simp [results, hres, hp, go_sem, g]
theorem retAE {fn : Func} {tB t : Tmp} {a : Act} {w : World} {R : Ending → World → Prop} {B : Nat} {k r l0 l1 ec : Int} {A : Option Addr} {n c : Nat}
    (hres : fn.results = #[.cell tB 25, .tmp t]) (hd : a.defers = []) (hp : a.tmps.getD tB undef = .pointer (some ⟨B, 0, none⟩)) (he : a.tmps.getD t undef = .int .i64 ec)
    (hb : Bx w B #[.int .i64 k, .int .i64 r, .int .i64 l0, .int .i64 l1, .slice A n c] 25) (hR : R (.returned (.tuple #[.agg #[.int .i64 k, .int .i64 r, .int .i64 l0, .int .i64 l1, .slice A n c], .int .i64 ec])) w) : bodyPost Try.prog fn R .ret a w := by
  have g := hb.cell
  rw [Array.getD_eq_getD_getElem?] at hp he
  refine bodyPost_ret (v := .tuple #[.agg #[.int .i64 k, .int .i64 r, .int .i64 l0, .int .i64 l1, .slice A n c], .int .i64 ec]) ?_ hd hR
  simp [results, hres, hp, he, go_sem, g]
end Go.Proofs.Ytfbloddffhafdaa

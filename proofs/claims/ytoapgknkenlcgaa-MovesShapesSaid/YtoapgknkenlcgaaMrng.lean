/-
  moves.rows: the rows of a vector or a matrix, one after the other.
-/
import Derived.RangeFuncNested
import Derived.RangeFuncBound
import Derived.RangeFuncCalls
import Derived.RangeFuncLeaves
import Derived.Shelf.Abstract
import Derived.Shelf.RegionOpen
import Derived.WalkKit
import Derived.OwnWalkIn
import Derived.TacticsInMore
import Derived.LoopNIn
import Derived.LoopIn
import Derived.Test.YtoapgknkenlcgaaRet
import Derived.Deep.OwnRows
import Derived.Test.YtoapgknkenlcgaaMblk
namespace Go.Proofs.Ytoapgknkenlcgaa
open Go.RowKit Go.Shelf
attribute [local go_sem] Oper.semAt_some

/-- Row i, of q cells, of a slice that begins at A. -/
def rowV (A : Option Addr) (q i : Nat) : Value := .slice (if q = 0 then A else A.map (·.add (i * q))) q q
def encR (A : Option Addr) (q i : Nat) : Array Value := #[.int .i64 i, rowV A q i]
theorem below_grown {w w' : World} (h : Below w.heap.size w w') : w.grownBy w' none := ⟨h.os, h.tape, h.output, h.size, fun k hk _ => h.block k hk⟩

set_option maxRecDepth 100000 in
set_option maxHeartbeats 2000000 in
theorem rng_in (n : Nat) (hn : 1 ≤ n) (l Bn : Nat) (k r l0 l1 : Int) (A : Option Addr) (len c q m : Nat) (hc : m * q ≤ len) (hlc : len ≤ c) (hm : m ≤ 400) (hq : q ≤ 400) (hcc : c ≤ 9223372036854775807)
    (hcol : ∀ W, Calls Try.prog 49 #[.agg #[.int .i64 k, .int .i64 r, .int .i64 l0, .int .i64 l1, .slice A len c]] W fun e w' => e = .returned (.int .i64 q) ∧ Below W.heap.size W w')
    (hhei : ∀ W, Calls Try.prog 48 #[.agg #[.int .i64 k, .int .i64 r, .int .i64 l0, .int .i64 l1, .slice A len c]] W fun e w' => e = .returned (.int .i64 m) ∧ Below W.heap.size W w')
    (J Jx : List Nat → World → Prop) (W : World) (hJ : AbidesFrom W.heap.size J)
    (hY : ∀ pre x W1, J pre W1 → pre.length < m → x < m → YieldAt Fence.wide (n - 1) Try.prog l (encR A q x) W1 fun e W' =>
      (e = .returned (.bool true) ∧ J (pre ++ [x]) W' ∧ W'.heap[Bn]? = W1.heap[Bn]?) ∨ (e = .returned (.bool false) ∧ Jx (pre ++ [x]) W'))
    (hB : Bx W Bn #[.int .i64 k, .int .i64 r, .int .i64 l0, .int .i64 l1, .slice A len c] 25) (h0 : J [] W) :
    CallsIn Fence.wide n Try.prog 59 #[.func (.yield l) #[] #[], .pointer (some ⟨Bn, 0, none⟩)] W fun e W' => (∃ v, e = .returned v) ∧
      ((∃ ys, ys = List.range m ∧ J ys W') ∨ (∃ pre, (∃ k, k ≤ m ∧ pre = List.range k) ∧ Jx pre W')) := by
  refine callsIn_of_wp Try.func59 rfl trivial ?_ rfl
  simp only [Try.ntmps59, List.size_toArray, List.length_cons, List.length_nil, Nat.reduceAdd, Nat.reduceSub, Array.replicate_succ, Array.replicate_zero, List.push_toArray, List.append_toArray, List.nil_append, List.cons_append]
  have c0 : ∀ i, W.cell? ⟨Bn, i, none⟩ = _ := hB.cell
  gi_wp2_with fail
  refine ⟨trivial, (callsIn_wide.2 (hcol _)).mono ?_⟩
  rintro e w1 ⟨rfl, hb1⟩
  have X1 := Bx.step hB hb1
  have c1 : ∀ i, w1.cell? ⟨Bn, i, none⟩ = _ := X1.cell
  clear c0
  gi_wp2_with fail
  refine ⟨trivial, (callsIn_wide.2 (hhei _)).mono ?_⟩
  rintro e w2 ⟨rfl, hb2⟩
  have X2 := Bx.step X1 hb2
  have h2 : J [] w2 := hJ _ _ _ none (hJ _ _ _ none h0 (below_grown hb1) (fun r e => by cases e)) (below_grown hb2) (fun r e => by cases e)
  clear c1 X1
  gi_wp2
  gi_loopw [9] (fun i wr => ∃ j : Nat, j ≤ m ∧ i = .int .i64 j ∧ J (List.range j) wr ∧ Bx wr Bn #[.int .i64 k, .int .i64 r, .int .i64 l0, .int .i64 l1, .slice A len c] 25)
    (fun i _ => m - (intOf i).toNat)
  case atStart => exact ⟨0, Nat.zero_le _, rfl, h2, X2⟩
  case round =>
    obtain ⟨j, hj, rfl, hJs, hX⟩ := hrel
    have d0 : ∀ i, wr.cell? ⟨Bn, i, none⟩ = _ := hX.cell
    by_cases hlt : j < m
    · obtain ⟨p, hp⟩ : ∃ p, j * q = p := ⟨_, rfl⟩
      have hpm : p + q ≤ len := by
        have := Nat.mul_le_mul_right q (show j + 1 ≤ m from hlt)
        rw [Nat.succ_mul] at this
        omega
      have hpb : p ≤ 160000 := by
        rw [← hp]
        exact Nat.mul_le_mul (show j ≤ 400 by omega) hq
      have hpi : (j : Int) * (q : Int) = (p : Int) := by rw [← hp]; simp
      have e2 : IntKind.i64.wrap ((j : Int) * (q : Int)) = (p : Int) := by rw [hpi]; exact IntWalk.i64_in _ (by omega)
      obtain ⟨fn, tmps, assign, body, hy, hR⟩ := hY _ j wr hJs (by simpa using hlt) hlt
      have hsucc : List.range j ++ [j] = List.range (j + 1) := by rw [List.range_succ]
      rw [hsucc] at hR
      have HS := Lib.hid hsucc
      have HP := Lib.hid hp
      simp only [encR, rowV, hp] at hy
      clear hp hsucc hpi
      by_cases hq0 : q = 0
      · rw [if_pos hq0, hq0] at hy
        have hq1 : p + q = p := by omega
        clear hq0
        gi_wp2
        refine hR.mono ?_
        rintro e W3 (⟨rfl, hJ3, hk3⟩ | ⟨rfl, hJx3⟩)
        · gi_wp2
          go_roundw
          case rel => exact ⟨j + 1, by omega, by simp, hJ3, hk3.trans hX⟩
          case measure => simp [intOf]; omega
        · gi_wp2
          refine bodyPost_ret (results_none rfl _ _ _) rfl ?_
          exact ⟨⟨_, rfl⟩, .inr ⟨_, ⟨j + 1, by omega, rfl⟩, hJx3⟩⟩
      · rw [if_neg hq0] at hy
        have hq1 : ¬ (p + q = p) := by omega
        gi_wp2
        refine hR.mono ?_
        rintro e W3 (⟨rfl, hJ3, hk3⟩ | ⟨rfl, hJx3⟩)
        · gi_wp2
          go_roundw
          case rel => exact ⟨j + 1, by omega, by simp, hJ3, hk3.trans hX⟩
          case measure => simp [intOf]; omega
        · gi_wp2
          refine bodyPost_ret (results_none rfl _ _ _) rfl ?_
          exact ⟨⟨_, rfl⟩, .inr ⟨_, ⟨j + 1, by omega, rfl⟩, hJx3⟩⟩
    · obtain rfl : j = m := by omega
      gi_wp2
      go_end0
      exact ⟨⟨_, rfl⟩, .inl ⟨_, rfl, hJs⟩⟩

theorem rng_stops (n : Nat) (hn : 1 ≤ n) (Bn : Nat) (k r l0 l1 : Int) (A : Option Addr) (len c q m : Nat) (hc : m * q ≤ len) (hlc : len ≤ c) (hm : m ≤ 400) (hq : q ≤ 400) (hcc : c ≤ 9223372036854775807)
    (hcol : ∀ W, Calls Try.prog 49 #[.agg #[.int .i64 k, .int .i64 r, .int .i64 l0, .int .i64 l1, .slice A len c]] W fun e w' => e = .returned (.int .i64 q) ∧ Below W.heap.size W w')
    (hhei : ∀ W, Calls Try.prog 48 #[.agg #[.int .i64 k, .int .i64 r, .int .i64 l0, .int .i64 l1, .slice A len c]] W fun e w' => e = .returned (.int .i64 m) ∧ Below W.heap.size W w')
    (w : World) (hB : Bx w Bn #[.int .i64 k, .int .i64 r, .int .i64 l0, .int .i64 l1, .slice A len c] 25) :
    SeqStopsK Fence.wide n Try.prog 59 #[.pointer (some ⟨Bn, 0, none⟩)] (fun i : Fin m => #[.int .i64 (i.val : Int), rowV A q i.val]) (fun W W' => W'.heap[Bn]? = W.heap[Bn]?)
      (fun ys => ys.map Fin.val = List.range m) (fun pre => ∃ j, j ≤ m ∧ pre.map Fin.val = List.range j) m w := fun l J Jx W hW hJ _ hY h0 => by
  refine (rng_in n hn l Bn k r l0 l1 A len c q m hc hlc hm hq hcc hcol hhei (fun ns W => ∃ pre : List (Fin m), pre.map Fin.val = ns ∧ J pre W) (fun ns W => ∃ pre : List (Fin m), pre.map Fin.val = ns ∧ Jx pre W) W
    (fun s A B row hs hg hr => by obtain ⟨pre, hp, hs⟩ := hs; exact ⟨pre, hp, hJ pre A B row hs hg hr⟩) ?_ (hB.step hW) ⟨[], rfl, h0⟩).mono ?_
  · rintro ns x W1 ⟨pre, hp, hs⟩ hl hx
    refine (hY pre ⟨x, hx⟩ W1 hs (by rw [← hp] at hl; simpa using hl)).mono ?_
    rintro e W' (⟨he, hj, hk⟩ | ⟨he, hj⟩)
    · exact .inl ⟨he, ⟨pre ++ [⟨x, hx⟩], by simp [hp], hj⟩, hk⟩
    · exact .inr ⟨he, ⟨pre ++ [⟨x, hx⟩], by simp [hp], hj⟩⟩
  · rintro e W' ⟨he, (⟨ys, rfl, pre, hp, hj⟩ | ⟨ns, ⟨j, hj1, rfl⟩, pre, hp, hj⟩)⟩
    · exact ⟨he, .inl ⟨pre, hp, hj⟩⟩
    · exact ⟨he, .inr ⟨pre, ⟨j, hj1, hp⟩, hj⟩⟩

set_option maxHeartbeats 400000 in
theorem mrows_any (k r l0 l1 : Int) (A : Option Addr) (n c : Nat) (w : World) :
    Calls Try.prog 50 #[.agg #[.int .i64 k, .int .i64 r, .int .i64 l0, .int .i64 l1, .slice A n c]] w fun e w' => e = .returned (.func (.func 59) #[] #[.pointer (some ⟨w.heap.size, 0, none⟩)]) ∧ w' = w.alloc (.cells #[.int .i64 k, .int .i64 r, .int .i64 l0, .int .i64 l1, .slice A n c] 25) := by
  go_enter Try.func50, Try.ntmps50
  go_wp2
  go_ret
  exact ⟨rfl, rfl⟩
theorem keepBox {w : World} {Bn : Nat} (hB : Bn < w.heap.size) (W : World) (l : Nat) (o o' : Obj) (hl : w.heap.size ≤ l) (_ : W.heap[l]? = some o) (_ : o.isCells = false) (_ : o.isWalk = false) : (W.putObj l o').heap[Bn]? = W.heap[Bn]? :=
  World.putObj_heap_other (by omega)
theorem Bx.keeps {w w' : World} {B : Nat} {cs : Array Value} {T : TypeId} {row : Option Nat} (h : Bx w B cs T) (hg : w.grownBy w' row) (hr : ∀ r, row = some r → ∃ o : Obj, w.heap[r]? = some o ∧ o.isCells = false) : Bx w' B cs T := by
  refine (hg.block B h.lt fun e => ?_).trans h
  obtain ⟨o, ho, hc⟩ := hr B e.symm
  have h' : w.heap[B]? = some (.cells cs T (0, 0)) := h
  rw [h'] at ho
  cases ho
  cases hc
theorem Bx.putD {w : World} {B D : Nat} {cs : Array Value} {T : TypeId} (h : Bx w B cs T) {o : Option (List Deferred)} (hK : w.heap[D]? = some (.deferred o)) (o' : Obj) : Bx (w.putObj D o') B cs T :=
  h.keeps (grownBy_putObj' w D o') (fun r e => by cases e; exact ⟨_, hK, rfl⟩)
theorem retME {fn : Func} {tB t : Tmp} {a : Act} {w : World} {R : Ending → World → Prop} {B D n : Nat} {k r l0 l1 ec : Int} {A : Option Addr} {nn c : Nat}
    (hres : fn.results = #[.cell tB 25, .tmp t]) (hd : a.defers = [{ target := .collected D, args := #[] }]) (hK : w.heap[D]? = some (.deferred (some []))) (hp : a.tmps.getD tB undef = .pointer (some ⟨B, 0, none⟩)) (he : a.tmps.getD t undef = .int .i64 ec)
    (hb : Bx w B #[.int .i64 k, .int .i64 r, .int .i64 l0, .int .i64 l1, .slice A nn c] 25) (hR : R (.returned (.tuple #[.agg #[.int .i64 k, .int .i64 r, .int .i64 l0, .int .i64 l1, .slice A nn c], .int .i64 ec])) (w.putObj D (.deferred none))) : bodyPostM Fence.wide n Try.prog fn R .ret a w := by
  have g := (hb.putD hK (.deferred none)).cell
  rw [Array.getD_eq_getD_getElem?] at hp he
  obtain ⟨tmps, defers⟩ := a
  simp only at hd
  subst hd
  refine ⟨by simp, .inl ⟨_, _, rfl, run_takeDeferred hK, ?_⟩⟩
  refine ⟨_, ?_, hR⟩
  simp only at hp he
  simp [results, hres, hp, he, go_sem, g]
theorem Bf.keeps {w w' : World} {g n : Nat} {f : Nat → Int} {row : Option Nat} (h : Bf w g n f) (hg : w.grownBy w' row) (hr : ∀ r, row = some r → ∃ o : Obj, w.heap[r]? = some o ∧ o.isCells = false) : Bf w' g n f := by
  obtain ⟨cur, hx, hc⟩ := h
  exact ⟨cur, hx.keeps hg hr, hc⟩
theorem Bf.putD {w : World} {g D n : Nat} {f : Nat → Int} (h : Bf w g n f) {o : Option (List Deferred)} (hK : w.heap[D]? = some (.deferred o)) (o' : Obj) : Bf (w.putObj D o') g n f :=
  h.keeps (grownBy_putObj' w D o') (fun r e => by cases e; exact ⟨_, hK, rfl⟩)
/-- A row of a slice. -/
theorem row_sl {w : World} {A : Option Addr} {n c m q : Nat} {xs : List Int} (hs : Sl w A n c xs) (hn : n = m * q) (i : Nat) (hi : i < m) : ∃ V, rowV A q i = .slice V q q ∧ Sl w V q q ((xs.drop (i * q)).take q) := by
  have hin : i * q + q ≤ n := by
    have := Nat.mul_le_mul_right q (show i + 1 ≤ m from hi)
    rw [Nat.succ_mul] at this
    omega
  by_cases hq : q = 0
  · subst hq
    exact ⟨A, rfl, by simpa using Sl.empty w A 0 (Nat.zero_le _)⟩
  · have h1 := hs.from (q := i * q) (by omega)
    have h2 := h1.to (q := q) (by omega)
    have hcap := hs.cap
    rw [if_neg (by omega)] at h2
    obtain ⟨g1, g2, g3, g4⟩ := h2
    refine ⟨A.map (·.add (i * q)), by unfold rowV; rw [if_neg hq], g1, Nat.le_refl _, by omega, g4⟩

theorem wpListIn_make_row {F : Fence} {n0 : Nat} {P : Program} (w : World) {ops : Array Oper} {rest : List Oper} {o : Oper} {a : Act} {Q : Exit → Act → World → Prop}
    (hg : o.guard = none) (l c : Operand) (t : TypeId) (hop : o.op = Op.makeSlice t l c)
    (e : TypeId) (i : TypeInfo) (z : Value) (ht : P.underlying t = some (.slice e)) (hi : P.info? e = some i) (hz : i.zero = some z) (hsize : i.size = 1) (hz1 : z.cells = #[z])
    (kl kc : IntKind) (n : Nat) (hl : a.eval l = .int kl (n : Int)) (hc : a.eval c = .int kc (n : Int)) (hbytes : i.bytes * n ≤ 281474976710656) (h63 : n ≤ 9223372036854775807)
    (hK : wpListIn F n0 P ops Q rest (a.put o.dst (.slice (some ⟨w.heap.size, 0, none⟩) n n)) (w.alloc (.cells (madeCells #[z] n) e))) :
    wpListIn F n0 P ops Q (o :: rest) a w := by
  refine wpListIn_plain hg fun K hK' => ?_
  have hrun := run_make_row (P := P) t e i z ht hi hz hsize hz1 kl kc n hbytes h63 w
  unfold Oper.wpIn
  refine ⟨?_, ?_⟩
  · simp [Oper.about, hop]
  · rw [Oper.semAt_plain F _ _ (by rw [hop]; intro c hc'; cases hc')]
    simp [execOp, hop, hl, hc, hrun, Result.andThen]
    exact hK' _ _ hK
theorem Bf.made (w : World) (n : Nat) : Bf (w.alloc (.cells (madeCells #[.int .i64 0] n) 2)) w.heap.size n (fun _ => 0) := by
  refine ⟨_, Bx.new _ _ _, fun j hj => ?_⟩
  have hs : (madeCells #[Value.int .i64 0] n).size = n := by simp [size_madeCells]
  rw [Array.getElem?_eq_getElem (by omega)]
  simp [madeCells, Nat.mod_one]
end Go.Proofs.Ytoapgknkenlcgaa
